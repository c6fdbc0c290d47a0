/- compile. pats.valid, and slices.ContainsFunc over the sounds of a word. pats.allowed: the error of a node alone. A range over a function whose loop variables are boxed. No program is named. -/
import Derived.Test.YtfdlhlghcbeblaaGreatDoorH03
import Derived.Test.YtfdlhlghcbeblaaGreatDoorH00
set_option maxRecDepth 100000
set_option maxHeartbeats 8000000
namespace Go.Proofs.YtfdlhlghcbeblaaGreatDoor
open Go.RowKit Go.Ab
theorem Tryz.infoPart:(Tryz.prog.info? 369).map (fun i=>(i.zero,i.size,i.bytes))=some (some .nilIface,1,16):=by kernel_rfl
def CmpOk(p:Pat):Prop:=∀(K:Nat->Prop) (w:World) (cs:List Value),PatAt K w p cs->okPat p ->
 Calls Tryz.prog 300 #[.agg cs.toArray] w fun e w'=>∃ u,e=.returned u/\PartAt (fun b=>w.heap.size<=b) w' (cmp p) u/\Ext w w'
theorem headD_get{l:List PartS}(h:0<l.length)(d:PartS):l.headD d=l[0]:=by
 cases l with
 | nil=>simp at h
 | cons a b=>rfl
theorem partAt_one{K:Nat->Prop}{w:World}{p:PartS}{u:Value}(h:PartAt K w p u):u.oneCell'=true:=by
 obtain⟨pay,rfl⟩:=partAt_iface h;rfl
theorem patCells_at{w:World}{g o:Nat}{cs:List Value}{k:Int}{pl mi:Nat}{nt:Bool}{mn mx:Int}{ao:Option Addr}{n cap:Nat}(h:w.rangeAt g o cs)(e:cs=patCells k pl mi nt mn mx ao n cap) :
  w.cell? ⟨g,o,none⟩=some (.int .i64 k)/\w.cell? ⟨g,o+1,none⟩=some (.int .u32 pl)/\w.cell? ⟨g,o+2,none⟩=some (.int .u32 mi)/\w.cell? ⟨g,o+3,none⟩=some (.bool nt) /\
   w.cell? ⟨g,o+4,none⟩=some (.int .i64 mn)/\w.cell? ⟨g,o+5,none⟩=some (.int .i64 mx)/\w.cell? ⟨g,o+6,none⟩=some (.slice ao n cap):=by
 subst e
 exact⟨h 0 _ rfl,h 1 _ rfl,h 2 _ rfl,h 3 _ rfl,h 4 _ rfl,h 5 _ rfl,h 6 _ rfl⟩
theorem compile_step(k:Int)(pl mi:Nat)(nt:Bool)(mn mx:Int)(l:List Pat)(ih:∀ p∈l,CmpOk p):CmpOk (.node k pl mi nt mn mx l):=by
 intro K w cs hp hok
 unfold PatAt at hp
 obtain⟨ao,cap,rfl,hpl,hmi,hlc,hcm,hps⟩:=hp
 unfold okPat at hok
 obtain⟨hnode,hl40,hoks⟩:=hok
 rw [okPats_iff] at hoks
 obtain⟨hk06,g1,g2,g3,h5,g4⟩:=nodeE_zero hnode
 clear g1 g2 g3 g4
 unfold maxLen at hcm
 obtain⟨N,hN⟩:∃ N,l.length=N:=⟨_,rfl⟩
 have HN:=Lib.hid hN
 rw [hN] at hl40 hlc h5 ⊢
 clear hN
 unfold patCells
 have IH:=Lib.hid ih;have HPS:=Lib.hid hps;have HOK:=Lib.hid hoks;have H5:=Lib.hid h5
 clear ih hps hoks h5 hnode
 go_enter Tryz.func300,Tryz.ntmps300
 go_wp2_with fail
 obtain⟨B,hB⟩:∃ B,w.heap.size=B:=⟨_,rfl⟩
 have hx:(w.alloc (.cells #[.int .i64 k,.int .u32 (pl:Int),.int .u32 (mi:Int),.bool nt,.int .i64 mn,.int .i64 mx,.slice ao N cap] 98)).heap[B]?=some (.cells #[.int .i64 k,.int .u32 (pl:Int),.int .u32 (mi:Int),.bool nt,.int .i64 mn,.int .i64 mx,.slice ao N cap] 98 (0,0)):=by
  subst hB;exact new_at rfl
 have hE:Ext w (w.alloc (.cells #[.int .i64 k,.int .u32 (pl:Int),.int .u32 (mi:Int),.bool nt,.int .i64 mn,.int .i64 mx,.slice ao N cap] 98)):=(Turn.refl _ w).alloc _
 have hO:(w.alloc (.cells #[.int .i64 k,.int .u32 (pl:Int),.int .u32 (mi:Int),.bool nt,.int .i64 mn,.int .i64 mx,.slice ao N cap] 98)).ownsRow (B+1) 369 1 (.slice none 0 0) 0 []:=World.ownsRow_nil _ _ _ _
 generalize (w.alloc (.cells #[.int .i64 k,.int .u32 (pl:Int),.int .u32 (mi:Int),.bool nt,.int .i64 mn,.int .i64 mx,.slice ao N cap] 98))=w1 at hx hE hO ⊢
 rw [hB]
 have HB:=Lib.hid hB
 have hB1:B<w1.heap.size:=(Array.getElem?_eq_some_iff.1 hx).1
 clear hB
 refine wp_loop (fun a W=>∃(j:Nat) (v:Value) (us:List Value),j<=N/\a.defers=[]/\(a.tmps.size=56/\a.tmps.getD 1 undef=.pointer (some ⟨B,0,none⟩)/\a.tmps.getD 3 undef=v/\a.tmps.getD 7 undef=.slice ao N cap/\a.tmps.getD 8 undef=.int .i64 N/\a.tmps.getD 9 undef=.int .i64 j) /\
   W.heap[B]?=some (.cells #[.int .i64 k,.int .u32 (pl:Int),.int .u32 (mi:Int),.bool nt,.int .i64 mn,.int .i64 mx,.slice ao N cap] 98 (0,0)) /\
   W.ownsRow (B+1) 369 1 v j us/\(us.length=j/\∀ i (h1:i<us.length) (h2:i<l.length),PartAt (fun b=>B+1<=b/\v.ownBlock≠some b) W (cmp l[i]) us[i])/\Ext w W)
  (fun a _=>N - (intOf (a.tmps.getD 9 undef)).toNat) ?_ ?_
 ·exact⟨0,.slice none 0 0,[],by omega,rfl,⟨rfl,rfl,rfl,rfl,rfl,rfl⟩,hx,hO,⟨rfl,fun i h=>by simp at h⟩,hE⟩
 clear hx hE hO hB1
 rintro⟨t,_⟩ W ⟨j,v,us,hj,hds,⟨hsz,f1,f3,f7,f8,f9⟩,hx,hO,⟨hul,hus⟩,hE⟩
 subst hds
 obtain⟨u',hu⟩:=frame_fun hsz
 obtain⟨u,rfl⟩:∃ x,x=u':=⟨_,rfl⟩
 have hu':t=#[u 0,u 1,u 2,u 3,u 4,u 5,u 6,u 7,u 8,u 9,u 10,u 11,u 12,u 13,u 14,u 15,u 16,u 17,u 18,u 19,u 20,u 21,u 22,u 23,u 24,u 25,u 26,u 27,u 28,u 29,u 30,u 31,u 32,u 33,u 34,u 35,u 36,u 37,u 38,u 39,u 40,u 41,u 42,u 43,u 44,u 45,u 46,u 47,u 48,u 49,u 50,u 51,u 52,u 53,u 54,u 55]:=hu
 clear hu
 subst hu'
 change u 1=_ at f1
 change u 3=_ at f3
 change u 7=_ at f7
 change u 8=_ at f8
 change u 9=_ at f9
 rw [f1,f3,f7,f8,f9]
 clear f1 f3 f7 f8 f9 hsz
 have hBW:B<W.heap.size:=(Array.getElem?_eq_some_iff.1 hx).1
 obtain⟨vo,vc,rfl⟩:=own_slice hO
 by_cases hjN:j<N
 ·have h1:(j:Int)<(N:Int):=by omega
  have hjl:j<l.length:=by rw [HN.out];exact hjN
  obtain⟨g,off,cs,rfl,hKg,hg,hra,hpa⟩:=(PatsAt.ext HPS.out hE).get j hjl
  rw [Nat.zero_add] at hra
  have hok:=HOK.out l[j] (List.getElem_mem hjl)
  have hih:=IH.out l[j] (List.getElem_mem hjl)
  obtain⟨q,hq⟩:∃ q,l[j]=q:=⟨_,rfl⟩
  rw [hq] at hok hih hpa
  obtain⟨qk,qpl,qmi,qnt,qmn,qmx,ql⟩:=q
  have hpa':=hpa
  unfold PatAt at hpa
  obtain⟨qao,qcap,hcs,_⟩:=hpa
  obtain⟨c0,c1,c2,c3,c4,c5,c6⟩:=patCells_at hra hcs
  have hEA:Ext W (W.alloc (.cells #[.int .i64 qk,.int .u32 (qpl:Int),.int .u32 (qmi:Int),.bool qnt,.int .i64 qmn,.int .i64 qmx,.slice qao ql.length qcap] 98)):=(Turn.refl _ W).alloc _
  have hcall:=hih K (W.alloc (.cells #[.int .i64 qk,.int .u32 (qpl:Int),.int .u32 (qmi:Int),.bool qnt,.int .i64 qmn,.int .i64 qmx,.slice qao ql.length qcap] 98)) cs (hpa'.ext hEA) hok
  rw [hcs] at hcall
  unfold patCells at hcall
  have HC:=Lib.hid hcall;have HEA:=Lib.hid hEA;have HQ:=Lib.hid hq;have HO:=Lib.hid hO;have HUS:=Lib.hid hus;have HX:=Lib.hid hx;have HE:=Lib.hid hE;have HUL:=Lib.hid hul
  clear hcall hEA hq hO hus hx hE hul hpa' hok hih hra hcs
  obtain⟨Q,hQ⟩:∃ Q,ql.length=Q:=⟨_,rfl⟩
  rw [hQ] at c6 HC HEA
  clear hQ
  go_wp2_with fail
  refine HC.out.mono ?_
  rintro e W2 ⟨x,rfl,hpx,hE2⟩
  obtain⟨xt,xp,rfl⟩:∃ t p,x=.iface t p:=(partAt_iface hpx).elim fun p h=>⟨_,p,h⟩
  have hsz1:(W.alloc (.cells #[.int .i64 qk,.int .u32 (qpl:Int),.int .u32 (qmi:Int),.bool qnt,.int .i64 qmn,.int .i64 qmx,.slice qao Q qcap] 98)).heap.size=W.heap.size+1:=by simp
  rw [hsz1] at hpx
  have hE02:=HEA.out.trans hE2
  have hO2:=own_ext HO.out hE02
  have hx2:=hE02.heap HX.out id
  have hs2:=hE2.size
  rw [hsz1] at hs2
  have hA3:Ext W2 (W2.alloc (.cells #[.iface xt xp] 369)):=(Turn.refl _ W2).alloc _
  have hone:=partAt_one hpx
  have HPX:=Lib.hid hpx;have HE02:=Lib.hid hE02;have HX2:=Lib.hid hx2
  clear hpx hE2 hx2 hsz1 c0 c1 c2 c3 c4 c5 c6 hE02
  go_wp2_with (at_builtin;refine append_row rfl (.tmp 13) (.tmp 16) 377 rfl (B+1) 369 _ 1 16 Tryz.underlying377 Tryz.infoPart rfl (by decide) _ _ _ rfl (own_ext hO2 hA3) ⟨W2.heap.size,0,none⟩ 1 1 [.iface xt xp] rfl rfl new_cells ?c2 ?c3 ?c4 ?c5 ?_)
  case c2=>intro y hy;simp at hy;rw [hy];exact hone
  case c3=>unfold maxLen;omega
  case c4=>omega
  case c5=>simp;omega
  intro ao' c' W3 hO3 hT3 hnb
  have hown:=fun g' hg'=>(HO.out.lt g' hg')
  have hxF:W3.heap[B]?=some (.cells #[.int .i64 k,.int .u32 (pl:Int),.int .u32 (mi:Int),.bool nt,.int .i64 mn,.int .i64 mx,.slice (some ⟨g,off,none⟩) N cap] 98 (0,0)):=
   hT3.heap (hA3.heap HX2.out id) (fun e=>by have:=(hown _ e).1;omega)
  have hEF:Ext w W3:=((HE.out.trans HE02.out).trans hA3).after hT3 (fun b' h1 e=>by have:=(hown _ e).1;have:=HB.out;omega)
  have hold:∀(P:PartS) (y:Value),PartAt (fun b=>B+1<=b/\(Value.slice vo j vc).ownBlock≠some b) W2 P y->PartAt (fun b=>B+1<=b/\(Value.slice ao' (j+1) c').ownBlock≠some b) W3 P y:=fun P y hP=>by
   have h1:=PartAt.mono (L:=fun b=>(B+1<=b/\(Value.slice vo j vc).ownBlock≠some b)/\b<W2.heap.size) (fun b hb hk=>⟨hk,hb⟩) hP
   have h2:=(h1.ext hA3).keep hT3 (fun b hb hs=>hb.1.2 hs)
   refine PartAt.mono (fun b _ hk=>⟨hk.1.1,fun e=>?_⟩) h2
   rcases hnb with h | h
   ·rw [h] at e;exact hk.1.2 e
   ·rw [h] at e
    have:=Option.some.inj e
    have hsz:=World.size_alloc W2 (.cells #[.iface xt xp] 369)
    omega
  have husF:∀ i (h1:i<(us++[Value.iface xt xp]).length) (h2:i<l.length),PartAt (fun b=>B+1<=b/\(Value.slice ao' (j+1) c').ownBlock≠some b) W3 (cmp l[i]) (us++[Value.iface xt xp])[i]:=fun i hi1 hi2=>by
   have hul:=HUL.out
   by_cases hij:i<us.length
   ·rw [List.getElem_append_left hij]
    exact hold _ _ ((HUS.out i hij hi2).ext HE02.out)
   ·have hie:i=j:=by simp at hi1;omega
    subst hie
    have e1:(us++[Value.iface xt xp])[i]=.iface xt xp:=by
     rw [List.getElem_append_right (by omega)];simp
    rw [e1,HQ.out]
    refine hold _ _ (PartAt.mono (fun b _ hb=>⟨by omega,fun e=>by have:=(hown b e).2;omega⟩) HPX.out)
  have HXF:=Lib.hid hxF;have HEF:=Lib.hid hEF;have HUF:=Lib.hid husF;have HO3:=Lib.hid hO3
  have hul2:(us++[Value.iface xt xp]).length=j+1:=by have:=HUL.out;simp;omega
  have HU2:=Lib.hid hul2
  clear hxF hEF husF hO3 hold hnb hT3 hown hA3 hO2 hul2
  go_wp2
  exact⟨⟨j+1,_,us++[Value.iface xt xp],by omega,by first | rfl | trivial,⟨rfl,rfl,rfl,rfl,rfl,rfl⟩,HXF.out,HO3.out,⟨HU2.out,HUF.out⟩,HEF.out⟩,by simp [intOf];omega⟩
 ·obtain rfl:j=N:=by omega
  have h1:¬ (j:Int)<(j:Int):=by omega
  have hparts:PartsAt (fun b=>w.heap.size<=b) W (cmpL l) vo 0:=PartsAt.mk fun i hi=>by
   have hlen:(cmpL l).length=l.length:=by rw [cmpL_map,List.length_map]
   have hil:i<l.length:=by rw [<-hlen];exact hi
   have hij:i<j:=by rw [<-HN.out];exact hil
   have hiu:i<us.length:=by omega
   rcases hO.2 with ⟨e,_⟩ | ⟨g,cap',cur,e,hbg,hg,_⟩
   ·simp only [Value.slice.injEq] at e;omega
   ·simp only [Value.slice.injEq] at e
    obtain⟨rfl,_,rfl⟩:=e
    have hc:=hO.cellAt i (by omega)
    rw [List.getElem?_eq_getElem hiu] at hc
    refine⟨g,0,us[i],rfl,by have:=HB.out;omega,(Array.getElem?_eq_some_iff.1 hg).1,by rw [Nat.zero_add,Nat.zero_add];exact hc,?_⟩
    have e2:(cmpL l)[i]=cmp l[i]:=by simp only [cmpL_map,List.getElem_map]
    rw [e2]
    exact PartAt.mono (fun b _ hb=>by have:=HB.out;omega) (hus i hiu hil)
  have hlen:(cmpL l).length=j:=by rw [cmpL_map,List.length_map,HN.out]
  have hj63:j<=maxLen:=by unfold maxLen;omega
  have hfinS:PartAt (fun b=>w.heap.size<=b) W (.seq (cmpL l)) (.iface 386 (.agg #[.slice vo j vc])):=by
   unfold PartAt;exact⟨vo,vc,by rw [hlen],by rw [hlen];exact hj63,hparts⟩
  have hfinA:PartAt (fun b=>w.heap.size<=b) W (.alt (cmpL l)) (.iface 383 (.agg #[.slice vo j vc])):=by
   unfold PartAt;exact⟨vo,vc,by rw [hlen],by rw [hlen];exact hj63,hparts⟩
  have hfinR:k=5->∃ g xt xp,vo=some ⟨g,0,none⟩/\j=1/\W.cell? ⟨g,0,none⟩=some (.iface xt xp)/\∀ m,PartAt (fun b=>w.heap.size<=b) (W.drewN m) (.rep ((cmpL l).headD (.seq [])) mn mx) (.iface 385 (.agg #[.iface xt xp,.int .i64 mn,.int .i64 mx])):=fun hk=>by
   obtain⟨e1,e2,e3,e4⟩:=H5.out hk
   have hll:0<l.length:=by rw [HN.out];omega
   obtain⟨g,off,u,hv,hKg,hg,hc,hpa⟩:=hparts.get 0 (by rw [cmpL_map,List.length_map];exact hll)
   obtain⟨xt,xp,rfl⟩:∃ t p,u=.iface t p:=(partAt_iface hpa).elim fun p h=>⟨_,p,h⟩
   rcases hO.2 with ⟨e,_⟩ | ⟨g',cap',cur,e,hbg,hg',_⟩
   ·simp only [Value.slice.injEq] at e;omega
   ·simp only [Value.slice.injEq] at e
    obtain⟨rfl,_,rfl⟩:=e
    simp only [Option.some.injEq,Addr.mk.injEq] at hv
    obtain⟨rfl,rfl,_⟩:=hv
    refine⟨g',xt,xp,rfl,e1,by simpa using hc,fun m=>?_⟩
    unfold PartAt
    refine⟨_,rfl,⟨e2,e3,e4⟩,?_⟩
    rw [headD_get (by rw [cmpL_map,List.length_map];exact hll)]
    exact hpa.ext ((Turn.refl _ W).drewN m)
  have x0:W.cell? ⟨B,0,none⟩=some (.int .i64 k):=by rw [cell_of_row _ _ _ _ _ _ hx];rfl
  have x1:W.cell? ⟨B,1,none⟩=some (.int .u32 (pl:Int)):=by rw [cell_of_row _ _ _ _ _ _ hx];rfl
  have x2:W.cell? ⟨B,2,none⟩=some (.int .u32 (mi:Int)):=by rw [cell_of_row _ _ _ _ _ _ hx];rfl
  have x3:W.cell? ⟨B,3,none⟩=some (.bool nt):=by rw [cell_of_row _ _ _ _ _ _ hx];rfl
  have x4:W.cell? ⟨B,4,none⟩=some (.int .i64 mn):=by rw [cell_of_row _ _ _ _ _ _ hx];rfl
  have x5:W.cell? ⟨B,5,none⟩=some (.int .i64 mx):=by rw [cell_of_row _ _ _ _ _ _ hx];rfl
  have HFS:=Lib.hid hfinS;have HFA:=Lib.hid hfinA;have HFR:=Lib.hid hfinR;have HE:=Lib.hid hE
  clear hfinS hfinA hfinR hE hparts hlen hus hul hO hx
  rcases(show k=0\/k=1\/k=2\/k=3\/k=4\/k=5\/k=6 by omega) with rfl | rfl | rfl | rfl | rfl | rfl | rfl
  ·go_wp2
   go_ret
   exact⟨_,rfl,by show PartAt _ _ (.seq (cmpL l)) _;exact HFS.out,HE.out⟩
  ·go_wp2
   go_ret
   exact⟨_,rfl,by show PartAt _ _ (.sound pl mi nt) _;unfold PartAt;exact⟨rfl,hpl,hmi⟩,HE.out⟩
  ·go_wp2
   go_ret
   exact⟨_,rfl,by show PartAt _ _ (.edge false) _;unfold PartAt;rfl,HE.out⟩
  ·go_wp2
   go_ret
   exact⟨_,rfl,by show PartAt _ _ (.seq (cmpL l)) _;exact HFS.out,HE.out⟩
  ·go_wp2
   go_ret
   exact⟨_,rfl,HFA.out,HE.out⟩
  ·obtain⟨g,xt,xp,rfl,hj1,hcu,hpa⟩:=HFR.out rfl
   have HPA:=Lib.hid hpa
   obtain rfl:j=1:=hj1
   clear hpa HFR
   go_wp2
   go_quiet (fail)
   go_wp2
   go_ret
   exact⟨_,rfl,HPA.out _,HE.out.drewN _⟩
  ·go_wp2
   go_ret
   exact⟨_,rfl,by show PartAt _ _ (.edge true) _;unfold PartAt;rfl,HE.out⟩
mutual
theorem compile_all:∀ p:Pat,CmpOk p
 | .node k pl mi nt mn mx l=>compile_step k pl mi nt mn mx l (compile_alls l)
theorem compile_alls:∀ l:List Pat,∀ p∈l,CmpOk p
 | [],_,h=>by cases h
 | q::l,p,h=>(List.mem_cons.1 h).elim (fun e=>e ▸ compile_all q) (fun h=>compile_alls l p h)
end
end Go.Proofs.YtfdlhlghcbeblaaGreatDoor
set_option maxRecDepth 100000
set_option maxHeartbeats 4000000
namespace Go.Proofs.YtfdlhlghcbeblaaGreatDoor
open Go.RowKit Go.Ab
theorem valid_any(a b:Nat)(ha:a<4294967296)(hb:b<4294967296)(w:World) :
  Calls Tryz.prog 223 #[.agg #[.int .u32 (a:Int),.int .u32 (b:Int)]] w fun e w'=>e=.returned (.bool (okSound a b))/\Ext w w':=by
 obtain⟨o1,o2⟩:=okSound_bits ha hb
 have hl:a ||| b<4294967296:=Nat.or_lt_two_pow (n:=32) ha hb
 have hok:okSound a b=((a &&& b == 0) && ((a ||| b) / 16777216 == 0)):=rfl
 obtain⟨x,hx⟩:∃ x,(a &&& b == 0)=x:=⟨_,rfl⟩
 obtain⟨c,hc⟩:∃ c,a ||| b=c:=⟨_,rfl⟩
 rw [hx] at o1 hok
 rw [hc] at o2 hok hl
 have q:((c:Int) / 16777216 == 0)=(c / 16777216 == 0):=by
  apply Bool.eq_iff_iff.2
  rw [beq_iff_eq,beq_iff_eq];omega
 obtain⟨y,hy⟩:∃ y,(c / 16777216 == 0)=y:=⟨_,rfl⟩
 rw [hy] at q hok
 have HOK:=Lib.hid hok
 clear hok hx hc hy
 go_enter Tryz.func223,Tryz.ntmps223
 cases x
 ·go_wp2
  go_ret
  exact⟨by rw [HOK.out];rfl,(Turn.refl _ _).alloc _⟩
 ·go_wp2
  go_ret
  exact⟨by rw [HOK.out];rfl,(Turn.refl _ _).alloc _⟩
theorem bad_any(a b:Nat)(ha:a<4294967296)(hb:b<4294967296)(w:World) :
  Calls Tryz.prog 299 #[.agg #[.int .u32 (a:Int),.int .u32 (b:Int)]] w fun e w'=>e=.returned (.bool (!okSound a b))/\Ext w w':=by
 go_enter Tryz.func299,Tryz.ntmps299
 go_wp2_with fail
 refine(valid_any a b ha hb _).mono ?_
 rintro e w2 ⟨rfl,hE2⟩
 have hE:=((Turn.refl (fun _=>False) w).alloc (.cells #[.int .u32 (a:Int),.int .u32 (b:Int)] 95)).trans hE2
 go_wp2
 go_ret
 exact⟨rfl,hE⟩
def allV(ws:Wd):Bool:=ws.all fun s=>okSound s.1 s.2
theorem allV_snoc(ws:Wd)(s:Nat × Nat):allV (ws++[s])=(allV ws && okSound s.1 s.2):=by simp [allV]
theorem allV_at{ws:Wd}{k:Nat}(hk:k<ws.length)(h:okSound (ws.getD k (0,0)).1 (ws.getD k (0,0)).2=false):allV ws=false:=by
 unfold allV
 rw [List.all_eq_false]
 refine⟨ws[k],List.getElem_mem hk,?_⟩
 rw [List.getD_eq_getElem?_getD,List.getElem?_eq_getElem hk] at h
 simpa using h
theorem allV_take{ws:Wd}{k:Nat}(hk:k<ws.length)(h0:allV (ws.take k)=true) (h:okSound (ws.getD k (0,0)).1 (ws.getD k (0,0)).2=true):allV (ws.take (k+1))=true:=by
 rw [List.take_succ_eq_append_getElem hk,allV_snoc,h0]
 rw [List.getD_eq_getElem?_getD,List.getElem?_eq_getElem hk] at h
 simpa using h
theorem index_bad{w:World}{v:Value}{ws:Wd}(hv:WordAt w v ws) :
  Calls Tryz.prog 198 #[v,.func (.func 299) #[] #[]] w fun e w'=>∃ z:Int,e=.returned (.int .i64 z)/\decide (0<=z)=(!allV ws)/\Ext w w':=by
 obtain⟨ao,cap,rfl,hlm⟩:=hv.slice
 unfold maxLen at hlm
 have HV:=Lib.hid hv
 clear hv
 obtain⟨N,hN⟩:∃ N,ws.length=N:=⟨_,rfl⟩
 have HN:=Lib.hid hN
 rw [hN] at hlm HV ⊢
 clear hN
 go_enter Tryz.func198,Tryz.ntmps198
 go_wp2
 refine wp_loop (fun a W=>∃(k:Nat),k<=N/\a.defers=[]/\(a.tmps.size=19/\a.tmps.getD 0 undef=.slice ao N cap/\a.tmps.getD 1 undef=.func (.func 299) #[] #[]/\a.tmps.getD 7 undef=.int .i64 N/\a.tmps.getD 8 undef=.int .i64 k)/\allV (ws.take k)=true/\Ext w W)
  (fun a _=>N - (intOf (a.tmps.getD 8 undef)).toNat) ?_ ?_
 ·exact⟨0,by omega,rfl,⟨rfl,rfl,rfl,rfl,rfl⟩,by simp [allV],Turn.refl _ _⟩
 rintro⟨t,_⟩ W ⟨k,hk,hds,⟨hsz,f0,f1,f7,f8⟩,hall,hE⟩
 subst hds
 obtain⟨u',hu⟩:=frame_fun hsz
 obtain⟨u,rfl⟩:∃ x,x=u':=⟨_,rfl⟩
 have hu':t=#[u 0,u 1,u 2,u 3,u 4,u 5,u 6,u 7,u 8,u 9,u 10,u 11,u 12,u 13,u 14,u 15,u 16,u 17,u 18]:=hu
 clear hu
 subst hu'
 change u 0=_ at f0
 change u 1=_ at f1
 change u 7=_ at f7
 change u 8=_ at f8
 rw [f0,f1,f7,f8]
 clear f0 f1 f7 f8 hsz
 have HALL:=Lib.hid hall
 clear hall
 by_cases hkN:k<N
 ·have h1:(k:Int)<(N:Int):=by omega
  have hkl:k<ws.length:=by rw [HN.out];exact hkN
  obtain⟨g,off,cap',he,hg,d1,d2⟩:=(HV.out.ext hE).at hkl
  simp only [Value.slice.injEq] at he
  obtain⟨rfl,hq',rfl⟩:=he
  clear hq'
  obtain⟨hs1,hs2⟩:=HV.out.2.get k hkl
  obtain⟨a,ha⟩:∃ a,(ws.getD k (0,0)).1=a:=⟨_,rfl⟩
  obtain⟨b,hb⟩:∃ b,(ws.getD k (0,0)).2=b:=⟨_,rfl⟩
  rw [ha] at d1 hs1
  rw [hb] at d2 hs2
  have HA:=Lib.hid ha;have HB:=Lib.hid hb
  clear ha hb
  go_wp2_with fail
  refine(bad_any a b hs1 hs2 W).mono ?_
  rintro e W2 ⟨rfl,hE2⟩
  have hE02:=hE.trans hE2
  clear hE hE2 d1 d2
  cases hok:okSound a b
  ·have hfin:allV ws=false:=allV_at hkl (by rw [HA.out,HB.out];exact hok)
   have HF:=Lib.hid hfin
   clear hfin hok
   go_wp2
   go_ret
   exact⟨_,rfl,by rw [HF.out];simp,hE02⟩
  ·have hfin:=allV_take hkl HALL.out (by rw [HA.out,HB.out];exact hok)
   have HF:=Lib.hid hfin
   clear hfin hok
   go_wp2
   exact⟨⟨k+1,by omega,by first | rfl | trivial,⟨rfl,rfl,rfl,rfl,rfl⟩,HF.out,hE02⟩,by simp [intOf];omega⟩
 ·obtain rfl:k=N:=by omega
  have h1:¬ (k:Int)<(k:Int):=by omega
  have hfin:allV ws=true:=by have:=HALL.out;rwa [List.take_of_length_le (by rw [HN.out];exact Nat.le_refl _)] at this
  have HF:=Lib.hid hfin
  clear hfin
  go_wp2
  go_ret
  exact⟨_,rfl,by rw [HF.out];simp,hE⟩
theorem contains_bad{w:World}{v:Value}{ws:Wd}(hv:WordAt w v ws) :
  Calls Tryz.prog 173 #[v,.func (.func 299) #[] #[]] w fun e w'=>e=.returned (.bool (!allV ws))/\Ext w w':=by
 go_enter Tryz.func173,Tryz.ntmps173
 go_wp2_with fail
 refine(index_bad hv).mono ?_
 rintro e w2 ⟨z,rfl,hz,hE⟩
 have HZ:=Lib.hid hz
 clear hz
 go_wp2
 go_ret
 exact⟨by rw [HZ.out];rfl,hE⟩
end Go.Proofs.YtfdlhlghcbeblaaGreatDoor
set_option maxRecDepth 100000
set_option maxHeartbeats 8000000
namespace Go.Proofs.YtfdlhlghcbeblaaGreatDoor
open Go.RowKit Go.Ab
def nodeV(k:Int)(pl mi:Nat)(nt:Bool)(mn mx:Int)(N:Nat):Int:=
  if k<0\/6<k then 2
  else if k≠1/\(pl≠0\/mi≠0\/nt=true) then 2
  else if k≠3/\k≠4/\k≠5/\N≠0 then 2
  else if k≠5/\(mn≠0\/mx≠0) then 2
  else if k=5/\(N≠1\/mn<0\/32<mn\/(mx≠-1/\(mx<mn\/32<mx))) then 2
  else if okSound pl mi=true then 0 else 14
theorem nodeV_eq(k:Int)(pl mi:Nat)(nt:Bool)(mn mx:Int)(l:List Pat):nodeE (.node k pl mi nt mn mx l)=nodeV k pl mi nt mn mx l.length:=rfl
theorem okSound_zero:okSound 0 0=true:=rfl
theorem allowed_out(k:Int)(pl mi:Nat)(nt:Bool)(mn mx:Int)(ao:Option Addr)(N cap:Nat)(w:World)(hk:k<0\/6<k) :
    Calls Tryz.prog 196 #[.agg #[.int .i64 k,.int .u32 (pl:Int),.int .u32 (mi:Int),.bool nt,.int .i64 mn,.int .i64 mx,.slice ao N cap]] w fun e w'=>e=.returned (.int .i64 (nodeV k pl mi nt mn mx N))/\Ext w w':=by
  have q0:(k == 0)=false:=by rw [beq_eq_false_iff_ne];omega
  have q1:(k == 1)=false:=by rw [beq_eq_false_iff_ne];omega
  have q2:(k == 2)=false:=by rw [beq_eq_false_iff_ne];omega
  have q3:(k == 3)=false:=by rw [beq_eq_false_iff_ne];omega
  have q4:(k == 4)=false:=by rw [beq_eq_false_iff_ne];omega
  have q5:(k == 5)=false:=by rw [beq_eq_false_iff_ne];omega
  have q6:(k == 6)=false:=by rw [beq_eq_false_iff_ne];omega
  have hz:nodeV k pl mi nt mn mx N=2:=by unfold nodeV;rw [if_pos hk]
  have HZ:=Lib.hid hz
  clear hk hz
  go_enter Tryz.func196,Tryz.ntmps196
  go_wp2
  go_ret
  exact⟨by rw [HZ.out];rfl,((Turn.refl _ _).alloc _).alloc _⟩
theorem allowed_0(pl mi:Nat)(nt:Bool)(mn mx:Int)(ao:Option Addr)(N cap:Nat)(w:World)(hpl:pl<4294967296)(hmi:mi<4294967296)(_hN:N<=9223372036854775807) :
    Calls Tryz.prog 196 #[.agg #[.int .i64 0,.int .u32 (pl:Int),.int .u32 (mi:Int),.bool nt,.int .i64 mn,.int .i64 mx,.slice ao N cap]] w fun e w'=>e=.returned (.int .i64 (nodeV 0 pl mi nt mn mx N))/\Ext w w':=by
  have hx:True:=trivial
  all_goals (go_enter Tryz.func196,Tryz.ntmps196)
  all_goals (go_wp2_with fail)
  all_goals first
    | (refine(valid_any _ _ (by assumption) (by assumption) _).mono ?_
       rintro e w2 ⟨rfl,hE2⟩
       have hE:=(((Turn.refl (fun _=>False) w).alloc _).alloc _).trans hE2
       have HE:=Lib.hid hE
       clear hE hE2
       obtain⟨z,hz⟩:∃ z,okSound pl mi=z:=⟨_,rfl⟩
       have HZ:=Lib.hid hz
       rw [hz]
       clear hz
       cases z
       all_goals
         go_wp2
         go_ret
         exact⟨ret_int (by have:=HZ.out;unfold nodeV;rw [this];(try subst ‹nt=true›);(try (have hnt:nt=false:=Bool.eq_false_iff.2 ‹¬nt=true›;subst hnt));simp <;> omega),HE.out⟩)
    | (refine(valid_any 0 0 (by decide) (by decide) _).mono ?_
       rintro e w2 ⟨rfl,hE2⟩
       have hE:=(((Turn.refl (fun _=>False) w).alloc _).alloc _).trans hE2
       have HE:=Lib.hid hE
       clear hE hE2
       rw [okSound_zero]
       go_wp2
       go_ret
       exact ⟨ret_int (by have:=okSound_zero;have h1:pl=0:=by assumption
                          have h2:mi=0:=by assumption
                          subst h1;subst h2;unfold nodeV;rw [this];(try (have hnt:nt=false:=Bool.eq_false_iff.2 ‹¬nt=true›;subst hnt));simp <;> omega),HE.out⟩)
    | (go_ret
       exact⟨ret_int (by unfold nodeV;(try subst ‹nt=true›);(try (have hnt:nt=false:=Bool.eq_false_iff.2 ‹¬nt=true›;subst hnt));simp <;> omega),((Turn.refl _ _).alloc _).alloc _⟩)
theorem allowed_1(pl mi:Nat)(nt:Bool)(mn mx:Int)(ao:Option Addr)(N cap:Nat)(w:World)(hpl:pl<4294967296)(hmi:mi<4294967296)(_hN:N<=9223372036854775807) :
    Calls Tryz.prog 196 #[.agg #[.int .i64 1,.int .u32 (pl:Int),.int .u32 (mi:Int),.bool nt,.int .i64 mn,.int .i64 mx,.slice ao N cap]] w fun e w'=>e=.returned (.int .i64 (nodeV 1 pl mi nt mn mx N))/\Ext w w':=by
  have hx:True:=trivial
  all_goals (go_enter Tryz.func196,Tryz.ntmps196)
  all_goals (go_wp2_with fail)
  all_goals first
    | (refine(valid_any _ _ (by assumption) (by assumption) _).mono ?_
       rintro e w2 ⟨rfl,hE2⟩
       have hE:=(((Turn.refl (fun _=>False) w).alloc _).alloc _).trans hE2
       have HE:=Lib.hid hE
       clear hE hE2
       obtain⟨z,hz⟩:∃ z,okSound pl mi=z:=⟨_,rfl⟩
       have HZ:=Lib.hid hz
       rw [hz]
       clear hz
       cases z
       all_goals
         go_wp2
         go_ret
         exact⟨ret_int (by have:=HZ.out;unfold nodeV;rw [this];(try subst ‹nt=true›);(try (have hnt:nt=false:=Bool.eq_false_iff.2 ‹¬nt=true›;subst hnt));simp <;> omega),HE.out⟩)
    | (refine(valid_any 0 0 (by decide) (by decide) _).mono ?_
       rintro e w2 ⟨rfl,hE2⟩
       have hE:=(((Turn.refl (fun _=>False) w).alloc _).alloc _).trans hE2
       have HE:=Lib.hid hE
       clear hE hE2
       rw [okSound_zero]
       go_wp2
       go_ret
       exact ⟨ret_int (by have:=okSound_zero;have h1:pl=0:=by assumption
                          have h2:mi=0:=by assumption
                          subst h1;subst h2;unfold nodeV;rw [this];(try (have hnt:nt=false:=Bool.eq_false_iff.2 ‹¬nt=true›;subst hnt));simp <;> omega),HE.out⟩)
    | (go_ret
       exact⟨ret_int (by unfold nodeV;(try subst ‹nt=true›);(try (have hnt:nt=false:=Bool.eq_false_iff.2 ‹¬nt=true›;subst hnt));simp <;> omega),((Turn.refl _ _).alloc _).alloc _⟩)
theorem allowed_2(pl mi:Nat)(nt:Bool)(mn mx:Int)(ao:Option Addr)(N cap:Nat)(w:World)(hpl:pl<4294967296)(hmi:mi<4294967296)(_hN:N<=9223372036854775807) :
    Calls Tryz.prog 196 #[.agg #[.int .i64 2,.int .u32 (pl:Int),.int .u32 (mi:Int),.bool nt,.int .i64 mn,.int .i64 mx,.slice ao N cap]] w fun e w'=>e=.returned (.int .i64 (nodeV 2 pl mi nt mn mx N))/\Ext w w':=by
  have hx:True:=trivial
  all_goals (go_enter Tryz.func196,Tryz.ntmps196)
  all_goals (go_wp2_with fail)
  all_goals first
    | (refine(valid_any _ _ (by assumption) (by assumption) _).mono ?_
       rintro e w2 ⟨rfl,hE2⟩
       have hE:=(((Turn.refl (fun _=>False) w).alloc _).alloc _).trans hE2
       have HE:=Lib.hid hE
       clear hE hE2
       obtain⟨z,hz⟩:∃ z,okSound pl mi=z:=⟨_,rfl⟩
       have HZ:=Lib.hid hz
       rw [hz]
       clear hz
       cases z
       all_goals
         go_wp2
         go_ret
         exact⟨ret_int (by have:=HZ.out;unfold nodeV;rw [this];(try subst ‹nt=true›);(try (have hnt:nt=false:=Bool.eq_false_iff.2 ‹¬nt=true›;subst hnt));simp <;> omega),HE.out⟩)
    | (refine(valid_any 0 0 (by decide) (by decide) _).mono ?_
       rintro e w2 ⟨rfl,hE2⟩
       have hE:=(((Turn.refl (fun _=>False) w).alloc _).alloc _).trans hE2
       have HE:=Lib.hid hE
       clear hE hE2
       rw [okSound_zero]
       go_wp2
       go_ret
       exact ⟨ret_int (by have:=okSound_zero;have h1:pl=0:=by assumption
                          have h2:mi=0:=by assumption
                          subst h1;subst h2;unfold nodeV;rw [this];(try (have hnt:nt=false:=Bool.eq_false_iff.2 ‹¬nt=true›;subst hnt));simp <;> omega),HE.out⟩)
    | (go_ret
       exact⟨ret_int (by unfold nodeV;(try subst ‹nt=true›);(try (have hnt:nt=false:=Bool.eq_false_iff.2 ‹¬nt=true›;subst hnt));simp <;> omega),((Turn.refl _ _).alloc _).alloc _⟩)
theorem allowed_3(pl mi:Nat)(nt:Bool)(mn mx:Int)(ao:Option Addr)(N cap:Nat)(w:World)(hpl:pl<4294967296)(hmi:mi<4294967296)(_hN:N<=9223372036854775807) :
    Calls Tryz.prog 196 #[.agg #[.int .i64 3,.int .u32 (pl:Int),.int .u32 (mi:Int),.bool nt,.int .i64 mn,.int .i64 mx,.slice ao N cap]] w fun e w'=>e=.returned (.int .i64 (nodeV 3 pl mi nt mn mx N))/\Ext w w':=by
  have hx:True:=trivial
  all_goals (go_enter Tryz.func196,Tryz.ntmps196)
  all_goals (go_wp2_with fail)
  all_goals first
    | (refine(valid_any _ _ (by assumption) (by assumption) _).mono ?_
       rintro e w2 ⟨rfl,hE2⟩
       have hE:=(((Turn.refl (fun _=>False) w).alloc _).alloc _).trans hE2
       have HE:=Lib.hid hE
       clear hE hE2
       obtain⟨z,hz⟩:∃ z,okSound pl mi=z:=⟨_,rfl⟩
       have HZ:=Lib.hid hz
       rw [hz]
       clear hz
       cases z
       all_goals
         go_wp2
         go_ret
         exact⟨ret_int (by have:=HZ.out;unfold nodeV;rw [this];(try subst ‹nt=true›);(try (have hnt:nt=false:=Bool.eq_false_iff.2 ‹¬nt=true›;subst hnt));simp <;> omega),HE.out⟩)
    | (refine(valid_any 0 0 (by decide) (by decide) _).mono ?_
       rintro e w2 ⟨rfl,hE2⟩
       have hE:=(((Turn.refl (fun _=>False) w).alloc _).alloc _).trans hE2
       have HE:=Lib.hid hE
       clear hE hE2
       rw [okSound_zero]
       go_wp2
       go_ret
       exact ⟨ret_int (by have:=okSound_zero;have h1:pl=0:=by assumption
                          have h2:mi=0:=by assumption
                          subst h1;subst h2;unfold nodeV;rw [this];(try (have hnt:nt=false:=Bool.eq_false_iff.2 ‹¬nt=true›;subst hnt));simp <;> omega),HE.out⟩)
    | (go_ret
       exact⟨ret_int (by unfold nodeV;(try subst ‹nt=true›);(try (have hnt:nt=false:=Bool.eq_false_iff.2 ‹¬nt=true›;subst hnt));simp <;> omega),((Turn.refl _ _).alloc _).alloc _⟩)
theorem allowed_4(pl mi:Nat)(nt:Bool)(mn mx:Int)(ao:Option Addr)(N cap:Nat)(w:World)(hpl:pl<4294967296)(hmi:mi<4294967296)(_hN:N<=9223372036854775807) :
    Calls Tryz.prog 196 #[.agg #[.int .i64 4,.int .u32 (pl:Int),.int .u32 (mi:Int),.bool nt,.int .i64 mn,.int .i64 mx,.slice ao N cap]] w fun e w'=>e=.returned (.int .i64 (nodeV 4 pl mi nt mn mx N))/\Ext w w':=by
  have hx:True:=trivial
  all_goals (go_enter Tryz.func196,Tryz.ntmps196)
  all_goals (go_wp2_with fail)
  all_goals first
    | (refine(valid_any _ _ (by assumption) (by assumption) _).mono ?_
       rintro e w2 ⟨rfl,hE2⟩
       have hE:=(((Turn.refl (fun _=>False) w).alloc _).alloc _).trans hE2
       have HE:=Lib.hid hE
       clear hE hE2
       obtain⟨z,hz⟩:∃ z,okSound pl mi=z:=⟨_,rfl⟩
       have HZ:=Lib.hid hz
       rw [hz]
       clear hz
       cases z
       all_goals
         go_wp2
         go_ret
         exact⟨ret_int (by have:=HZ.out;unfold nodeV;rw [this];(try subst ‹nt=true›);(try (have hnt:nt=false:=Bool.eq_false_iff.2 ‹¬nt=true›;subst hnt));simp <;> omega),HE.out⟩)
    | (refine(valid_any 0 0 (by decide) (by decide) _).mono ?_
       rintro e w2 ⟨rfl,hE2⟩
       have hE:=(((Turn.refl (fun _=>False) w).alloc _).alloc _).trans hE2
       have HE:=Lib.hid hE
       clear hE hE2
       rw [okSound_zero]
       go_wp2
       go_ret
       exact ⟨ret_int (by have:=okSound_zero;have h1:pl=0:=by assumption
                          have h2:mi=0:=by assumption
                          subst h1;subst h2;unfold nodeV;rw [this];(try (have hnt:nt=false:=Bool.eq_false_iff.2 ‹¬nt=true›;subst hnt));simp <;> omega),HE.out⟩)
    | (go_ret
       exact⟨ret_int (by unfold nodeV;(try subst ‹nt=true›);(try (have hnt:nt=false:=Bool.eq_false_iff.2 ‹¬nt=true›;subst hnt));simp <;> omega),((Turn.refl _ _).alloc _).alloc _⟩)
theorem allowed_5(pl mi:Nat)(nt:Bool)(mn mx:Int)(ao:Option Addr)(N cap:Nat)(w:World)(hpl:pl<4294967296)(hmi:mi<4294967296)(_hN:N<=9223372036854775807) :
    Calls Tryz.prog 196 #[.agg #[.int .i64 5,.int .u32 (pl:Int),.int .u32 (mi:Int),.bool nt,.int .i64 mn,.int .i64 mx,.slice ao N cap]] w fun e w'=>e=.returned (.int .i64 (nodeV 5 pl mi nt mn mx N))/\Ext w w':=by
  rcases(show (32<mx/\(mx != -1)=true)\/mx<=32 by rw [bne_iff_ne];omega) with ⟨hx,hq⟩ | hx
  all_goals (go_enter Tryz.func196,Tryz.ntmps196)
  all_goals (go_wp2_with fail)
  all_goals first
    | (refine(valid_any _ _ (by assumption) (by assumption) _).mono ?_
       rintro e w2 ⟨rfl,hE2⟩
       have hE:=(((Turn.refl (fun _=>False) w).alloc _).alloc _).trans hE2
       have HE:=Lib.hid hE
       clear hE hE2
       obtain⟨z,hz⟩:∃ z,okSound pl mi=z:=⟨_,rfl⟩
       have HZ:=Lib.hid hz
       rw [hz]
       clear hz
       cases z
       all_goals
         go_wp2
         go_ret
         exact⟨ret_int (by have:=HZ.out;unfold nodeV;rw [this];(try subst ‹nt=true›);(try (have hnt:nt=false:=Bool.eq_false_iff.2 ‹¬nt=true›;subst hnt));simp <;> omega),HE.out⟩)
    | (refine(valid_any 0 0 (by decide) (by decide) _).mono ?_
       rintro e w2 ⟨rfl,hE2⟩
       have hE:=(((Turn.refl (fun _=>False) w).alloc _).alloc _).trans hE2
       have HE:=Lib.hid hE
       clear hE hE2
       rw [okSound_zero]
       go_wp2
       go_ret
       exact ⟨ret_int (by have:=okSound_zero;have h1:pl=0:=by assumption
                          have h2:mi=0:=by assumption
                          subst h1;subst h2;unfold nodeV;rw [this];(try (have hnt:nt=false:=Bool.eq_false_iff.2 ‹¬nt=true›;subst hnt));simp <;> omega),HE.out⟩)
    | (go_ret
       exact⟨ret_int (by unfold nodeV;(try subst ‹nt=true›);(try (have hnt:nt=false:=Bool.eq_false_iff.2 ‹¬nt=true›;subst hnt));simp <;> omega),((Turn.refl _ _).alloc _).alloc _⟩)
theorem allowed_6(pl mi:Nat)(nt:Bool)(mn mx:Int)(ao:Option Addr)(N cap:Nat)(w:World)(hpl:pl<4294967296)(hmi:mi<4294967296)(_hN:N<=9223372036854775807) :
    Calls Tryz.prog 196 #[.agg #[.int .i64 6,.int .u32 (pl:Int),.int .u32 (mi:Int),.bool nt,.int .i64 mn,.int .i64 mx,.slice ao N cap]] w fun e w'=>e=.returned (.int .i64 (nodeV 6 pl mi nt mn mx N))/\Ext w w':=by
  have hx:True:=trivial
  all_goals (go_enter Tryz.func196,Tryz.ntmps196)
  all_goals (go_wp2_with fail)
  all_goals first
    | (refine(valid_any _ _ (by assumption) (by assumption) _).mono ?_
       rintro e w2 ⟨rfl,hE2⟩
       have hE:=(((Turn.refl (fun _=>False) w).alloc _).alloc _).trans hE2
       have HE:=Lib.hid hE
       clear hE hE2
       obtain⟨z,hz⟩:∃ z,okSound pl mi=z:=⟨_,rfl⟩
       have HZ:=Lib.hid hz
       rw [hz]
       clear hz
       cases z
       all_goals
         go_wp2
         go_ret
         exact⟨ret_int (by have:=HZ.out;unfold nodeV;rw [this];(try subst ‹nt=true›);(try (have hnt:nt=false:=Bool.eq_false_iff.2 ‹¬nt=true›;subst hnt));simp <;> omega),HE.out⟩)
    | (refine(valid_any 0 0 (by decide) (by decide) _).mono ?_
       rintro e w2 ⟨rfl,hE2⟩
       have hE:=(((Turn.refl (fun _=>False) w).alloc _).alloc _).trans hE2
       have HE:=Lib.hid hE
       clear hE hE2
       rw [okSound_zero]
       go_wp2
       go_ret
       exact ⟨ret_int (by have:=okSound_zero;have h1:pl=0:=by assumption
                          have h2:mi=0:=by assumption
                          subst h1;subst h2;unfold nodeV;rw [this];(try (have hnt:nt=false:=Bool.eq_false_iff.2 ‹¬nt=true›;subst hnt));simp <;> omega),HE.out⟩)
    | (go_ret
       exact⟨ret_int (by unfold nodeV;(try subst ‹nt=true›);(try (have hnt:nt=false:=Bool.eq_false_iff.2 ‹¬nt=true›;subst hnt));simp <;> omega),((Turn.refl _ _).alloc _).alloc _⟩)
theorem allowed_any{K:Nat->Prop}{w:World}{p:Pat}{cs:List Value}(h:PatAt K w p cs)(W:World) :
    Calls Tryz.prog 196 #[.agg cs.toArray] W fun e w'=>e=.returned (.int .i64 (nodeE p))/\Ext W w':=by
  obtain⟨k,pl,mi,nt,mn,mx,l⟩:=p
  unfold PatAt at h
  obtain⟨ao,cap,rfl,hpl,hmi,hlc,hcm,_⟩:=h
  unfold maxLen at hcm
  rw [nodeV_eq]
  unfold patCells
  by_cases hk:k<0\/6<k
  · exact allowed_out k pl mi nt mn mx ao l.length cap W hk
  · rcases(show k=0\/k=1\/k=2\/k=3\/k=4\/k=5\/k=6 by omega) with rfl | rfl | rfl | rfl | rfl | rfl | rfl
    · exact allowed_0 pl mi nt mn mx ao l.length cap W hpl hmi (by omega)
    · exact allowed_1 pl mi nt mn mx ao l.length cap W hpl hmi (by omega)
    · exact allowed_2 pl mi nt mn mx ao l.length cap W hpl hmi (by omega)
    · exact allowed_3 pl mi nt mn mx ao l.length cap W hpl hmi (by omega)
    · exact allowed_4 pl mi nt mn mx ao l.length cap W hpl hmi (by omega)
    · exact allowed_5 pl mi nt mn mx ao l.length cap W hpl hmi (by omega)
    · exact allowed_6 pl mi nt mn mx ao l.length cap W hpl hmi (by omega)
end Go.Proofs.YtfdlhlghcbeblaaGreatDoor
namespace Go.Ab
open Go.RowKit
theorem wp_range2{α:Type}{P:Program}{g:Operand}{ps:Array Tmp}{assign body:Code}{Q:Exit->Act->World->Prop}{a:Act}{w:World}
  {gf:Nat} {lb:Array Value} (hg:a.eval g=.func (.func gf) #[] lb) (eg:∀ args w,(callFunc gf args).run P w=.ok (.enter gf args) w)
  {encs:α->Array Value} {xs:List α} {S K:Nat->Prop} (hseq:Iter P gf lb encs xs S K w) (hSK:∀ b,S b->K b) (hK:∀ b,K b->b<w.heap.size) (hps:∀ x,(encs x).size=ps.size)
  (I:List α->World->Prop) (Ix:Code->List α->World->Prop)
  (hI:∀ pre A B,I pre A->Turn (fun b=>S b\/b=w.heap.size+1) A B->I pre B)
  (hIx:∀ c pre A B,Ix c pre A->Turn (fun b=>S b\/b=w.heap.size+1) A B->Ix c pre B)
  (h0:∀ W,Ext w W->W.heap.size=w.heap.size+2->I [] W) (Ax:α->Act->World->Prop) (hAx:∀ x a' A B,Ax x a' A->Turn (fun b=>b=w.heap.size+1) A B->Ax x a' B)
  (hassign:∀(pre:List α) (x:α) (W:World) (Kn:Act->World->Prop),x∈xs->I pre W->w.heap.size+2<=W.heap.size->(∀ a' W',Ext W W'->Ax x a' W'->Kn a' W') ->
   assign.wpIn (Fence.wide.inRound (w.heap.size+1)) 0 P (Exit.then Kn (fun _ _ _=>False)) { tmps:=(ps.zip (encs x)).foldl (fun t (p,v)=>t.setIfInBounds p v) a.tmps,defers:=[] } W)
  (hbody:∀(pre:List α) (x:α) (rest:List α) (a':Act) (W:World),xs=pre++x::rest->w.heap.size+2<=W.heap.size->Turn (fun b=>¬ K b\/S b) w W->I pre W->Ax x a' W ->
   body.wpIn (Fence.wide.inRound (w.heap.size+1)) 0 P (roundQ (fun b=>K b\/b=w.heap.size\/b=w.heap.size+1) I Ix (pre++[x]) W) a' W)
  (hdone:∀ W,I xs W->Turn (fun b=>¬ K b\/S b) w W->W.heap[w.heap.size]?=some (.deferred (some []))->Q .normal { a with defers:={ target:=.collected w.heap.size,args:=#[] }::a.defers } W)
  (hstop:∀ c pre x rest W,xs=pre++x::rest->Ix c (pre++[x]) W->W.heap[w.heap.size]?=some (.deferred (some []))->c.wp P Q { a with defers:={ target:=.collected w.heap.size,args:=#[] }::a.defers } W) :
  (Code.rangeFunc g ps assign body).wp P Q a w:=by
 refine(wpIn_wide (n:=0)).1 (wpIn_rangeFunc ?_)
 intro fn _
 obtain⟨rec,hrec⟩:∃ rec:LoopState->Option Code->Loop,rec=fun st pe=>{ state:=st,pending:=pe,fn,tmps:=a.tmps,params:=ps,assign,body,defers:=w.heap.size }:=⟨_,rfl⟩
 obtain⟨W1,hW1⟩:∃ W1,(w.alloc (.deferred (some []))).alloc (.loop (rec .ready none))=W1:=⟨_,rfl⟩
 have hL1:W1.heap[w.heap.size+1]?=some (.loop (rec .ready none)):=by
  rw [<-hW1];have:=World.alloc_heap_new (w.alloc (.deferred (some []))) (.loop (rec .ready none));rwa [World.size_alloc] at this
 have hD1:W1.heap[w.heap.size]?=some (.deferred (some [])):=by
  rw [<-hW1];exact(Below.heap_alloc _ _ _ (by simp)).trans (World.alloc_heap_new w _)
 have hE1:Ext w W1:=by rw [<-hW1];exact((Turn.refl _ w).alloc _).alloc _
 have hs1:W1.heap.size=w.heap.size+2:=by rw [<-hW1];simp
 have hnl:∀ b,S b->b≠w.heap.size+1/\b≠w.heap.size:=fun b hb=>by have:=hK b (hSK b hb);omega
 refine⟨w.heap.size+1,[{ target:=.collected w.heap.size,args:=#[] }],W1,{ target:=.fn (.func gf) lb,args:=#[.func (.yield (w.heap.size+1)) #[] #[]] },W1,gf,
  #[.func (.yield (w.heap.size+1)) #[] #[]]++lb,W1,?_,?_,fun _ _=>trivial,?_,fun h=>by simp [Fence.wide] at h,?_⟩
 ·rw [<-hW1,hrec];exact run_enterLoop_outer _ _ _ _ _
 ·simp only [resolve,hg]
  simp [go_sem]
 ·simp [invoke,go_sem,eg]
 ·refine callsIn_wide.2 ((hseq (w.heap.size+1)
   (fun pre W=>I pre W/\W.heap[w.heap.size+1]?=some (.loop (rec .ready none))/\W.heap[w.heap.size]?=some (.deferred (some []))/\Turn (fun b=>¬ K b\/S b) w W/\w.heap.size+2<=W.heap.size)
   (fun pre W=>∃ c,Ix c pre W/\W.heap[w.heap.size+1]?=some (.loop (rec .done (some c)))/\W.heap[w.heap.size]?=some (.deferred (some [])))
   W1 hE1.of ?_ ?_ ?_ ⟨h0 _ hE1 hs1,hL1,hD1,hE1.of,by omega⟩).mono ?_)
  ·rintro pre A B ⟨h1,h2,h3,h4,h5⟩ ht
   exact⟨hI _ _ _ h1 (ht.mono fun b _ hb=>.inl hb),ht.heap h2 (fun hb=>(hnl _ hb).1 rfl),ht.heap h3 (fun hb=>(hnl _ hb).2 rfl),h4.after ht (fun b _ hb=>.inr hb),Nat.le_trans h5 ht.size⟩
  ·rintro pre A B ⟨c,h1,h2,h3⟩ ht
   exact⟨c,hIx _ _ _ _ h1 (ht.mono fun b _ hb=>.inl hb),ht.heap h2 (fun hb=>(hnl _ hb).1 rfl),ht.heap h3 (fun hb=>(hnl _ hb).2 rfl)⟩
  ·-- one round
   rintro pre x rest W hx ⟨hi,hl,hd,ht,hsz⟩
   have ht0:=ht
   have hsz0:=hsz
   have hlt:w.heap.size+1<W.heap.size:=by omega
   have hy:=run_yield (P:=P) (args:=encs x) hl (by rw [hrec];exact hps x)
   rw [hrec] at hy
   refine⟨fn,_,assign,body,hy,roundIn_of_wpIn trivial (hassign pre x W _ (by rw [hx];simp) hi hsz ?_)⟩
   clear hy
   intro a' W' hEW hax
   have hW0:=hEW
   have hi:=hI _ _ _ hi (Ext.of hEW)
   have hl:=hEW.keep hl
   have hd:=hEW.keep hd
   have ht:=ht.after hEW (fun b _ h=>h.elim)
   have hsz:w.heap.size+2<=W'.heap.size:=Nat.le_trans hsz hEW.size
   have hlt:w.heap.size+1<W'.heap.size:=by omega
   refine⟨_,run_beginRound hl (by rw [hrec]),?_⟩
   have hl2:(W'.putObj (w.heap.size+1) (.loop { rec .ready none with state:=.busy })).heap[w.heap.size+1]?=some (.loop { rec .ready none with state:=.busy }):=World.putObj_heap_same hlt
   have hd2:(W'.putObj (w.heap.size+1) (.loop { rec .ready none with state:=.busy })).heap[w.heap.size]?=some (.deferred (some [])):=(World.putObj_heap_other (by omega)).trans hd
   have hput:∀(X:World) o,Turn (fun b=>S b\/b=w.heap.size+1) X (X.putObj (w.heap.size+1) o):=fun X o=>(Turn.refl _ X).putObj (.inr (.inr rfl)) o
   have hputK:∀(X:World) o,Turn (fun b=>¬ K b) X (X.putObj (w.heap.size+1) o):=fun X o=>(Turn.refl _ X).putObj (.inr (fun hk=>by have:=hK _ hk;omega)) o
   refine wpIn_mono (hbody pre x rest a' _ hx (by simpa using hsz) (ht.after (hputK W' _) (fun b _ hb=>.inl hb)) (hI _ _ _ hi (hput W' _)) (hAx _ _ _ _ hax ((Turn.refl (fun b=>b=w.heap.size+1) W').putObj (.inr rfl) _))) ?_
   have fin:∀(jump:Option Code) (W3:World),Turn (fun b=>¬ (K b\/b=w.heap.size\/b=w.heap.size+1)) (W'.putObj (w.heap.size+1) (.loop { rec .ready none with state:=.busy })) W3 ->
     (Instr.endRound (w.heap.size+1) jump).run P W3=.ok (.bool jump.isNone) (W3.putObj (w.heap.size+1) (.loop (rec (if jump.isNone then .ready else .done) jump))) /\
     (W3.putObj (w.heap.size+1) (.loop (rec (if jump.isNone then .ready else .done) jump))).heap[w.heap.size+1]?=some (.loop (rec (if jump.isNone then .ready else .done) jump)) /\
     (W3.putObj (w.heap.size+1) (.loop (rec (if jump.isNone then .ready else .done) jump))).heap[w.heap.size]?=some (.deferred (some [])) /\
     Turn (fun b=>¬ K b) W (W3.putObj (w.heap.size+1) (.loop (rec (if jump.isNone then .ready else .done) jump))):=fun jump W3 hk3=>by
    have hl3:=hk3.heap hl2 (fun h=>h (.inr (.inr rfl)))
    have hd3:=hk3.heap hd2 (fun h=>h (.inr (.inl rfl)))
    have:=run_endRound (P:=P) jump hl3
    rw [hrec] at this ⊢
    refine⟨this,World.putObj_heap_same (Array.getElem?_eq_some_iff.1 hl3).1,(World.putObj_heap_other (by omega)).trans hd3,?_⟩
    exact(((hW0.of).trans (hputK W' _)).trans (hk3.mono fun b _ hb hk=>hb (.inl hk))).trans (hputK W3 _)
   rintro e a3 W3 hp
   cases e with
   | normal=>
    obtain⟨hk3,hi3⟩:=hp
    obtain⟨hr,hl4,hd4,ht4⟩:=fin none W3 hk3
    exact⟨_,_,hr,.inl ⟨rfl,⟨hI _ _ _ hi3 (hput W3 _),hl4,hd4,ht0.after ht4 (fun b _ hb=>.inl hb),Nat.le_trans hsz0 ht4.size⟩,ht4⟩⟩
   | ret=>
    obtain⟨hk3,hi3⟩:=hp
    obtain⟨hr,hl4,hd4,ht4⟩:=fin (some .ret) W3 hk3
    exact⟨_,_,hr,.inr ⟨rfl,.ret,hIx _ _ _ _ hi3 (hput W3 _),hl4,hd4⟩⟩
   | exit id=>
    obtain⟨hk3,hi3⟩:=hp
    obtain⟨hr,hl4,hd4,ht4⟩:=fin (some (.exit id)) W3 hk3
    exact⟨_,_,hr,.inr ⟨rfl,.exit id,hIx _ _ _ _ hi3 (hput W3 _),hl4,hd4⟩⟩
   | goto t=>
    obtain⟨hk3,hi3⟩:=hp
    obtain⟨hr,hl4,hd4,ht4⟩:=fin (some (.goto t)) W3 hk3
    exact⟨_,_,hr,.inr ⟨rfl,.goto t,hIx _ _ _ _ hi3 (hput W3 _),hl4,hd4⟩⟩
   | panic ch=>exact hp.elim
   | outgrown=>exact hp.elim
  ·-- behind the iterator
   have hput:∀(X:World) o,Turn (fun b=>S b\/b=w.heap.size+1) X (X.putObj (w.heap.size+1) o):=fun X o=>(Turn.refl _ X).putObj (.inr (.inr rfl)) o
   rintro e W2 ⟨⟨v,rfl⟩,(⟨hi,hl,hd,ht,hsz⟩ | ⟨pre,x,rest,hx,c,hi,hl,hd⟩)⟩
   ·refine⟨none,_,by have:=run_endLoop (P:=P) hl (by rw [hrec];simp);rw [hrec] at this;exact this,?_⟩
    exact hdone _ (hI _ _ _ hi (hput W2 _)) (ht.putObj (.inl (by omega)) _) ((World.putObj_heap_other (by omega)).trans hd)
   ·refine⟨some c,_,by have:=run_endLoop (P:=P) hl (by rw [hrec];simp);rw [hrec] at this;exact this,?_⟩
    exact(wpIn_wide (n:=0)).2 (hstop c pre x rest _ hx (hIx _ _ _ _ hi (hput W2 _)) ((World.putObj_heap_other (by omega)).trans hd))
theorem wpIn_region_held{P:Program}{ops:Array Oper}{Q:Exit->Act->World->Prop}{S:World->Prop}{id l n:Nat}{a:Act}{w:World}(hm:P.follows .mixedOrders=true)(hd:noDefer ops=true)(hQ:¬ LetsOut Q)(hS:S w.drew)
  (h:S w.drew->wpAnyH P .any ops Q S ops.size (Array.replicate ops.size false) a w.drew):(Code.region id ops true).wpIn (Fence.wide.inRound l) n P Q a w:=
 wpIn_region_any' hm hd hQ (wpAny_of_held _ _ _ _ (h hS))
end Go.Ab
