/- ablautref02.Valid, Check; ablautref06.node (printed by gennode.py). ablautref06.walk, Check, both; count, Size. pats.Size. ablautref06.count, Size. -/
import Derived.Test.YtfdlhlghcbeblaaGreatDoorH06
import Derived.Test.YtfdlhlghcbeblaaGreatDoorH05
set_option maxRecDepth 100000
set_option maxHeartbeats 16000000
namespace Go.Proofs.YtfdlhlghcbeblaaGreatDoor
open Go.RowKit Go.Ab
attribute [local go_sem] Oper.semAt_some wide_fn wide_depth
def okE(pl mi:Nat):Int:=if okSound pl mi=true then 0 else 14
section
variable (pl mi:Nat) (nt:Bool) (mn mx:Int) (n:Nat)
end
end Go.Proofs.YtfdlhlghcbeblaaGreatDoor
set_option maxRecDepth 100000
set_option maxHeartbeats 8000000
namespace Go.Proofs.YtfdlhlghcbeblaaGreatDoor
open Go.RowKit Go.Ab
attribute [local go_sem] Oper.semAt_some wide_fn wide_depth
def WalkOk(p:Pat):Prop:=∀(K:Nat->Prop) (w:World) (cs:List Value) (n:Nat),PatAt K w p cs->n<=40 ->
 Calls Tryz.prog 204 #[.agg cs.toArray,.int .i64 n] w fun e w'=>e=.returned (.tuple #[.int .i64 ((walkP p n).1:Int),.int .i64 (walkP p n).2])/\Ext w w'
end Go.Proofs.YtfdlhlghcbeblaaGreatDoor
namespace Go.Proofs.YtfdlhlghcbeblaaGreatDoor
open Go.RowKit Go.Ab
attribute [local go_sem] Oper.semAt_some wide_fn wide_depth
theorem Stk.append{K:Nat->Prop}{W:World}{ps qs:List Pat}{xs ys:List Value}(h:Stk K W ps xs)(k:Stk K W qs ys):Stk K W (ps++qs) (xs++ys):=by
 refine⟨by rw [List.length_append,h.1,k.1,List.length_append];omega,fun i hi=>?_⟩
 by_cases hip:i<ps.length
 ·obtain⟨d,h1,h2,h3⟩:=h.2 i hip
  refine⟨d,h1,fun j v hj=>?_,by rw [List.getElem_append_left hip];exact h3⟩
  have:=h2 j v hj
  rw [List.getElem?_append_left (List.getElem?_eq_some_iff.1 this).1];exact this
 ·obtain⟨d,h1,h2,h3⟩:=k.2 (i - ps.length) (by simp at hi;omega)
  refine⟨d,h1,fun j v hj=>?_,by rw [List.getElem_append_right (by omega)];exact h3⟩
  have:=h2 j v hj
  rw [List.getElem?_append_right (by rw [h.1];omega),h.1]
  rw [show i*7+j - ps.length*7=(i - ps.length)*7+j by omega];exact this
theorem PatsAt.row{K:Nat->Prop}{w:World}{l:List Pat}{ao:Option Addr}(h:PatsAt K w l ao 0)(cap:Nat):∀ T,T<=l.length->T<=maxLen ->
  ∃ news,Rd w (.slice ao T cap) T 7 news/\Stk K w (l.take T) news/\∀ v∈news,v.oneCell'=true
 | 0,_,_=>⟨[],⟨rfl,Nat.zero_le _,ao,cap,rfl,fun h=>absurd h (by decide)⟩,Stk.nil K w,fun v hv=>by cases hv⟩
 | T+1,hT,hm=>by
  obtain⟨news,hr,hs,h1⟩:=PatsAt.row h cap T (by omega) (by omega)
  obtain⟨g,off,c,rfl,hg,hgl,hra,hp⟩:=h.get T (by omega)
  obtain⟨qo,qcap,hc,_⟩:=patAt_cells hp
  have hc7:c.length=7:=by rw [hc];rfl
  rw [Nat.zero_add] at hra
  obtain⟨hl,_,_,_,e,h3⟩:=hr
  refine⟨news++c,⟨by rw [List.length_append,hl,hc7];omega,hm,_,cap,rfl,fun _=>⟨g,off,rfl,hgl,fun j hj=>?_⟩⟩,?_,?_⟩
  ·by_cases hjT:j<T*7
   ·obtain⟨g',off',e1,_,h4⟩:=h3 (by omega)
    simp only [Value.slice.injEq] at e
    obtain⟨e,_⟩:=e
    rw [<-e] at e1
    cases e1
    rw [h4 j hjT,List.getD_eq_getElem?_getD,List.getD_eq_getElem?_getD,List.getElem?_append_left (by omega)]
   ·have hjc:j - T*7<c.length:=by omega
    have:=hra (j - T*7) _ (List.getElem?_eq_getElem hjc)
    rw [show off+T*7+(j - T*7)=off+j by omega] at this
    rw [this,List.getD_eq_getElem?_getD,List.getElem?_append_right (by omega),hl,List.getElem?_eq_getElem hjc,Option.getD_some]
  ·rw [List.take_succ_eq_append_getElem (by omega)]
   exact hs.push hc7 hp
  ·intro v hv
   rcases List.mem_append.1 hv with hv | hv
   ·exact h1 v hv
   ·rw [hc] at hv;exact patCells_one v hv
end Go.Proofs.YtfdlhlghcbeblaaGreatDoor
set_option maxRecDepth 100000
set_option maxHeartbeats 8000000
namespace Go.Proofs.YtfdlhlghcbeblaaGreatDoor
open Go.RowKit Go.Ab
attribute [local go_sem] Oper.semAt_some wide_fn wide_depth
theorem cntL_cons(p:Pat)(l:List Pat)(n:Nat):cntL (p::l) n=if n<=40 then cntL l (cntP p n) else n:=by rw [cntL]
theorem cntP_eq(p:Pat)(n:Nat):cntP p n=cntL p.l (n+1):=by cases p;rw [cntP];rfl
theorem cntP_le{p:Pat}{n:Nat}(h:n<=40):cntP p n<=41:=(cntP_sz p n [] h).1.1
def CountOk(p:Pat):Prop:=∀(K:Nat->Prop) (w:World) (cs:List Value) (n:Nat),PatAt K w p cs->n<=40 ->
 Calls Tryz.prog 141 #[.agg cs.toArray,.int .i64 n] w fun e w'=>e=.returned (.int .i64 (cntP p n:Int))/\Ext w w'
theorem count_step(k:Int)(pl mi:Nat)(nt:Bool)(mn mx:Int)(l:List Pat)(ih:∀ p∈l,CountOk p):CountOk (.node k pl mi nt mn mx l):=by
 intro K w cs n hp hn
 unfold PatAt at hp
 obtain⟨ao,cap,rfl,hpl,hmi,hlc,hcm,hl⟩:=hp
 have hlm:l.length<=maxLen:=Nat.le_trans hlc hcm
 unfold maxLen at hlm
 have hz0:=cntP_eq (.node k pl mi nt mn mx l) n
 change cntP (.node k pl mi nt mn mx l) n=cntL l (n+1) at hz0
 obtain⟨Z,hZ⟩:∃ z,cntP (.node k pl mi nt mn mx l) n=z:=⟨_,rfl⟩
 rw [hZ] at hz0 ⊢
 obtain⟨N,hN⟩:∃ N,l.length=N:=⟨_,rfl⟩
 have HN:=Lib.hid hN;have HL:=Lib.hid hl;have IH:=Lib.hid ih;have HZ0:=Lib.hid hz0
 unfold patCells
 rw [hN] at hlm ⊢
 clear hl ih hN hlc hcm hpl hmi hZ hz0
 go_enter Tryz.func141,Tryz.ntmps141
 go_wp2
 have hx:(w.alloc (.cells #[.int .i64 k,.int .u32 (pl:Int),.int .u32 (mi:Int),.bool nt,.int .i64 mn,.int .i64 mx,.slice ao N cap] 98)).heap[w.heap.size]?=some (.cells #[.int .i64 k,.int .u32 (pl:Int),.int .u32 (mi:Int),.bool nt,.int .i64 mn,.int .i64 mx,.slice ao N cap] 98 (0,0)):=new_at rfl
 have hE0:Ext w (w.alloc (.cells #[.int .i64 k,.int .u32 (pl:Int),.int .u32 (mi:Int),.bool nt,.int .i64 mn,.int .i64 mx,.slice ao N cap] 98)):=(Turn.refl _ w).alloc _
 generalize (w.alloc (.cells #[.int .i64 k,.int .u32 (pl:Int),.int .u32 (mi:Int),.bool nt,.int .i64 mn,.int .i64 mx,.slice ao N cap] 98))=w1 at hx hE0 ⊢
 generalize w.heap.size=B at hx ⊢
 have HX:=Lib.hid hx
 clear hx
 refine wp_loop (fun a W=>∃(i m:Nat),i<=N/\m<=41/\cntL (l.drop i) m=Z/\a.defers=[]/\(a.tmps.size=28/\a.tmps.getD 2 undef=.pointer (some ⟨B,0,none⟩)/\a.tmps.getD 5 undef=.int .i64 m/\a.tmps.getD 6 undef=.int .i64 i)/\Ext w1 W)
  (fun a _=>N - (intOf (a.tmps.getD 6 undef)).toNat) ?_ ?_
 ·exact⟨0,n+1,by omega,by omega,HZ0.out.symm,rfl,⟨rfl,rfl,by go_num,rfl⟩,Turn.refl _ _⟩
 clear HZ0
 rintro⟨t,_⟩ W ⟨i,m,hi,hm,hw,hds,⟨hsz,f2,f5,f6⟩,hE⟩
 subst hds
 obtain⟨u',hu⟩:=frame_fun hsz
 obtain⟨u,rfl⟩:∃ x,x=u':=⟨_,rfl⟩
 have hu':t=#[u 0,u 1,u 2,u 3,u 4,u 5,u 6,u 7,u 8,u 9,u 10,u 11,u 12,u 13,u 14,u 15,u 16,u 17,u 18,u 19,u 20,u 21,u 22,u 23,u 24,u 25,u 26,u 27]:=hu
 clear hu
 subst hu'
 change u 2=_ at f2
 change u 5=_ at f5
 change u 6=_ at f6
 rw [f2,f5,f6]
 clear f2 f5 f6 hsz
 have HW:=Lib.hid hw
 clear hw
 have hx:=hE.keep HX.out
 have cX:=fun j=>cell_of_row _ _ j _ _ _ hx
 by_cases hiN:i<N
 ·have h1:(i:Int)<(N:Int):=by omega
  have hil:i<l.length:=by rw [HN.out];exact hiN
  have hd:l.drop i=l[i]::l.drop (i+1):=List.drop_eq_getElem_cons hil
  by_cases hm40:m<=40
  ·have h2:(m:Int)<=40:=by omega
   obtain⟨g,off,c,rfl,hg,hgl,hra,hq⟩:=(HL.out.ext (hE0.trans hE)).get i hil
   rw [Nat.zero_add] at hra
   obtain⟨qo,qcap,hcq,_,_,_⟩:=patAt_cells hq
   obtain⟨c0,c1,c2,c3,c4,c5,c6⟩:=patCells_at hra hcq
   have hc:=IH.out _ (List.getElem_mem hil) K W c m hq hm40
   have hnext:cntL (l.drop (i+1)) (cntP l[i] m)=Z:=by
    have:=HW.out
    rw [hd,cntL_cons,if_pos hm40] at this
    exact this
   have hle:=cntP_le (p:=l[i]) hm40
   obtain⟨y,hy⟩:∃ a,cntP l[i] m=a:=⟨_,rfl⟩
   rw [hy] at hc hnext hle
   rw [hcq] at hc
   unfold patCells at hc
   have HC:=Lib.hid hc;have HNX:=Lib.hid hnext
   clear hc hra hq hcq hd hnext hy hx
   go_wp2_with fail
   refine HC.out.mono ?_
   rintro e W2 ⟨rfl,hE2⟩
   have hE22:=hE.trans hE2
   clear hE hE2 c0 c1 c2 c3 c4 c5 c6 HC cX
   go_wp2
   exact⟨⟨i+1,y,by omega,hle,HNX.out,by first | rfl | trivial,⟨rfl,rfl,rfl,rfl⟩,hE22⟩,by simp [intOf];omega⟩
  ·have h2:¬ (m:Int)<=40:=by omega
   have hz:m=Z:=by
    have:=HW.out
    rw [hd,cntL_cons,if_neg hm40] at this
    exact this
   subst hz
   clear HW hd
   go_wp2
   go_ret
   exact⟨rfl,hE0.trans hE⟩
 ·obtain rfl:i=N:=by omega
  have h1:¬ (i:Int)<(i:Int):=by omega
  have hz:m=Z:=by
   have:=HW.out
   rw [List.drop_of_length_le (by rw [HN.out];exact Nat.le_refl _),cntL] at this
   exact this
  subst hz
  clear HW
  go_wp2
  go_ret
  exact⟨rfl,hE0.trans hE⟩
mutual
theorem count_all:∀ p:Pat,CountOk p
 | .node k pl mi nt mn mx l=>count_step k pl mi nt mn mx l (count_alls l)
theorem count_alls:∀ l:List Pat,∀ p∈l,CountOk p
 | [],_,h=>by cases h
 | q::l,p,h=>(List.mem_cons.1 h).elim (fun e=>e ▸ count_all q) (fun h=>count_alls l p h)
end
theorem refsize_any{K:Nat->Prop}{w:World}{p:Pat}{cs:List Value}(hp:PatAt K w p cs) :
  Calls Tryz.prog 91 #[.agg cs.toArray] w fun e w'=>e=.returned (.int .i64 (sizeP p:Int))/\Ext w w':=by
 have hE1:Ext w (w.alloc (.cells cs.toArray 98)):=(Turn.refl _ w).alloc _
 have hc:=count_all p K _ cs 0 (hp.ext hE1) (by omega)
 rw [cntP_zero] at hc
 obtain⟨qo,qcap,hcq,_,_,_⟩:=patAt_cells hp
 rw [hcq] at hc ⊢
 unfold patCells at hc ⊢
 obtain⟨z,hz⟩:∃ b,sizeP p=b:=⟨_,rfl⟩
 rw [hz] at hc ⊢
 have HC:=Lib.hid hc
 clear hc hcq hE1 hz
 go_enter Tryz.func91,Tryz.ntmps91
 go_wp2_with fail
 refine HC.out.mono ?_
 rintro e w2 ⟨rfl,hE⟩
 have hE2:Ext w w2:=Turn.trans ((Turn.refl _ w).alloc _) hE
 clear hE
 go_wp2
 go_ret
 exact⟨rfl,hE2⟩
end Go.Proofs.YtfdlhlghcbeblaaGreatDoor
