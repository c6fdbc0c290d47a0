/- Patterns in memory. No program is named. Compiled patterns in memory; sound.in, edge.in. -/
import Derived.Test.YtfdlhlghcbeblaaGreatDoorG02
import Derived.Test.YtfdlhlghcbeblaaGreatDoorG01
import Derived.Deep.MidRow
namespace Go.Ab
open Go.RowKit
def patCells(k:Int)(pl mi:Nat)(nt:Bool)(mn mx:Int)(ao:Option Addr)(n cap:Nat):List Value:=
 [.int .i64 k,.int .u32 pl,.int .u32 mi,.bool nt,.int .i64 mn,.int .i64 mx,.slice ao n cap]
mutual
def PatAt(K:Nat→Prop)(w:World):Pat→List Value→Prop
 | .node k pl mi nt mn mx l,cs=>∃ ao cap,cs=patCells k pl mi nt mn mx ao l.length cap∧pl<4294967296∧mi<4294967296∧l.length≤cap∧cap≤maxLen∧PatsAt K w l ao 0
def PatsAt(K:Nat→Prop)(w:World):List Pat→Option Addr→Nat→Prop
 | [],_,_=>True
 | p::l,ao,i=>(∃ g off cs,ao=some ⟨g,off,none⟩∧K g∧g<w.heap.size∧w.rangeAt g (off+i*7) cs∧PatAt K w p cs)∧PatsAt K w l ao (i+1)
end
theorem PatsAt.get{K:Nat→Prop}{w:World}:∀ {l:List Pat} {ao:Option Addr} {i:Nat},PatsAt K w l ao i→∀ j (h:j<l.length),∃ g off cs,ao=some ⟨g,off,none⟩∧K g∧g<w.heap.size∧w.rangeAt g (off+(i+j)*7) cs∧PatAt K w l[j] cs
 | [],_,_,_,j,h=>by simp at h
 | p::l,ao,i,h,0,_=>by unfold PatsAt at h;exact h.1
 | p::l,ao,i,h,j+1,hj=>by
  unfold PatsAt at h
  have:=PatsAt.get h.2 j (by simpa using hj)
  rw [show i+(j+1)=i+1+j by omega]
  exact this
theorem PatsAt.mk{K:Nat→Prop}{w:World}:∀ {l:List Pat} {ao:Option Addr} {i:Nat},(∀ j (h:j<l.length),∃ g off cs,ao=some ⟨g,off,none⟩∧K g∧g<w.heap.size∧w.rangeAt g (off+(i+j)*7) cs∧PatAt K w l[j] cs)→PatsAt K w l ao i
 | [],_,_,_=>by unfold PatsAt;trivial
 | p::l,ao,i,h=>by
  unfold PatsAt
  refine⟨h 0 (by simp),PatsAt.mk fun j hj=>?_⟩
  have:=h (j+1) (by simpa using hj)
  rw [show i+(j+1)=i+1+j by omega] at this
  exact this
theorem rangeAt_turn{S:Nat→Prop}{A B:World}(ht:Turn S A B){g o:Nat}{cs:List Value}(h:A.rangeAt g o cs)(hS:¬ S g):B.rangeAt g o cs:=fun j v hv=>ht.cell_some (h j v hv) hS
mutual
theorem PatAt.keep{K S:Nat→Prop}{A B:World}(ht:Turn S A B)(hS:∀ g,K g→¬ S g):∀ {p:Pat} {cs:List Value},PatAt K A p cs→PatAt K B p cs
 | .node k pl mi nt mn mx l,cs,h=>by
  unfold PatAt at h ⊢
  obtain⟨ao,cap,h1,h2,h3,h4,h5,h6⟩:=h
  exact⟨ao,cap,h1,h2,h3,h4,h5,PatsAt.keep ht hS h6⟩
theorem PatsAt.keep{K S:Nat→Prop}{A B:World}(ht:Turn S A B)(hS:∀ g,K g→¬ S g):∀ {l:List Pat} {ao:Option Addr} {i:Nat},PatsAt K A l ao i→PatsAt K B l ao i
 | [],_,_,_=>by unfold PatsAt;trivial
 | p::l,ao,i,h=>by
  unfold PatsAt at h ⊢
  obtain⟨⟨g,off,cs,h1,h2,h3,h4,h5⟩,h6⟩:=h
  exact⟨⟨g,off,cs,h1,h2,Nat.lt_of_lt_of_le h3 ht.size,rangeAt_turn ht h4 (hS g h2),PatAt.keep ht hS h5⟩,PatsAt.keep ht hS h6⟩
end
theorem PatAt.ext{K:Nat→Prop}{A B:World}{p:Pat}{cs:List Value}(h:PatAt K A p cs)(ht:Ext A B):PatAt K B p cs:=h.keep ht fun _ _ h=>h
theorem PatsAt.ext{K:Nat→Prop}{A B:World}{l:List Pat}{ao:Option Addr}{i:Nat}(h:PatsAt K A l ao i)(ht:Ext A B):PatsAt K B l ao i:=h.keep ht fun _ _ h=>h
mutual
theorem PatAt.mono{K L:Nat→Prop}{A:World}(hK:∀ g,K g→L g):∀ {p:Pat} {cs:List Value},PatAt K A p cs→PatAt L A p cs
 | .node k pl mi nt mn mx l,cs,h=>by
  unfold PatAt at h ⊢
  obtain⟨ao,cap,h1,h2,h3,h4,h5,h6⟩:=h
  exact⟨ao,cap,h1,h2,h3,h4,h5,PatsAt.mono hK h6⟩
theorem PatsAt.mono{K L:Nat→Prop}{A:World}(hK:∀ g,K g→L g):∀ {l:List Pat} {ao:Option Addr} {i:Nat},PatsAt K A l ao i→PatsAt L A l ao i
 | [],_,_,_=>by unfold PatsAt;trivial
 | p::l,ao,i,h=>by
  unfold PatsAt at h ⊢
  obtain⟨⟨g,off,cs,h1,h2,h3,h4,h5⟩,h6⟩:=h
  exact⟨⟨g,off,cs,h1,hK g h2,h3,h4,PatAt.mono hK h5⟩,PatsAt.mono hK h6⟩
end
end Go.Ab
set_option maxRecDepth 100000
set_option maxHeartbeats 8000000
namespace Go.Proofs.YtfdlhlghcbeblaaGreatDoor
open Go.RowKit Go.Ab
mutual
def PartAt(K:Nat→Prop)(w:World):PartS→Value→Prop
 | .sound pl mi nt,v=>v=.iface 379 (.agg #[.int .u32 (pl:Int),.int .u32 (mi:Int),.bool nt])∧pl<4294967296∧mi<4294967296
 | .edge e,v=>v=.iface 381 (.agg #[.bool e])
 | .seq l,v=>∃ ao cap,v=.iface 386 (.agg #[.slice ao l.length cap])∧l.length≤maxLen∧PartsAt K w l ao 0
 | .alt l,v=>∃ ao cap,v=.iface 383 (.agg #[.slice ao l.length cap])∧l.length≤maxLen∧PartsAt K w l ao 0
 | .rep p mn mx,v=>∃ u,v=.iface 385 (.agg #[u,.int .i64 mn,.int .i64 mx])∧(0≤mn∧mn≤32∧(mx=-1∨mn≤mx∧mx≤32))∧PartAt K w p u
def PartsAt(K:Nat→Prop)(w:World):List PartS→Option Addr→Nat→Prop
 | [],_,_=>True
 | p::l,ao,i=>(∃ g off u,ao=some ⟨g,off,none⟩∧K g∧g<w.heap.size∧w.cell? ⟨g,off+i,none⟩=some u∧PartAt K w p u)∧PartsAt K w l ao (i+1)
end
theorem PartsAt.get{K:Nat→Prop}{w:World}:∀ {l:List PartS} {ao:Option Addr} {i:Nat},PartsAt K w l ao i→∀ j (h:j<l.length),∃ g off u,ao=some ⟨g,off,none⟩∧K g∧g<w.heap.size∧w.cell? ⟨g,off+(i+j),none⟩=some u∧PartAt K w l[j] u
 | [],_,_,_,j,h=>by simp at h
 | p::l,ao,i,h,0,_=>by unfold PartsAt at h;exact h.1
 | p::l,ao,i,h,j+1,hj=>by
  unfold PartsAt at h
  have:=PartsAt.get h.2 j (by simpa using hj)
  rw [show i+(j+1)=i+1+j by omega]
  exact this
theorem PartsAt.mk{K:Nat→Prop}{w:World}:∀ {l:List PartS} {ao:Option Addr} {i:Nat},(∀ j (h:j<l.length),∃ g off u,ao=some ⟨g,off,none⟩∧K g∧g<w.heap.size∧w.cell? ⟨g,off+(i+j),none⟩=some u∧PartAt K w l[j] u)→PartsAt K w l ao i
 | [],_,_,_=>by unfold PartsAt;trivial
 | p::l,ao,i,h=>by
  unfold PartsAt
  refine⟨h 0 (by simp),PartsAt.mk fun j hj=>?_⟩
  have:=h (j+1) (by simpa using hj)
  rw [show i+(j+1)=i+1+j by omega] at this
  exact this
mutual
theorem PartAt.keep{K S:Nat→Prop}{A B:World}(ht:Turn S A B)(hS:∀ g,K g→¬ S g):∀ {p:PartS} {v:Value},PartAt K A p v→PartAt K B p v
 | .sound pl mi nt,v,h=>by unfold PartAt at h ⊢;exact h
 | .edge e,v,h=>by unfold PartAt at h ⊢;exact h
 | .seq l,v,h=>by
  unfold PartAt at h ⊢
  obtain⟨ao,cap,h1,h2,h3⟩:=h
  exact⟨ao,cap,h1,h2,PartsAt.keep ht hS h3⟩
 | .alt l,v,h=>by
  unfold PartAt at h ⊢
  obtain⟨ao,cap,h1,h2,h3⟩:=h
  exact⟨ao,cap,h1,h2,PartsAt.keep ht hS h3⟩
 | .rep p mn mx,v,h=>by
  unfold PartAt at h ⊢
  obtain⟨u,h1,h2,h3⟩:=h
  exact⟨u,h1,h2,PartAt.keep ht hS h3⟩
theorem PartsAt.keep{K S:Nat→Prop}{A B:World}(ht:Turn S A B)(hS:∀ g,K g→¬ S g):∀ {l:List PartS} {ao:Option Addr} {i:Nat},PartsAt K A l ao i→PartsAt K B l ao i
 | [],_,_,_=>by unfold PartsAt;trivial
 | p::l,ao,i,h=>by
  unfold PartsAt at h ⊢
  obtain⟨⟨g,off,u,h1,h2,h3,h4,h5⟩,h6⟩:=h
  exact⟨⟨g,off,u,h1,h2,Nat.lt_of_lt_of_le h3 ht.size,ht.cell_some h4 (hS g h2),PartAt.keep ht hS h5⟩,PartsAt.keep ht hS h6⟩
end
theorem PartAt.ext{K:Nat→Prop}{A B:World}{p:PartS}{v:Value}(h:PartAt K A p v)(ht:Ext A B):PartAt K B p v:=h.keep ht fun _ _ h=>h
theorem PartsAt.ext{K:Nat→Prop}{A B:World}{l:List PartS}{ao:Option Addr}{i:Nat}(h:PartsAt K A l ao i)(ht:Ext A B):PartsAt K B l ao i:=h.keep ht fun _ _ h=>h
mutual
theorem PartAt.mono{K L:Nat→Prop}{A:World}(hK:∀ g,g<A.heap.size→K g→L g):∀ {p:PartS} {v:Value},PartAt K A p v→PartAt L A p v
 | .sound pl mi nt,v,h=>by unfold PartAt at h ⊢;exact h
 | .edge e,v,h=>by unfold PartAt at h ⊢;exact h
 | .seq l,v,h=>by
  unfold PartAt at h ⊢
  obtain⟨ao,cap,h1,h2,h3⟩:=h
  exact⟨ao,cap,h1,h2,PartsAt.mono hK h3⟩
 | .alt l,v,h=>by
  unfold PartAt at h ⊢
  obtain⟨ao,cap,h1,h2,h3⟩:=h
  exact⟨ao,cap,h1,h2,PartsAt.mono hK h3⟩
 | .rep p mn mx,v,h=>by
  unfold PartAt at h ⊢
  obtain⟨u,h1,h2,h3⟩:=h
  exact⟨u,h1,h2,PartAt.mono hK h3⟩
theorem PartsAt.mono{K L:Nat→Prop}{A:World}(hK:∀ g,g<A.heap.size→K g→L g):∀ {l:List PartS} {ao:Option Addr} {i:Nat},PartsAt K A l ao i→PartsAt L A l ao i
 | [],_,_,_=>by unfold PartsAt;trivial
 | p::l,ao,i,h=>by
  unfold PartsAt at h ⊢
  obtain⟨⟨g,off,u,h1,h2,h3,h4,h5⟩,h6⟩:=h
  exact⟨⟨g,off,u,h1,hK g h3 h2,h3,h4,PartAt.mono hK h5⟩,PartsAt.mono hK h6⟩
end
def sndF(w:Wd)(c:Nat × Nat)(nt:Bool)(k:Nat):Nat→Nat:=fun a=>if a<k then rowM (soundB w c nt) a else 0
theorem rowM_sound{w:Wd}{c:Nat × Nat}{nt:Bool}{a:Nat}(hw:w.length≤32)(ha:a<w.length):rowM (soundB w c nt) a=if sat (w.getD a (0,0)) c != nt then 2 ^ (a+1) else 0:=by
 by_cases h:(sat (w.getD a (0,0)) c != nt)=true
 ·rw [if_pos h,two_pow_mask (n:=33) (by omega)]
  exact mask_congr fun i _=>by
   apply Bool.eq_iff_iff.2
   simp only [soundB,h,ha,decide_true,Bool.and_true,beq_iff_eq]
 ·have h:(sat (w.getD a (0,0)) c != nt)=false:=by simpa using h
  rw [h,if_neg (by simp)]
  have e:soundB w c nt a=fun _=>false:=by funext b;simp only [soundB,h,Bool.and_false]
  rw [rowM,e,mask_zero]
theorem sound_in{w:World}{pl mi:Nat}{nt:Bool}(hpl:pl<4294967296)(hmi:mi<4294967296){v:Value}{ws:Wd}(hv:WordAt w v ws)(hl:ws.length≤32) :
  Calls Tryz.prog 330 #[.agg #[.int .u32 (pl:Int),.int .u32 (mi:Int),.bool nt],v] w fun e w'=>e=.returned (.agg (rowArr (rowM (soundB ws (pl,mi) nt))))∧Ext w w':=by
 have z1:=zero_rel
 have z2:=relArr_size noB
 have z3:=relArr_ne noB
 obtain⟨ao,cap,rfl,_⟩:=hv.slice
 obtain⟨N,hN⟩:∃ N,ws.length=N:=⟨_,rfl⟩
 have HN:=Lib.hid hN
 rw [hN] at hl hv ⊢
 clear hN
 go_enter Tryz.func330,Tryz.ntmps330
 go_wp2
 clear z1 z2 z3
 obtain⟨B,hB⟩:∃ B,w.heap.size=B:=⟨_,rfl⟩
 have hx:((w.alloc (.cells #[.int .u32 (pl:Int),.int .u32 (mi:Int),.bool nt] 379)).alloc (.cells (relArr noB) 363)).heap[B]?=some (.cells #[.int .u32 (pl:Int),.int .u32 (mi:Int),.bool nt] 379 (0,0)):=by
  subst hB;exact new_keep (new_at rfl)
 have hr:RowsAt ((w.alloc (.cells #[.int .u32 (pl:Int),.int .u32 (mi:Int),.bool nt] 379)).alloc (.cells (relArr noB) 363)) (B+1) (sndF ws (pl,mi) nt 0):=by
  subst hB
  refine(new_at (by simp)).trans ?_
  rw [rowArr_rel,rowArr_congr (g:=sndF ws (pl,mi) nt 0) fun a _=>by rw [rowM_no];simp [sndF]]
 have hE:Ext w ((w.alloc (.cells #[.int .u32 (pl:Int),.int .u32 (mi:Int),.bool nt] 379)).alloc (.cells (relArr noB) 363)):=((Turn.refl _ w).alloc _).alloc _
 generalize ((w.alloc (.cells #[.int .u32 (pl:Int),.int .u32 (mi:Int),.bool nt] 379)).alloc (.cells (relArr noB) 363))=w1 at hx hr hE ⊢
 rw [hB]
 have HB:=Lib.hid hB
 have hB1:B+1<w1.heap.size:=hr.lt
 clear hB
 refine wp_loop (fun a W=>∃(k:Nat),k≤N∧a.defers=[]∧(a.tmps.size=38∧a.tmps.getD 2 undef=.pointer (some ⟨B,0,none⟩)∧a.tmps.getD 4 undef=.pointer (some ⟨B+1,0,none⟩)∧a.tmps.getD 7 undef=.slice ao N cap∧a.tmps.getD 8 undef=.int .i64 N∧a.tmps.getD 9 undef=.int .i64 k) ∧
   W.heap[B]?=some (.cells #[.int .u32 (pl:Int),.int .u32 (mi:Int),.bool nt] 379 (0,0))∧RowsAt W (B+1) (sndF ws (pl,mi) nt k)∧Ext w W)
  (fun a _=>N - (intOf (a.tmps.getD 9 undef)).toNat) ?_ ?_
 ·exact⟨0,by omega,rfl,⟨rfl,rfl,rfl,rfl,rfl,rfl⟩,hx,hr,hE⟩
 clear hx hr hE
 rintro⟨t,_⟩ W ⟨k,hk,hds,⟨hsz,f2,f4,f7,f8,f9⟩,hx,hr,hE⟩
 subst hds
 obtain⟨u',hu⟩:=frame_fun hsz
 obtain⟨u,rfl⟩:∃ x,x=u':=⟨_,rfl⟩
 have hu':t=#[u 0,u 1,u 2,u 3,u 4,u 5,u 6,u 7,u 8,u 9,u 10,u 11,u 12,u 13,u 14,u 15,u 16,u 17,u 18,u 19,u 20,u 21,u 22,u 23,u 24,u 25,u 26,u 27,u 28,u 29,u 30,u 31,u 32,u 33,u 34,u 35,u 36,u 37]:=hu
 clear hu
 subst hu'
 change u 2=_ at f2
 change u 4=_ at f4
 change u 7=_ at f7
 change u 8=_ at f8
 change u 9=_ at f9
 rw [f2,f4,f7,f8,f9]
 clear f2 f4 f7 f8 f9 hsz
 by_cases hkN:k<N
 ·have h1:(k:Int)<(N:Int):=by omega
  have h2:(k:Int)<33:=by omega
  have h4:(k:Int)+1<64:=by omega
  have hkl:k<ws.length:=by rw [HN.out];exact hkN
  obtain⟨g,off,cap',he,hg,d1,d2⟩:=(hv.ext hE).at hkl
  simp only [Value.slice.injEq] at he
  obtain⟨rfl,hq',rfl⟩:=he
  clear hq'
  obtain⟨hs1,hs2⟩:=hv.2.get k hkl
  have hrow:=rowM_sound (c:=(pl,mi)) (nt:=nt) (by rw [HN.out];exact hl) hkl
  obtain⟨s,hs⟩:∃ s,ws.getD k (0,0)=s:=⟨_,rfl⟩
  rw [hs] at d1 d2 hs1 hs2 hrow
  have hq:=sat_bits (s:=s) (c:=(pl,mi)) hs1 hs2 hpl hmi
  obtain⟨q,hq0⟩:∃ q,sat s (pl,mi)=q:=⟨_,rfl⟩
  rw [hq0] at hq hrow
  obtain⟨sp,hsp⟩:∃ x,s.1=x:=⟨_,rfl⟩
  obtain⟨sm,hsm⟩:∃ x,s.2=x:=⟨_,rfl⟩
  rw [hsp] at d1 hs1 hq
  rw [hsm] at d2 hs2 hq
  have e1:sndF ws (pl,mi) nt k k=0:=by unfold sndF;rw [if_neg (by omega)]
  have hw:=pow_u64 (k:=k+1) (by omega)
  have hal:Ext W (W.alloc (.cells #[.int .u32 (sp:Int),.int .u32 (sm:Int)] 95)):=(Turn.refl _ W).alloc _
  have hxA:=hal.heap hx id
  have hrA:=hr.keep hal id
  have hEA:=hE.trans hal
  have x0:(W.alloc (.cells #[.int .u32 (sp:Int),.int .u32 (sm:Int)] 95)).cell? ⟨B,0,none⟩=some (.int .u32 (pl:Int)):=by rw [cell_of_row _ _ _ _ _ _ hxA];rfl
  have x1:(W.alloc (.cells #[.int .u32 (sp:Int),.int .u32 (sm:Int)] 95)).cell? ⟨B,1,none⟩=some (.int .u32 (mi:Int)):=by rw [cell_of_row _ _ _ _ _ _ hxA];rfl
  have x2:(W.alloc (.cells #[.int .u32 (sp:Int),.int .u32 (sm:Int)] 95)).cell? ⟨B,2,none⟩=some (.bool nt):=by rw [cell_of_row _ _ _ _ _ _ hxA];rfl
  have c1:=hrA.cell (a:=k) (by omega)
  rw [e1] at c1
  have fr:=hrA.free k
  obtain⟨P,hP⟩:∃ P,2 ^ (k+1)=P:=⟨_,rfl⟩
  rw [hP] at hw hrow
  have hst:=(hr.store k P).keep (Turn.alloc (Turn.refl (fun _=>False) _) (.cells #[.int .u32 (sp:Int),.int .u32 (sm:Int)] 95)) id
  have hTs:=(Turn.set1 W (B+1) k (.int .u64 (P:Int))).alloc (.cells #[.int .u32 (sp:Int),.int .u32 (sm:Int)] 95)
  have hxS:=hTs.heap hx (by omega)
  have hES:=hE.after hTs (fun b' h1 h2=>by have:=HB.out;omega)
  have hBW:B+1<W.heap.size:=hr.lt
  have hyes:(q != nt)=true→(fun i=>if i=k then P else sndF ws (pl,mi) nt k i)=sndF ws (pl,mi) nt (k+1):=fun hh=>by
   funext i
   by_cases e:i=k
   ·subst e;rw [if_pos rfl];unfold sndF;rw [if_pos (by omega),hrow,if_pos hh]
   ·rw [if_neg e];unfold sndF
    by_cases h:i<k
    ·rw [if_pos h,if_pos (by omega)]
    ·rw [if_neg h,if_neg (by omega)]
  have hno:(q != nt)=false→sndF ws (pl,mi) nt k=sndF ws (pl,mi) nt (k+1):=fun hh=>by
   funext i;unfold sndF
   by_cases e:i=k
   ·subst e;rw [if_neg (by omega),if_pos (by omega),hrow,hh];rfl
   ·by_cases h:i<k
    ·rw [if_pos h,if_pos (by omega)]
    ·rw [if_neg h,if_neg (by omega)]
  have hfy:(q != nt)=true→RowsAt ((W.setCell ⟨B+1,k,none⟩ (.int .u64 (P:Int))).alloc (.cells #[.int .u32 (sp:Int),.int .u32 (sm:Int)] 95)) (B+1) (sndF ws (pl,mi) nt (k+1)):=fun hh=>by rw [← hyes hh];exact hst
  have hfn:(q != nt)=false→RowsAt (W.alloc (.cells #[.int .u32 (sp:Int),.int .u32 (sm:Int)] 95)) (B+1) (sndF ws (pl,mi) nt (k+1)):=fun hh=>by rw [← hno hh];exact hrA
  have HP:=Lib.hid hP
  clear hP
  have HFY:=Lib.hid hfy;have HFN:=Lib.hid hfn;have HXS:=Lib.hid hxS;have HES:=Lib.hid hES;have HXA:=Lib.hid hxA;have HEA:=Lib.hid hEA
  clear hfy hfn hxS hES hxA hEA hyes hno hst hTs hrA hal e1 hs hq0 hsp hsm hrow hx hr hE hv
  cases q <;> cases nt
  ·go_wp2
   exact⟨⟨k+1,by omega,by simp,HXA.out,HFN.out rfl,HEA.out⟩,by simp [intOf];omega⟩
  ·go_wp2
   exact⟨⟨k+1,by omega,by simp,HXS.out,HFY.out rfl,HES.out⟩,by simp [intOf];omega⟩
  ·go_wp2
   exact⟨⟨k+1,by omega,by simp,HXS.out,HFY.out rfl,HES.out⟩,by simp [intOf];omega⟩
  ·go_wp2
   exact⟨⟨k+1,by omega,by simp,HXA.out,HFN.out rfl,HEA.out⟩,by simp [intOf];omega⟩
 ·obtain rfl:k=N:=by omega
  have h1:¬ (k:Int)<(k:Int):=by omega
  have e1:rowArr (sndF ws (pl,mi) nt k)=rowArr (rowM (soundB ws (pl,mi) nt)):=rowArr_congr fun a _=>by
   unfold sndF
   by_cases h:a<k
   ·rw [if_pos h]
   ·rw [if_neg h]
    have e:soundB ws (pl,mi) nt a=fun _=>false:=by
     funext b
     have:=HN.out
     simp only [soundB,show ¬ a<ws.length by omega,decide_false,Bool.and_false,Bool.false_and]
    rw [rowM,e,mask_zero]
  have hr':RowsAt W (B+1) (rowM (soundB ws (pl,mi) nt)):=by unfold RowsAt;rw [← e1];exact hr
  have hrow:=RowsAt.row (g:=rowM (soundB ws (pl,mi) nt)) hr'
  have hE2:=hE.after (Turn.setRow W (B+1) (rowArr (rowM (soundB ws (pl,mi) nt)))) (fun b' h1 h2=>by have:=HB.out;omega)
  clear hr e1 hx
  go_wp2_with (first
   | (refine wpList_load_row rfl 363 (.tmp 4) rfl (B+1) rfl _ _ _ _ hr' Tryz.underlying363 rfl (Tryz.relInfo _) ?_)
   | (refine wpList_store_row rfl 363 (.tmp 4) (.tmp 37) rfl (B+1) (rowArr (rowM (soundB ws (pl,mi) nt))) rfl rfl _ _ hr' (Tryz.relInfo _) (by simp only [rowArr_size]) (rowArr_one _) ?_))
  exact bodyPost_ret (v:=.agg (rowArr (rowM (soundB ws (pl,mi) nt)))) (rel_result rfl rfl hrow) rfl ⟨rfl,hE2⟩
theorem rowM_edge{_n a:Nat}(x:Nat)(ha:a<33):rowM (edgeB a) x=if x=a then 2 ^ a else 0:=by
 by_cases h:x=a
 ·subst h
  rw [if_pos rfl,two_pow_mask (n:=33) ha]
  exact mask_congr fun i _=>by simp [edgeB]
 ·rw [if_neg h]
  have e:edgeB a x=fun _=>false:=by funext b;simp [edgeB,h]
  rw [rowM,e,mask_zero]
theorem edge_in{w:World}{en:Bool}{v:Value}{ws:Wd}(hv:WordAt w v ws)(hl:ws.length≤32) :
  Calls Tryz.prog 331 #[.agg #[.bool en],v] w fun e w'=>e=.returned (.agg (rowArr (rowM (edgeB (if en then ws.length else 0)))))∧Ext w w':=by
 have z1:=zero_rel
 have z2:=relArr_size noB
 have z3:=relArr_ne noB
 obtain⟨ao,cap,rfl,_⟩:=hv.slice
 obtain⟨N,hN⟩:∃ N,ws.length=N:=⟨_,rfl⟩
 rw [hN] at hl ⊢
 obtain⟨B,hB⟩:∃ B,w.heap.size=B:=⟨_,rfl⟩
 have hr:RowsAt ((w.alloc (.cells #[.bool en] 381)).alloc (.cells (relArr noB) 363)) (w.heap.size+1) (fun _=>0):=by
  refine(new_at (by simp)).trans ?_
  rw [rowArr_rel,rowArr_congr (g:=fun _=>0) fun a _=>rowM_no a]
 have hE:Ext w ((w.alloc (.cells #[.bool en] 381)).alloc (.cells (relArr noB) 363)):=((Turn.refl _ w).alloc _).alloc _
 have hx:((w.alloc (.cells #[.bool en] 381)).alloc (.cells (relArr noB) 363)).heap[w.heap.size]?=some (.cells #[.bool en] 381 (0,0)):=new_keep (new_at rfl)
 have HR:=Lib.hid hr;have HE:=Lib.hid hE;have HX:=Lib.hid hx
 clear hN hB hr hE hx
 go_enter Tryz.func331,Tryz.ntmps331
 go_upto_region 1 with (fail)
 have hr:=HR.out;have hE:=HE.out;have hx:=HX.out
 clear z1 z2 z3 HR HE HX
 generalize ((w.alloc (.cells #[.bool en] 381)).alloc (.cells (relArr noB) 363))=w1 at hr hE hx ⊢
 obtain⟨B,hB⟩:∃ B,w.heap.size=B:=⟨_,rfl⟩
 rw [hB] at hr hx ⊢
 have HB:=Lib.hid hB
 clear hB
 have x0:=cell_of_one hx
 have fin:∀(k:Nat) (P:Nat),2 ^ k=P→k<33→RowsAt (w1.setCell ⟨B+1,k,none⟩ (.int .u64 (P:Int))) (B+1) (rowM (edgeB k))∧Ext w (w1.setCell ⟨B+1,k,none⟩ (.int .u64 (P:Int))):=fun k P hP hk=>by
  subst hP
  have h:=hr.store k (2 ^ k)
  have e:rowArr (fun i=>if i=k then 2 ^ k else 0)=rowArr (rowM (edgeB k)):=rowArr_congr fun a _=>(rowM_edge (_n:=0) a hk).symm
  refine⟨?_,hE.after (Turn.set1 w1 (B+1) k _) (fun b' h1 h2=>by have:=HB.out;omega)⟩
  unfold RowsAt;rw [← e];exact h
 have HF:=Lib.hid fin;have HR:=Lib.hid hr
 have hB1:=hr.lt
 clear fin hE
 cases en
 ·clear HR
  have c1:=hr.cell (a:=0) (by omega)
  have fr:=hr.free 0
  obtain⟨f1,f2⟩:=HF.out 0 1 rfl (by omega)
  have F1:=Lib.hid f1
  have hrow:=RowsAt.row (g:=rowM (edgeB 0)) f1
  have hE2:=f2.after (Turn.setRow (w1.setCell ⟨B+1,0,none⟩ (.int .u64 ((1:Nat):Int))) (B+1) (rowArr (rowM (edgeB 0)))) (fun b' h1 h2=>by have:=HB.out;omega)
  have HROW:=Lib.hid hrow;have HE2:=Lib.hid hE2
  clear hr hx f2 hrow hE2 f1
  go_wp2_with (first
   | (refine wpList_load_row rfl 363 (.tmp 4) rfl (B+1) rfl _ _ _ _ F1.out Tryz.underlying363 rfl (Tryz.relInfo _) ?_)
   | (refine wpList_store_row rfl 363 (.tmp 4) (.tmp 14) rfl (B+1) (rowArr (rowM (edgeB 0))) rfl rfl _ _ F1.out (Tryz.relInfo _) (by simp only [rowArr_size]) (rowArr_one _) ?_))
  exact bodyPost_ret (v:=.agg (rowArr (rowM (edgeB 0)))) (rel_result rfl rfl HROW.out) rfl ⟨rfl,HE2.out⟩
 ·have hk3:(N:Int)<33:=by omega
  have hk4:(N:Int)<64:=by omega
  have hw:=pow_u64 (k:=N) (by omega)
  obtain⟨P,hP⟩:∃ P,2 ^ N=P:=⟨_,rfl⟩
  rw [hP] at hw
  have HP:=Lib.hid hP
  clear hP HR
  have c1:=hr.cell (a:=N) (by omega)
  have fr:=hr.free N
  obtain⟨f1,f2⟩:=HF.out N P HP.out (by omega)
  have F1:=Lib.hid f1
  have hrow:=RowsAt.row (g:=rowM (edgeB N)) f1
  have hE2:=f2.after (Turn.setRow (w1.setCell ⟨B+1,N,none⟩ (.int .u64 ((P:Nat):Int))) (B+1) (rowArr (rowM (edgeB N)))) (fun b' h1 h2=>by have:=HB.out;omega)
  have HROW:=Lib.hid hrow;have HE2:=Lib.hid hE2
  clear hr hx f2 hrow hE2 f1
  go_wp2_with (first
   | (refine wpList_load_row rfl 363 (.tmp 4) rfl (B+1) rfl _ _ _ _ F1.out Tryz.underlying363 rfl (Tryz.relInfo _) ?_)
   | (refine wpList_store_row rfl 363 (.tmp 4) (.tmp 14) rfl (B+1) (rowArr (rowM (edgeB N))) rfl rfl _ _ F1.out (Tryz.relInfo _) (by simp only [rowArr_size]) (rowArr_one _) ?_))
  exact bodyPost_ret (v:=.agg (rowArr (rowM (edgeB N)))) (rel_result rfl rfl HROW.out) rfl ⟨rfl,HE2.out⟩
end Go.Proofs.YtfdlhlghcbeblaaGreatDoor
