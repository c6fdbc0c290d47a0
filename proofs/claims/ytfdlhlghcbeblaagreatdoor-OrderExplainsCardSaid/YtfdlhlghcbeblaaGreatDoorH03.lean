/- Compiled patterns in memory; sound.in, edge.in. seq.in, alt.in, rep.in: by induction over compiled patterns. append of a slice that is read, empty or nil too. No program is named. -/
import Derived.Test.YtfdlhlghcbeblaaGreatDoorH02
import Derived.Laws.OwnMore
set_option maxRecDepth 100000
set_option maxHeartbeats 8000000
namespace Go.Proofs.YtfdlhlghcbeblaaGreatDoor
open Go.RowKit Go.Ab
mutual
def PartAt(K:Nat->Prop)(w:World):PartS->Value->Prop
 | .sound pl mi nt,v=>v=.iface 379 (.agg #[.int .u32 (pl:Int),.int .u32 (mi:Int),.bool nt])/\pl<4294967296/\mi<4294967296
 | .edge e,v=>v=.iface 381 (.agg #[.bool e])
 | .seq l,v=>∃ ao cap,v=.iface 386 (.agg #[.slice ao l.length cap])/\l.length<=maxLen/\PartsAt K w l ao 0
 | .alt l,v=>∃ ao cap,v=.iface 383 (.agg #[.slice ao l.length cap])/\l.length<=maxLen/\PartsAt K w l ao 0
 | .rep p mn mx,v=>∃ u,v=.iface 385 (.agg #[u,.int .i64 mn,.int .i64 mx])/\(0<=mn/\mn<=32/\(mx=-1\/mn<=mx/\mx<=32))/\PartAt K w p u
def PartsAt(K:Nat->Prop)(w:World):List PartS->Option Addr->Nat->Prop
 | [],_,_=>True
 | p::l,ao,i=>(∃ g off u,ao=some ⟨g,off,none⟩/\K g/\g<w.heap.size/\w.cell? ⟨g,off+i,none⟩=some u/\PartAt K w p u)/\PartsAt K w l ao (i+1)
end
theorem PartsAt.get{K:Nat->Prop}{w:World}:∀ {l:List PartS} {ao:Option Addr} {i:Nat},PartsAt K w l ao i->∀ j (h:j<l.length),∃ g off u,ao=some ⟨g,off,none⟩/\K g/\g<w.heap.size/\w.cell? ⟨g,off+(i+j),none⟩=some u/\PartAt K w l[j] u
 | [],_,_,_,j,h=>by simp at h
 | p::l,ao,i,h,0,_=>by unfold PartsAt at h;exact h.1
 | p::l,ao,i,h,j+1,hj=>by
  unfold PartsAt at h
  have:=PartsAt.get h.2 j (by simpa using hj)
  rw [show i+(j+1)=i+1+j by omega]
  exact this
theorem PartsAt.mk{K:Nat->Prop}{w:World}:∀ {l:List PartS} {ao:Option Addr} {i:Nat},(∀ j (h:j<l.length),∃ g off u,ao=some ⟨g,off,none⟩/\K g/\g<w.heap.size/\w.cell? ⟨g,off+(i+j),none⟩=some u/\PartAt K w l[j] u)->PartsAt K w l ao i
 | [],_,_,_=>by unfold PartsAt;trivial
 | p::l,ao,i,h=>by
  unfold PartsAt
  refine⟨h 0 (by simp),PartsAt.mk fun j hj=>?_⟩
  have:=h (j+1) (by simpa using hj)
  rw [show i+(j+1)=i+1+j by omega] at this
  exact this
mutual
theorem PartAt.keep{K S:Nat->Prop}{A B:World}(ht:Turn S A B)(hS:∀ g,K g->¬ S g):∀ {p:PartS} {v:Value},PartAt K A p v->PartAt K B p v
 | .sound pl mi nt,v,h=>by unfold PartAt at h ⊢;exact h
 | .edge e,v,h=>by unfold PartAt at h ⊢;exact h
 | .seq l,v,h=>by
  unfold PartAt at h ⊢
  obtain⟨ao,cap,h1,h2,h3⟩:=h
  exact⟨ao,cap,h1,h2,PartsAt.keep ht hS h3⟩
 | .alt l,v,h=>by
  unfold PartAt at h ⊢
  obtain⟨ao,cap,h1,h2,h3⟩:=h
  exact⟨ao,cap,h1,h2,PartsAt.keep ht hS h3⟩
 | .rep p mn mx,v,h=>by
  unfold PartAt at h ⊢
  obtain⟨u,h1,h2,h3⟩:=h
  exact⟨u,h1,h2,PartAt.keep ht hS h3⟩
theorem PartsAt.keep{K S:Nat->Prop}{A B:World}(ht:Turn S A B)(hS:∀ g,K g->¬ S g):∀ {l:List PartS} {ao:Option Addr} {i:Nat},PartsAt K A l ao i->PartsAt K B l ao i
 | [],_,_,_=>by unfold PartsAt;trivial
 | p::l,ao,i,h=>by
  unfold PartsAt at h ⊢
  obtain⟨⟨g,off,u,h1,h2,h3,h4,h5⟩,h6⟩:=h
  exact⟨⟨g,off,u,h1,h2,Nat.lt_of_lt_of_le h3 ht.size,ht.cell_some h4 (hS g h2),PartAt.keep ht hS h5⟩,PartsAt.keep ht hS h6⟩
end
theorem PartAt.ext{K:Nat->Prop}{A B:World}{p:PartS}{v:Value}(h:PartAt K A p v)(ht:Ext A B):PartAt K B p v:=h.keep ht fun _ _ h=>h
theorem PartsAt.ext{K:Nat->Prop}{A B:World}{l:List PartS}{ao:Option Addr}{i:Nat}(h:PartsAt K A l ao i)(ht:Ext A B):PartsAt K B l ao i:=h.keep ht fun _ _ h=>h
mutual
theorem PartAt.mono{K L:Nat->Prop}{A:World}(hK:∀ g,g<A.heap.size->K g->L g):∀ {p:PartS} {v:Value},PartAt K A p v->PartAt L A p v
 | .sound pl mi nt,v,h=>by unfold PartAt at h ⊢;exact h
 | .edge e,v,h=>by unfold PartAt at h ⊢;exact h
 | .seq l,v,h=>by
  unfold PartAt at h ⊢
  obtain⟨ao,cap,h1,h2,h3⟩:=h
  exact⟨ao,cap,h1,h2,PartsAt.mono hK h3⟩
 | .alt l,v,h=>by
  unfold PartAt at h ⊢
  obtain⟨ao,cap,h1,h2,h3⟩:=h
  exact⟨ao,cap,h1,h2,PartsAt.mono hK h3⟩
 | .rep p mn mx,v,h=>by
  unfold PartAt at h ⊢
  obtain⟨u,h1,h2,h3⟩:=h
  exact⟨u,h1,h2,PartAt.mono hK h3⟩
theorem PartsAt.mono{K L:Nat->Prop}{A:World}(hK:∀ g,g<A.heap.size->K g->L g):∀ {l:List PartS} {ao:Option Addr} {i:Nat},PartsAt K A l ao i->PartsAt L A l ao i
 | [],_,_,_=>by unfold PartsAt;trivial
 | p::l,ao,i,h=>by
  unfold PartsAt at h ⊢
  obtain⟨⟨g,off,u,h1,h2,h3,h4,h5⟩,h6⟩:=h
  exact⟨⟨g,off,u,h1,hK g h3 h2,h3,h4,PartAt.mono hK h5⟩,PartsAt.mono hK h6⟩
end
def sndF(w:Wd)(c:Nat × Nat)(nt:Bool)(k:Nat):Nat->Nat:=fun a=>if a<k then rowM (soundB w c nt) a else 0
theorem rowM_sound{w:Wd}{c:Nat × Nat}{nt:Bool}{a:Nat}(hw:w.length<=32)(ha:a<w.length):rowM (soundB w c nt) a=if sat (w.getD a (0,0)) c != nt then 2 ^ (a+1) else 0:=by
 by_cases h:(sat (w.getD a (0,0)) c != nt)=true
 ·rw [if_pos h,two_pow_mask (n:=33) (by omega)]
  exact mask_congr fun i _=>by
   apply Bool.eq_iff_iff.2
   simp only [soundB,h,ha,decide_true,Bool.and_true,beq_iff_eq]
 ·have h:(sat (w.getD a (0,0)) c != nt)=false:=by simpa using h
  rw [h,if_neg (by simp)]
  have e:soundB w c nt a=fun _=>false:=by funext b;simp only [soundB,h,Bool.and_false]
  rw [rowM,e,mask_zero]
theorem sound_in{w:World}{pl mi:Nat}{nt:Bool}(hpl:pl<4294967296)(hmi:mi<4294967296){v:Value}{ws:Wd}(hv:WordAt w v ws)(hl:ws.length<=32) :
  Calls Tryz.prog 330 #[.agg #[.int .u32 (pl:Int),.int .u32 (mi:Int),.bool nt],v] w fun e w'=>e=.returned (.agg (rowArr (rowM (soundB ws (pl,mi) nt))))/\Ext w w':=by
 have z1:=zero_rel
 have z2:=relArr_size noB
 have z3:=relArr_ne noB
 obtain⟨ao,cap,rfl,_⟩:=hv.slice
 obtain⟨N,hN⟩:∃ N,ws.length=N:=⟨_,rfl⟩
 have HN:=Lib.hid hN
 rw [hN] at hl hv ⊢
 clear hN
 go_enter Tryz.func330,Tryz.ntmps330
 go_wp2
 clear z1 z2 z3
 obtain⟨B,hB⟩:∃ B,w.heap.size=B:=⟨_,rfl⟩
 have hx:((w.alloc (.cells #[.int .u32 (pl:Int),.int .u32 (mi:Int),.bool nt] 379)).alloc (.cells (relArr noB) 363)).heap[B]?=some (.cells #[.int .u32 (pl:Int),.int .u32 (mi:Int),.bool nt] 379 (0,0)):=by
  subst hB;exact new_keep (new_at rfl)
 have hr:RowsAt ((w.alloc (.cells #[.int .u32 (pl:Int),.int .u32 (mi:Int),.bool nt] 379)).alloc (.cells (relArr noB) 363)) (B+1) (sndF ws (pl,mi) nt 0):=by
  subst hB
  refine(new_at (by simp)).trans ?_
  rw [rowArr_rel,rowArr_congr (g:=sndF ws (pl,mi) nt 0) fun a _=>by rw [rowM_no];simp [sndF]]
 have hE:Ext w ((w.alloc (.cells #[.int .u32 (pl:Int),.int .u32 (mi:Int),.bool nt] 379)).alloc (.cells (relArr noB) 363)):=((Turn.refl _ w).alloc _).alloc _
 generalize ((w.alloc (.cells #[.int .u32 (pl:Int),.int .u32 (mi:Int),.bool nt] 379)).alloc (.cells (relArr noB) 363))=w1 at hx hr hE ⊢
 rw [hB]
 have HB:=Lib.hid hB
 have hB1:B+1<w1.heap.size:=hr.lt
 clear hB
 refine wp_loop (fun a W=>∃(k:Nat),k<=N/\a.defers=[]/\(a.tmps.size=38/\a.tmps.getD 2 undef=.pointer (some ⟨B,0,none⟩)/\a.tmps.getD 4 undef=.pointer (some ⟨B+1,0,none⟩)/\a.tmps.getD 7 undef=.slice ao N cap/\a.tmps.getD 8 undef=.int .i64 N/\a.tmps.getD 9 undef=.int .i64 k) /\
   W.heap[B]?=some (.cells #[.int .u32 (pl:Int),.int .u32 (mi:Int),.bool nt] 379 (0,0))/\RowsAt W (B+1) (sndF ws (pl,mi) nt k)/\Ext w W)
  (fun a _=>N - (intOf (a.tmps.getD 9 undef)).toNat) ?_ ?_
 ·exact⟨0,by omega,rfl,⟨rfl,rfl,rfl,rfl,rfl,rfl⟩,hx,hr,hE⟩
 clear hx hr hE
 rintro⟨t,_⟩ W ⟨k,hk,hds,⟨hsz,f2,f4,f7,f8,f9⟩,hx,hr,hE⟩
 subst hds
 obtain⟨u',hu⟩:=frame_fun hsz
 obtain⟨u,rfl⟩:∃ x,x=u':=⟨_,rfl⟩
 have hu':t=#[u 0,u 1,u 2,u 3,u 4,u 5,u 6,u 7,u 8,u 9,u 10,u 11,u 12,u 13,u 14,u 15,u 16,u 17,u 18,u 19,u 20,u 21,u 22,u 23,u 24,u 25,u 26,u 27,u 28,u 29,u 30,u 31,u 32,u 33,u 34,u 35,u 36,u 37]:=hu
 clear hu
 subst hu'
 change u 2=_ at f2
 change u 4=_ at f4
 change u 7=_ at f7
 change u 8=_ at f8
 change u 9=_ at f9
 rw [f2,f4,f7,f8,f9]
 clear f2 f4 f7 f8 f9 hsz
 by_cases hkN:k<N
 ·have h1:(k:Int)<(N:Int):=by omega
  have h2:(k:Int)<33:=by omega
  have h4:(k:Int)+1<64:=by omega
  have hkl:k<ws.length:=by rw [HN.out];exact hkN
  obtain⟨g,off,cap',he,hg,d1,d2⟩:=(hv.ext hE).at hkl
  simp only [Value.slice.injEq] at he
  obtain⟨rfl,hq',rfl⟩:=he
  clear hq'
  obtain⟨hs1,hs2⟩:=hv.2.get k hkl
  have hrow:=rowM_sound (c:=(pl,mi)) (nt:=nt) (by rw [HN.out];exact hl) hkl
  obtain⟨s,hs⟩:∃ s,ws.getD k (0,0)=s:=⟨_,rfl⟩
  rw [hs] at d1 d2 hs1 hs2 hrow
  have hq:=sat_bits (s:=s) (c:=(pl,mi)) hs1 hs2 hpl hmi
  obtain⟨q,hq0⟩:∃ q,sat s (pl,mi)=q:=⟨_,rfl⟩
  rw [hq0] at hq hrow
  obtain⟨sp,hsp⟩:∃ x,s.1=x:=⟨_,rfl⟩
  obtain⟨sm,hsm⟩:∃ x,s.2=x:=⟨_,rfl⟩
  rw [hsp] at d1 hs1 hq
  rw [hsm] at d2 hs2 hq
  have e1:sndF ws (pl,mi) nt k k=0:=by unfold sndF;rw [if_neg (by omega)]
  have hw:=pow_u64 (k:=k+1) (by omega)
  have hal:Ext W (W.alloc (.cells #[.int .u32 (sp:Int),.int .u32 (sm:Int)] 95)):=(Turn.refl _ W).alloc _
  have hxA:=hal.heap hx id
  have hrA:=hr.keep hal id
  have hEA:=hE.trans hal
  have x0:(W.alloc (.cells #[.int .u32 (sp:Int),.int .u32 (sm:Int)] 95)).cell? ⟨B,0,none⟩=some (.int .u32 (pl:Int)):=by rw [cell_of_row _ _ _ _ _ _ hxA];rfl
  have x1:(W.alloc (.cells #[.int .u32 (sp:Int),.int .u32 (sm:Int)] 95)).cell? ⟨B,1,none⟩=some (.int .u32 (mi:Int)):=by rw [cell_of_row _ _ _ _ _ _ hxA];rfl
  have x2:(W.alloc (.cells #[.int .u32 (sp:Int),.int .u32 (sm:Int)] 95)).cell? ⟨B,2,none⟩=some (.bool nt):=by rw [cell_of_row _ _ _ _ _ _ hxA];rfl
  have c1:=hrA.cell (a:=k) (by omega)
  rw [e1] at c1
  have fr:=hrA.free k
  obtain⟨P,hP⟩:∃ P,2 ^ (k+1)=P:=⟨_,rfl⟩
  rw [hP] at hw hrow
  have hst:=(hr.store k P).keep (Turn.alloc (Turn.refl (fun _=>False) _) (.cells #[.int .u32 (sp:Int),.int .u32 (sm:Int)] 95)) id
  have hTs:=(Turn.set1 W (B+1) k (.int .u64 (P:Int))).alloc (.cells #[.int .u32 (sp:Int),.int .u32 (sm:Int)] 95)
  have hxS:=hTs.heap hx (by omega)
  have hES:=hE.after hTs (fun b' h1 h2=>by have:=HB.out;omega)
  have hBW:B+1<W.heap.size:=hr.lt
  have hyes:(q != nt)=true->(fun i=>if i=k then P else sndF ws (pl,mi) nt k i)=sndF ws (pl,mi) nt (k+1):=fun hh=>by
   funext i
   by_cases e:i=k
   ·subst e;rw [if_pos rfl];unfold sndF;rw [if_pos (by omega),hrow,if_pos hh]
   ·rw [if_neg e];unfold sndF
    by_cases h:i<k
    ·rw [if_pos h,if_pos (by omega)]
    ·rw [if_neg h,if_neg (by omega)]
  have hno:(q != nt)=false->sndF ws (pl,mi) nt k=sndF ws (pl,mi) nt (k+1):=fun hh=>by
   funext i;unfold sndF
   by_cases e:i=k
   ·subst e;rw [if_neg (by omega),if_pos (by omega),hrow,hh];rfl
   ·by_cases h:i<k
    ·rw [if_pos h,if_pos (by omega)]
    ·rw [if_neg h,if_neg (by omega)]
  have hfy:(q != nt)=true->RowsAt ((W.setCell ⟨B+1,k,none⟩ (.int .u64 (P:Int))).alloc (.cells #[.int .u32 (sp:Int),.int .u32 (sm:Int)] 95)) (B+1) (sndF ws (pl,mi) nt (k+1)):=fun hh=>by rw [<-hyes hh];exact hst
  have hfn:(q != nt)=false->RowsAt (W.alloc (.cells #[.int .u32 (sp:Int),.int .u32 (sm:Int)] 95)) (B+1) (sndF ws (pl,mi) nt (k+1)):=fun hh=>by rw [<-hno hh];exact hrA
  have HP:=Lib.hid hP
  clear hP
  have HFY:=Lib.hid hfy;have HFN:=Lib.hid hfn;have HXS:=Lib.hid hxS;have HES:=Lib.hid hES;have HXA:=Lib.hid hxA;have HEA:=Lib.hid hEA
  clear hfy hfn hxS hES hxA hEA hyes hno hst hTs hrA hal e1 hs hq0 hsp hsm hrow hx hr hE hv
  cases q <;> cases nt
  ·go_wp2
   exact⟨⟨k+1,by omega,by simp,HXA.out,HFN.out rfl,HEA.out⟩,by simp [intOf];omega⟩
  ·go_wp2
   exact⟨⟨k+1,by omega,by simp,HXS.out,HFY.out rfl,HES.out⟩,by simp [intOf];omega⟩
  ·go_wp2
   exact⟨⟨k+1,by omega,by simp,HXS.out,HFY.out rfl,HES.out⟩,by simp [intOf];omega⟩
  ·go_wp2
   exact⟨⟨k+1,by omega,by simp,HXA.out,HFN.out rfl,HEA.out⟩,by simp [intOf];omega⟩
 ·obtain rfl:k=N:=by omega
  have h1:¬ (k:Int)<(k:Int):=by omega
  have e1:rowArr (sndF ws (pl,mi) nt k)=rowArr (rowM (soundB ws (pl,mi) nt)):=rowArr_congr fun a _=>by
   unfold sndF
   by_cases h:a<k
   ·rw [if_pos h]
   ·rw [if_neg h]
    have e:soundB ws (pl,mi) nt a=fun _=>false:=by
     funext b
     have:=HN.out
     simp only [soundB,show ¬ a<ws.length by omega,decide_false,Bool.and_false,Bool.false_and]
    rw [rowM,e,mask_zero]
  have hr':RowsAt W (B+1) (rowM (soundB ws (pl,mi) nt)):=by unfold RowsAt;rw [<-e1];exact hr
  have hrow:=RowsAt.row (g:=rowM (soundB ws (pl,mi) nt)) hr'
  have hE2:=hE.after (Turn.setRow W (B+1) (rowArr (rowM (soundB ws (pl,mi) nt)))) (fun b' h1 h2=>by have:=HB.out;omega)
  clear hr e1 hx
  go_wp2_with (first
   | (refine wpList_load_row rfl 363 (.tmp 4) rfl (B+1) rfl _ _ _ _ hr' Tryz.underlying363 rfl (Tryz.relInfo _) ?_)
   | (refine wpList_store_row rfl 363 (.tmp 4) (.tmp 37) rfl (B+1) (rowArr (rowM (soundB ws (pl,mi) nt))) rfl rfl _ _ hr' (Tryz.relInfo _) (by simp only [rowArr_size]) (rowArr_one _) ?_))
  exact bodyPost_ret (v:=.agg (rowArr (rowM (soundB ws (pl,mi) nt)))) (rel_result rfl rfl hrow) rfl ⟨rfl,hE2⟩
theorem rowM_edge{_n a:Nat}(x:Nat)(ha:a<33):rowM (edgeB a) x=if x=a then 2 ^ a else 0:=by
 by_cases h:x=a
 ·subst h
  rw [if_pos rfl,two_pow_mask (n:=33) ha]
  exact mask_congr fun i _=>by simp [edgeB]
 ·rw [if_neg h]
  have e:edgeB a x=fun _=>false:=by funext b;simp [edgeB,h]
  rw [rowM,e,mask_zero]
theorem edge_in{w:World}{en:Bool}{v:Value}{ws:Wd}(hv:WordAt w v ws)(hl:ws.length<=32) :
  Calls Tryz.prog 331 #[.agg #[.bool en],v] w fun e w'=>e=.returned (.agg (rowArr (rowM (edgeB (if en then ws.length else 0)))))/\Ext w w':=by
 have z1:=zero_rel
 have z2:=relArr_size noB
 have z3:=relArr_ne noB
 obtain⟨ao,cap,rfl,_⟩:=hv.slice
 obtain⟨N,hN⟩:∃ N,ws.length=N:=⟨_,rfl⟩
 rw [hN] at hl ⊢
 obtain⟨B,hB⟩:∃ B,w.heap.size=B:=⟨_,rfl⟩
 have hr:RowsAt ((w.alloc (.cells #[.bool en] 381)).alloc (.cells (relArr noB) 363)) (w.heap.size+1) (fun _=>0):=by
  refine(new_at (by simp)).trans ?_
  rw [rowArr_rel,rowArr_congr (g:=fun _=>0) fun a _=>rowM_no a]
 have hE:Ext w ((w.alloc (.cells #[.bool en] 381)).alloc (.cells (relArr noB) 363)):=((Turn.refl _ w).alloc _).alloc _
 have hx:((w.alloc (.cells #[.bool en] 381)).alloc (.cells (relArr noB) 363)).heap[w.heap.size]?=some (.cells #[.bool en] 381 (0,0)):=new_keep (new_at rfl)
 have HR:=Lib.hid hr;have HE:=Lib.hid hE;have HX:=Lib.hid hx
 clear hN hB hr hE hx
 go_enter Tryz.func331,Tryz.ntmps331
 go_upto_region 1 with (fail)
 have hr:=HR.out;have hE:=HE.out;have hx:=HX.out
 clear z1 z2 z3 HR HE HX
 generalize ((w.alloc (.cells #[.bool en] 381)).alloc (.cells (relArr noB) 363))=w1 at hr hE hx ⊢
 obtain⟨B,hB⟩:∃ B,w.heap.size=B:=⟨_,rfl⟩
 rw [hB] at hr hx ⊢
 have HB:=Lib.hid hB
 clear hB
 have x0:=cell_of_one hx
 have fin:∀(k:Nat) (P:Nat),2 ^ k=P->k<33->RowsAt (w1.setCell ⟨B+1,k,none⟩ (.int .u64 (P:Int))) (B+1) (rowM (edgeB k))/\Ext w (w1.setCell ⟨B+1,k,none⟩ (.int .u64 (P:Int))):=fun k P hP hk=>by
  subst hP
  have h:=hr.store k (2 ^ k)
  have e:rowArr (fun i=>if i=k then 2 ^ k else 0)=rowArr (rowM (edgeB k)):=rowArr_congr fun a _=>(rowM_edge (_n:=0) a hk).symm
  refine⟨?_,hE.after (Turn.set1 w1 (B+1) k _) (fun b' h1 h2=>by have:=HB.out;omega)⟩
  unfold RowsAt;rw [<-e];exact h
 have HF:=Lib.hid fin;have HR:=Lib.hid hr
 have hB1:=hr.lt
 clear fin hE
 cases en
 ·clear HR
  have c1:=hr.cell (a:=0) (by omega)
  have fr:=hr.free 0
  obtain⟨f1,f2⟩:=HF.out 0 1 rfl (by omega)
  have F1:=Lib.hid f1
  have hrow:=RowsAt.row (g:=rowM (edgeB 0)) f1
  have hE2:=f2.after (Turn.setRow (w1.setCell ⟨B+1,0,none⟩ (.int .u64 ((1:Nat):Int))) (B+1) (rowArr (rowM (edgeB 0)))) (fun b' h1 h2=>by have:=HB.out;omega)
  have HROW:=Lib.hid hrow;have HE2:=Lib.hid hE2
  clear hr hx f2 hrow hE2 f1
  go_wp2_with (first
   | (refine wpList_load_row rfl 363 (.tmp 4) rfl (B+1) rfl _ _ _ _ F1.out Tryz.underlying363 rfl (Tryz.relInfo _) ?_)
   | (refine wpList_store_row rfl 363 (.tmp 4) (.tmp 14) rfl (B+1) (rowArr (rowM (edgeB 0))) rfl rfl _ _ F1.out (Tryz.relInfo _) (by simp only [rowArr_size]) (rowArr_one _) ?_))
  exact bodyPost_ret (v:=.agg (rowArr (rowM (edgeB 0)))) (rel_result rfl rfl HROW.out) rfl ⟨rfl,HE2.out⟩
 ·have hk3:(N:Int)<33:=by omega
  have hk4:(N:Int)<64:=by omega
  have hw:=pow_u64 (k:=N) (by omega)
  obtain⟨P,hP⟩:∃ P,2 ^ N=P:=⟨_,rfl⟩
  rw [hP] at hw
  have HP:=Lib.hid hP
  clear hP HR
  have c1:=hr.cell (a:=N) (by omega)
  have fr:=hr.free N
  obtain⟨f1,f2⟩:=HF.out N P HP.out (by omega)
  have F1:=Lib.hid f1
  have hrow:=RowsAt.row (g:=rowM (edgeB N)) f1
  have hE2:=f2.after (Turn.setRow (w1.setCell ⟨B+1,N,none⟩ (.int .u64 ((P:Nat):Int))) (B+1) (rowArr (rowM (edgeB N)))) (fun b' h1 h2=>by have:=HB.out;omega)
  have HROW:=Lib.hid hrow;have HE2:=Lib.hid hE2
  clear hr hx f2 hrow hE2 f1
  go_wp2_with (first
   | (refine wpList_load_row rfl 363 (.tmp 4) rfl (B+1) rfl _ _ _ _ F1.out Tryz.underlying363 rfl (Tryz.relInfo _) ?_)
   | (refine wpList_store_row rfl 363 (.tmp 4) (.tmp 14) rfl (B+1) (rowArr (rowM (edgeB N))) rfl rfl _ _ F1.out (Tryz.relInfo _) (by simp only [rowArr_size]) (rowArr_one _) ?_))
  exact bodyPost_ret (v:=.agg (rowArr (rowM (edgeB N)))) (rel_result rfl rfl HROW.out) rfl ⟨rfl,HE2.out⟩
end Go.Proofs.YtfdlhlghcbeblaaGreatDoor
set_option maxRecDepth 100000
set_option maxHeartbeats 8000000
namespace Go.Proofs.YtfdlhlghcbeblaaGreatDoor
open Go.RowKit Go.Ab
def partTy:PartS->TypeId
 | .sound ..=>379
 | .edge ..=>381
 | .seq ..=>386
 | .alt ..=>383
 | .rep ..=>385
def partFn:PartS->FuncId
 | .sound ..=>330
 | .edge ..=>331
 | .seq ..=>337
 | .alt ..=>332
 | .rep ..=>334
theorem partAt_iface{K:Nat->Prop}{w:World}{p:PartS}{u:Value}(h:PartAt K w p u):∃ pay,u=.iface (partTy p) pay:=by
 cases p <;> (unfold PartAt at h)
 ·exact⟨_,h.1⟩
 ·exact⟨_,h⟩
 ·obtain⟨ao,cap,h1,_⟩:=h;exact⟨_,h1⟩
 ·obtain⟨ao,cap,h1,_⟩:=h;exact⟨_,h1⟩
 ·obtain⟨x,h1,_⟩:=h;exact⟨_,h1⟩
theorem part_method (p : PartS) (pay : Value) (w : World) : (method 510 (partTy p) pay "ablaut/pats.in").run Tryz.prog w = .ok (partFn p, pay) w := by
 cases p <;> kernel_rfl
theorem part_call(p:PartS)(args:Array Value)(w:World):(callFunc (partFn p) args).run Tryz.prog w=.ok (.enter (partFn p) args) w:=by
 cases p
 all_goals first
  | exact enters_of Tryz.func330 (by kernel_rfl) rfl _ _
  | exact enters_of Tryz.func331 (by kernel_rfl) rfl _ _
  | exact enters_of Tryz.func337 (by kernel_rfl) rfl _ _
  | exact enters_of Tryz.func332 (by kernel_rfl) rfl _ _
  | exact enters_of Tryz.func334 (by kernel_rfl) rfl _ _
def InOk(p:PartS):Prop:=∀(K:Nat->Prop) (w:World) (pay v:Value) (ws:Wd),PartAt K w p (.iface (partTy p) pay)->WordAt w v ws->ws.length<=32->Tab w ->
 Calls Tryz.prog (partFn p) #[pay,v] w fun e w'=>e=.returned (.agg (rowArr (rowM (relS ws p))))/\Ext w w'
theorem tab_lt{w:World}(hT:Tab w):0<w.heap.size:=by
 have:=hT 0 (by decide)
 apply Nat.lt_of_not_le;intro h
 simp [World.cell?,Array.getElem?_eq_none h] at this
theorem seq_ok(l:List PartS)(hl:∀ p∈l,InOk p):InOk (.seq l):=by
 intro K w pay v ws hp hv hn hT
 unfold PartAt at hp
 obtain⟨ao,cap,hpe,hlm,hps⟩:=hp
 simp only [Value.iface.injEq] at hpe
 obtain⟨_,rfl⟩:=hpe
 obtain⟨bo,bcap,rfl,_⟩:=hv.slice
 unfold maxLen at hlm
 obtain⟨n,hN⟩:∃ n,ws.length=n:=⟨_,rfl⟩
 have HN:=Lib.hid hN
 rw [hN] at hn hv ⊢
 clear hN
 obtain⟨M,hM⟩:∃ M,l.length=M:=⟨_,rfl⟩
 have HM:=Lib.hid hM
 rw [hM] at hlm ⊢
 clear hM
 unfold relS
 show Calls Tryz.prog 337 _ _ _
 have z1:=zero_rel
 have z2:=relArr_size noB
 have z3:=relArr_ne noB
 have HL:=Lib.hid hl;have HPS:=Lib.hid hps;have HV:=Lib.hid hv;have HT:=Lib.hid hT
 clear hl hps hv hT
 go_enter Tryz.func337,Tryz.ntmps337
 go_wp2_with fail
 obtain⟨B,hB⟩:∃ B,w.heap.size=B:=⟨_,rfl⟩
 have hx:((w.alloc (.cells #[.slice ao M cap] 386)).alloc (.cells (relArr noB) 363)).heap[B]?=some (.cells #[.slice ao M cap] 386 (0,0)):=by
  subst hB;exact new_keep (new_at rfl)
 have hr:RowsAt ((w.alloc (.cells #[.slice ao M cap] 386)).alloc (.cells (relArr noB) 363)) (B+1) (fun _=>0):=by
  subst hB
  refine(new_at (by simp)).trans ?_
  rw [rowArr_rel,rowArr_congr (g:=fun _=>0) fun a _=>rowM_no a]
 have hE:Ext w ((w.alloc (.cells #[.slice ao M cap] 386)).alloc (.cells (relArr noB) 363)):=((Turn.refl _ w).alloc _).alloc _
 generalize ((w.alloc (.cells #[.slice ao M cap] 386)).alloc (.cells (relArr noB) 363))=w1 at hx hr hE ⊢
 rw [hB]
 have HB:=Lib.hid hB
 clear hB
 refine(identity_any n hn w1).mono ?_
 rintro e w2 ⟨rfl,hE2⟩
 have hx2:=hE2.heap hx id
 have hr2:=hr.keep hE2 id
 have hE02:=hE.trans hE2
 have hO0:(w2.alloc (.cells (relArr noB) 363)).heap[w2.heap.size]?=some (.cells (relArr noB) 363 (0,0)):=new_at rfl
 have x0:((w2.alloc (.cells (relArr noB) 363)).setRow w2.heap.size (rowArr (rowM (idB n)))).cell? ⟨B,0,none⟩=some (.slice ao M cap):=by
  have hlt:=(Array.getElem?_eq_some_iff.1 hx2).1
  refine cell_of_one ((Turn.setRow _ w2.heap.size _).heap (new_keep hx2) (by omega))
 go_wp2_with (refine wpList_store_row rfl 363 (.tmp 5) (.tmp 11) rfl w2.heap.size (rowArr (rowM (idB n))) rfl rfl _ _ hO0 (Tryz.relInfo _) (by rw [relArr_size,rowArr_size]) (rowArr_one _) ?_)
 obtain⟨O,hO⟩:∃ O,w2.heap.size=O:=⟨_,rfl⟩
 have hO1:RowsAt ((w2.alloc (.cells (relArr noB) 363)).setRow w2.heap.size (rowArr (rowM (idB n)))) w2.heap.size (rowM (idB n)):=setRow_heap _ _ _ _ _ _ hO0
 have hE3:Ext w2 ((w2.alloc (.cells (relArr noB) 363)).setRow w2.heap.size (rowArr (rowM (idB n)))):=((Turn.refl _ w2).alloc _).after (Turn.setRow _ _ _) (fun b' h1 h2=>by omega)
 have hl2:=hr2.lt
 generalize ((w2.alloc (.cells (relArr noB) 363)).setRow w2.heap.size (rowArr (rowM (idB n))))=w3 at hO1 hE3 x0 ⊢
 rw [hO] at hO1 hl2 ⊢
 have hr3:=hr2.keep hE3 id
 have hE03:=hE02.trans hE3
 clear hx hr hE hE2 hx2 hr2 hE02 hO0 hE3 hO z1 z2 z3 x0
 refine wp_loop (fun a W=>∃(k:Nat),k<=M/\a.defers=[]/\(a.tmps.size=25/\a.tmps.getD 1 undef=.slice bo n bcap/\a.tmps.getD 4 undef=.pointer (some ⟨B+1,0,none⟩)/\a.tmps.getD 5 undef=.pointer (some ⟨O,0,none⟩)/\a.tmps.getD 13 undef=.slice ao M cap/\a.tmps.getD 14 undef=.int .i64 M/\a.tmps.getD 15 undef=.int .i64 k) /\
   RowsAt W (B+1) (fun _=>0)/\RowsAt W O (rowM (seqS ws (l.take k) (idB n)))/\Ext w W)
  (fun a _=>M - (intOf (a.tmps.getD 15 undef)).toNat) ?_ ?_
 ·exact⟨0,by omega,rfl,⟨rfl,rfl,rfl,rfl,rfl,rfl,rfl⟩,hr3,by simpa [seqS] using hO1,hE03⟩
 clear hr3 hO1 hE03
 rintro⟨t,_⟩ W ⟨k,hk,hds,⟨hsz,f1,f4,f5,f13,f14,f15⟩,hr,hO,hE⟩
 subst hds
 obtain⟨u',hu⟩:=frame_fun hsz
 obtain⟨u,rfl⟩:∃ x,x=u':=⟨_,rfl⟩
 have hu':t=#[u 0,u 1,u 2,u 3,u 4,u 5,u 6,u 7,u 8,u 9,u 10,u 11,u 12,u 13,u 14,u 15,u 16,u 17,u 18,u 19,u 20,u 21,u 22,u 23,u 24]:=hu
 clear hu
 subst hu'
 change u 1=_ at f1
 change u 4=_ at f4
 change u 5=_ at f5
 change u 13=_ at f13
 change u 14=_ at f14
 change u 15=_ at f15
 rw [f1,f4,f5,f13,f14,f15]
 clear f1 f4 f5 f13 f14 f15 hsz
 have hBO:w.heap.size<=O:=by have:=HB.out;omega
 have HBO:=Lib.hid hBO
 clear hBO
 by_cases hkM:k<M
 ·have h1:(k:Int)<(M:Int):=by omega
  have hkl:k<l.length:=by rw [HM.out];exact hkM
  obtain⟨g,off,u,rfl,hKg,hg,hc,hpa⟩:=(PartsAt.ext HPS.out hE).get k hkl
  rw [Nat.zero_add] at hc
  obtain⟨pay,rfl⟩:=partAt_iface hpa
  have hok:=HL.out l[k] (List.getElem_mem hkl) K W pay (.slice bo n bcap) ws hpa (HV.out.ext hE) (by rw [HN.out];exact hn) (HT.out.keep hE id)
  have htake:l.take (k+1)=l.take k++[l[k]]:=List.take_succ_eq_append_getElem hkl
  have hstep:=seqS_snoc ws l[k] (l.take k) (idB n)
  rw [<-htake] at hstep
  obtain⟨q,hq⟩:∃ q,l[k]=q:=⟨_,rfl⟩
  rw [hq] at hok hc hstep
  obtain⟨X,hX⟩:∃ X,seqS ws (l.take k) (idB n)=X:=⟨_,rfl⟩
  obtain⟨Y,hY⟩:∃ Y,relS ws q=Y:=⟨_,rfl⟩
  rw [hX] at hO hstep
  rw [hY] at hok hstep
  have pm:=part_method q pay
  have pc:=part_call q
  have HOK:=Lib.hid hok;have HST:=Lib.hid hstep
  have z1:=zero_rel
  have z2:=relArr_size noB
  have z3:=relArr_ne noB
  clear hok hstep htake hq hX hY hpa
  go_wp2_with fail
  clear pm pc
  refine HOK.out.mono ?_
  rintro e W2 ⟨rfl,hE2⟩
  have hE02:=hE.trans hE2
  have hr2:=hr.keep hE2 id
  have hO2:=hO.keep hE2 id
  have hR0:(W2.alloc (.cells (relArr noB) 363)).heap[W2.heap.size]?=some (.cells (relArr noB) 363 (0,0)):=new_at rfl
  go_wp2_with (first | fail | (refine wpList_store_row rfl 363 (.tmp 8) (.tmp 21) rfl W2.heap.size (rowArr (rowM Y)) rfl rfl _ _ hR0 (Tryz.relInfo _) (by rw [relArr_size,rowArr_size]) (rowArr_one _) ?_))
  have hR1:RowsAt ((W2.alloc (.cells (relArr noB) 363)).setRow W2.heap.size (rowArr (rowM Y))) W2.heap.size (rowM Y):=setRow_heap _ _ _ _ _ _ hR0
  have hE3:Ext W2 ((W2.alloc (.cells (relArr noB) 363)).setRow W2.heap.size (rowArr (rowM Y))):=((Turn.refl _ W2).alloc _).after (Turn.setRow _ _ _) (fun b' h1 h2=>by omega)
  generalize ((W2.alloc (.cells (relArr noB) 363)).setRow W2.heap.size (rowArr (rowM Y)))=W3 at hR1 hE3 ⊢
  have hE03:=hE02.trans hE3
  have hr3:=hr2.keep hE3 id
  have hO3:=hO2.keep hE3 id
  clear z1 z2 z3 hR0 hr2 hO2 hE02
  go_wp2_with fail
  refine(then_any hO3 hR1 (HT.out.keep hE03 id)).mono ?_
  rintro e W4 ⟨rfl,hE4⟩
  have hO4:=hO3.keep hE4 id
  have hr4:=hr3.keep hE4 id
  go_wp2_with (refine wpList_store_row rfl 363 (.tmp 5) (.tmp 22) rfl O (rowArr (rowM (comp X Y))) rfl rfl _ _ hO4 (Tryz.relInfo _) (by rw [rowArr_size,rowArr_size]) (rowArr_one _) ?_)
  have hTs:=Turn.setRow W4 O (rowArr (rowM (comp X Y)))
  have hO5:=RowsAt.row (g:=rowM (comp X Y)) hO4
  have hr5:=hr4.keep hTs (by omega)
  have hE5:=(hE03.trans hE4).after hTs (fun b' h1 h2=>by have:=HBO.out;omega)
  generalize (W4.setRow O (rowArr (rowM (comp X Y))))=W5 at hO5 hr5 hE5 ⊢
  rw [<-HST.out] at hO5
  clear hTs hO4 hr4 hE4 hO3 hr3 hE03 hE3 hR1 hO hr hE hE2
  go_wp2
  exact⟨⟨k+1,by omega,by first | rfl | trivial,⟨rfl,rfl,rfl,rfl,rfl,rfl,rfl⟩,hr5,hO5,hE5⟩,by simp [intOf];omega⟩
 ·obtain rfl:k=M:=by omega
  have h1:¬ (k:Int)<(k:Int):=by omega
  rw [List.take_of_length_le (by rw [HM.out];exact Nat.le_refl _)] at hO
  obtain⟨X,hX⟩:∃ X,seqS ws l (idB n)=X:=⟨_,rfl⟩
  have HX:=Lib.hid hX
  rw [hX] at hO
  clear hX
  have hrow:=RowsAt.row (g:=rowM X) hr
  have hE2:Ext w (W.setRow (B+1) (rowArr (rowM X))):=hE.after (Turn.setRow W (B+1) _) (fun b' h1 h2=>by have:=HB.out;omega)
  have HROW:=Lib.hid hrow;have HE2:=Lib.hid hE2
  clear hrow hE2
  go_wp2_with (first
   | (refine wpList_load_row rfl 363 (.tmp 5) rfl O rfl _ _ _ _ hO Tryz.underlying363 rfl (Tryz.relInfo _) ?_)
   | (refine wpList_store_row rfl 363 (.tmp 4) (.tmp 24) rfl (B+1) (rowArr (rowM X)) rfl rfl _ _ hr (Tryz.relInfo _) (by rw [rowArr_size,rowArr_size]) (rowArr_one _) ?_))
  exact bodyPost_ret (v:=.agg (rowArr (rowM X))) (rel_result rfl rfl HROW.out) rfl ⟨by rw [HN.out,HX.out],HE2.out⟩
theorem alt_ok(l:List PartS)(hl:∀ p∈l,InOk p):InOk (.alt l):=by
 intro K w pay v ws hp hv hn hT
 unfold PartAt at hp
 obtain⟨ao,cap,hpe,hlm,hps⟩:=hp
 simp only [Value.iface.injEq] at hpe
 obtain⟨_,rfl⟩:=hpe
 obtain⟨bo,bcap,rfl,_⟩:=hv.slice
 unfold maxLen at hlm
 obtain⟨n,hN⟩:∃ n,ws.length=n:=⟨_,rfl⟩
 have HN:=Lib.hid hN
 rw [hN] at hn hv ⊢
 clear hN
 obtain⟨M,hM⟩:∃ M,l.length=M:=⟨_,rfl⟩
 have HM:=Lib.hid hM
 rw [hM] at hlm ⊢
 clear hM
 unfold relS
 show Calls Tryz.prog 332 _ _ _
 have z1:=zero_rel
 have z2:=relArr_size noB
 have z3:=relArr_ne noB
 have HL:=Lib.hid hl;have HPS:=Lib.hid hps;have HV:=Lib.hid hv;have HT:=Lib.hid hT
 clear hl hps hv hT
 go_enter Tryz.func332,Tryz.ntmps332
 go_wp2
 obtain⟨B,hB⟩:∃ B,w.heap.size=B:=⟨_,rfl⟩
 have hr:RowsAt ((w.alloc (.cells #[.slice ao M cap] 383)).alloc (.cells (relArr noB) 363)) (B+1) (rowM noB):=by
  subst hB
  exact new_at (by simp)
 have hE:Ext w ((w.alloc (.cells #[.slice ao M cap] 383)).alloc (.cells (relArr noB) 363)):=((Turn.refl _ w).alloc _).alloc _
 generalize ((w.alloc (.cells #[.slice ao M cap] 383)).alloc (.cells (relArr noB) 363))=w1 at hr hE ⊢
 rw [hB]
 have HB:=Lib.hid hB
 clear hB z1 z2 z3
 refine wp_loop (fun a W=>∃(k:Nat),k<=M/\a.defers=[]/\(a.tmps.size=21/\a.tmps.getD 1 undef=.slice bo n bcap/\a.tmps.getD 4 undef=.pointer (some ⟨B+1,0,none⟩)/\a.tmps.getD 9 undef=.slice ao M cap/\a.tmps.getD 10 undef=.int .i64 M/\a.tmps.getD 11 undef=.int .i64 k) /\
   RowsAt W (B+1) (rowM (altS ws (l.take k) noB))/\Ext w W)
  (fun a _=>M - (intOf (a.tmps.getD 11 undef)).toNat) ?_ ?_
 ·exact⟨0,by omega,rfl,⟨rfl,rfl,rfl,rfl,rfl,rfl⟩,by simpa [altS] using hr,hE⟩
 clear hr hE
 rintro⟨t,_⟩ W ⟨k,hk,hds,⟨hsz,f1,f4,f9,f10,f11⟩,hr,hE⟩
 subst hds
 obtain⟨u',hu⟩:=frame_fun hsz
 obtain⟨u,rfl⟩:∃ x,x=u':=⟨_,rfl⟩
 have hu':t=#[u 0,u 1,u 2,u 3,u 4,u 5,u 6,u 7,u 8,u 9,u 10,u 11,u 12,u 13,u 14,u 15,u 16,u 17,u 18,u 19,u 20]:=hu
 clear hu
 subst hu'
 change u 1=_ at f1
 change u 4=_ at f4
 change u 9=_ at f9
 change u 10=_ at f10
 change u 11=_ at f11
 rw [f1,f4,f9,f10,f11]
 clear f1 f4 f9 f10 f11 hsz
 have hBl:=hr.lt
 by_cases hkM:k<M
 ·have h1:(k:Int)<(M:Int):=by omega
  have hkl:k<l.length:=by rw [HM.out];exact hkM
  obtain⟨g,off,u,rfl,hKg,hg,hc,hpa⟩:=(PartsAt.ext HPS.out hE).get k hkl
  rw [Nat.zero_add] at hc
  obtain⟨pay,rfl⟩:=partAt_iface hpa
  have hok:=HL.out l[k] (List.getElem_mem hkl) K W pay (.slice bo n bcap) ws hpa (HV.out.ext hE) (by rw [HN.out];exact hn) (HT.out.keep hE id)
  have htake:l.take (k+1)=l.take k++[l[k]]:=List.take_succ_eq_append_getElem hkl
  have hstep:=altS_snoc ws l[k] (l.take k) noB
  rw [<-htake] at hstep
  obtain⟨q,hq⟩:∃ q,l[k]=q:=⟨_,rfl⟩
  rw [hq] at hok hc hstep
  obtain⟨X,hX⟩:∃ X,altS ws (l.take k) noB=X:=⟨_,rfl⟩
  obtain⟨Y,hY⟩:∃ Y,relS ws q=Y:=⟨_,rfl⟩
  rw [hX] at hr hstep
  rw [hY] at hok hstep
  have pm:=part_method q pay
  have pc:=part_call q
  have HOK:=Lib.hid hok;have HST:=Lib.hid hstep
  have z1:=zero_rel
  have z2:=relArr_size noB
  have z3:=relArr_ne noB
  clear hok hstep htake hq hX hY hpa
  go_wp2_with fail
  clear pm pc
  refine HOK.out.mono ?_
  rintro e W2 ⟨rfl,hE2⟩
  have hE02:=hE.trans hE2
  have hr2:=hr.keep hE2 id
  have hR0:(W2.alloc (.cells (relArr noB) 363)).heap[W2.heap.size]?=some (.cells (relArr noB) 363 (0,0)):=new_at rfl
  go_wp2_with (first | fail | (refine wpList_store_row rfl 363 (.tmp 7) (.tmp 17) rfl W2.heap.size (rowArr (rowM Y)) rfl rfl _ _ hR0 (Tryz.relInfo _) (by rw [relArr_size,rowArr_size]) (rowArr_one _) ?_))
  have hR1:RowsAt ((W2.alloc (.cells (relArr noB) 363)).setRow W2.heap.size (rowArr (rowM Y))) W2.heap.size (rowM Y):=setRow_heap _ _ _ _ _ _ hR0
  have hE3:Ext W2 ((W2.alloc (.cells (relArr noB) 363)).setRow W2.heap.size (rowArr (rowM Y))):=((Turn.refl _ W2).alloc _).after (Turn.setRow _ _ _) (fun b' h1 h2=>by omega)
  have hne:B+1≠W2.heap.size:=by have:=hr2.lt;omega
  generalize ((W2.alloc (.cells (relArr noB) 363)).setRow W2.heap.size (rowArr (rowM Y)))=W3 at hR1 hE3 ⊢
  have hE03:=hE02.trans hE3
  have hr3:=hr2.keep hE3 id
  clear z1 z2 z3 hR0 hr2 hE02
  go_wp2_with fail
  refine(or_any hr3 hR1 hne).mono ?_
  rintro e W4 ⟨⟨v4,rfl⟩,hT4,hr4⟩
  have hE4:=hE03.after hT4 (fun b' h1 h2=>by have:=HB.out;omega)
  rw [<-HST.out] at hr4
  clear hr3 hE03 hE3 hR1 hr hE hE2 hT4 hne
  go_wp2
  exact⟨⟨k+1,by omega,by first | rfl | trivial,⟨rfl,rfl,rfl,rfl,rfl,rfl⟩,hr4,hE4⟩,by simp [intOf];omega⟩
 ·obtain rfl:k=M:=by omega
  have h1:¬ (k:Int)<(k:Int):=by omega
  rw [List.take_of_length_le (by rw [HM.out];exact Nat.le_refl _)] at hr
  obtain⟨X,hX⟩:∃ X,altS ws l noB=X:=⟨_,rfl⟩
  have HX:=Lib.hid hX
  rw [hX] at hr
  clear hX
  have hrow:=RowsAt.row (g:=rowM X) hr
  have hE2:Ext w (W.setRow (B+1) (rowArr (rowM X))):=hE.after (Turn.setRow W (B+1) _) (fun b' h1 h2=>by have:=HB.out;omega)
  have HROW:=Lib.hid hrow;have HE2:=Lib.hid hE2
  clear hrow hE2
  go_wp2_with (first
   | (refine wpList_load_row rfl 363 (.tmp 4) rfl (B+1) rfl _ _ _ _ hr Tryz.underlying363 rfl (Tryz.relInfo _) ?_)
   | (refine wpList_store_row rfl 363 (.tmp 4) (.tmp 20) rfl (B+1) (rowArr (rowM X)) rfl rfl _ _ hr (Tryz.relInfo _) (by simp only [rowArr_size]) (rowArr_one _) ?_))
  exact bodyPost_ret (v:=.agg (rowArr (rowM X))) (rel_result rfl rfl HROW.out) rfl ⟨by rw [HX.out],HE2.out⟩
theorem rep_ok(p:PartS)(mn mx:Int)(hok:InOk p):InOk (.rep p mn mx):=by
 intro K w pay v ws hp hv hn hT
 unfold PartAt at hp
 obtain⟨u,hpe,⟨hb1,hb2,hb3⟩,hpa⟩:=hp
 simp only [Value.iface.injEq] at hpe
 obtain⟨_,rfl⟩:=hpe
 obtain⟨pay,rfl⟩:=partAt_iface hpa
 obtain⟨bo,bcap,rfl,_⟩:=hv.slice
 obtain⟨n,hN⟩:∃ n,ws.length=n:=⟨_,rfl⟩
 have HN:=Lib.hid hN
 have HX:Hid (relS ws (.rep p mn mx)=comp (powB (relS ws p) n mn.toNat) (powB (orB (relS ws p) (idB n)) n (extra n mn mx))):=Lib.hid (by show repB (relS ws p) ws.length _ _=_;rw [hN];rfl)
 have hmX:=relS_mono ws p
 rw [hN] at hn hv hmX ⊢
 clear hN
 show Calls Tryz.prog 334 _ _ _
 obtain⟨lo,rfl⟩:=Int.eq_ofNat_of_zero_le hb1
 have z1:=zero_rel
 have z2:=relArr_size noB
 have z3:=relArr_ne noB
 have pm:=part_method p pay
 have pc:=part_call p
 have HOK:=Lib.hid hok;have HPA:=Lib.hid hpa;have HV:=Lib.hid hv;have HT:=Lib.hid hT
 clear hok hpa hv hT
 go_enter Tryz.func334,Tryz.ntmps334
 go_wp2_with fail
 obtain⟨B,hB⟩:∃ B,w.heap.size=B:=⟨_,rfl⟩
 have hx:((w.alloc (.cells #[.iface (partTy p) pay,.int .i64 (lo:Int),.int .i64 mx] 385)).alloc (.cells (relArr noB) 363)).heap[B]?=some (.cells #[.iface (partTy p) pay,.int .i64 (lo:Int),.int .i64 mx] 385 (0,0)):=by
  subst hB;exact new_keep (new_at rfl)
 have hr:RowsAt ((w.alloc (.cells #[.iface (partTy p) pay,.int .i64 (lo:Int),.int .i64 mx] 385)).alloc (.cells (relArr noB) 363)) (B+1) (rowM noB):=by
  subst hB
  exact new_at (by simp)
 have hE:Ext w ((w.alloc (.cells #[.iface (partTy p) pay,.int .i64 (lo:Int),.int .i64 mx] 385)).alloc (.cells (relArr noB) 363)):=((Turn.refl _ w).alloc _).alloc _
 generalize ((w.alloc (.cells #[.iface (partTy p) pay,.int .i64 (lo:Int),.int .i64 mx] 385)).alloc (.cells (relArr noB) 363))=w1 at hx hr hE ⊢
 rw [hB]
 have HB:=Lib.hid hB
 clear hB pm pc
 obtain⟨X,hX⟩:∃ X,relS ws p=X:=⟨_,rfl⟩
 have HN2:=HN.out
 have hc1:=HOK.out K w1 pay (.slice bo n bcap) ws (HPA.out.ext hE) (HV.out.ext hE) (by rw [HN.out];exact hn) (HT.out.keep hE id)
 rw [hX] at hc1 hmX HX
 clear hX HN2
 refine hc1.mono ?_
 rintro e w2 ⟨rfl,hE2⟩
 clear hc1
 have hx2:=hE2.heap hx id
 have hr2:=hr.keep hE2 id
 have hE02:=hE.trans hE2
 have hR0:(w2.alloc (.cells (relArr noB) 363)).heap[w2.heap.size]?=some (.cells (relArr noB) 363 (0,0)):=new_at rfl
 have hR5:RowsAt ((w2.alloc (.cells (relArr noB) 363)).setRow w2.heap.size (rowArr (rowM X))) w2.heap.size (rowM X):=setRow_heap _ _ _ _ _ _ hR0
 have hE3:Ext w2 ((w2.alloc (.cells (relArr noB) 363)).setRow w2.heap.size (rowArr (rowM X))):=((Turn.refl _ w2).alloc _).after (Turn.setRow _ _ _) (fun b' h1 h2=>by omega)
 have hx3:=hE3.heap hx2 id
 have y1:((w2.alloc (.cells (relArr noB) 363)).setRow w2.heap.size (rowArr (rowM X))).cell? ⟨B,1,none⟩=some (.int .i64 (lo:Int)):=by rw [cell_of_row _ _ _ _ _ _ hx3];rfl
 go_wp2_with (first
  | (refine wpList_store_row rfl 363 (.tmp 5) (.tmp 13) rfl w2.heap.size (rowArr (rowM X)) rfl rfl _ _ hR0 (Tryz.relInfo _) (by rw [relArr_size,rowArr_size]) (rowArr_one _) ?_)
  | (refine wpList_load_row rfl 363 (.tmp 5) rfl w2.heap.size rfl _ _ _ _ hR5 Tryz.underlying363 rfl (Tryz.relInfo _) ?_))
 have hr3:=hr2.keep hE3 id
 have hE03:=hE02.trans hE3
 generalize ((w2.alloc (.cells (relArr noB) 363)).setRow w2.heap.size (rowArr (rowM X)))=w3 at hR5 hE3 hx3 y1 hr3 hE03 ⊢
 obtain⟨b5,hb5⟩:∃ b,w2.heap.size=b:=⟨_,rfl⟩
 rw [hb5] at hR5 ⊢
 clear hb5 hR0 hx2 hr2 hE02 hE2 hE3 hx hr hE y1
 refine(power_any hn hmX lo (by omega) w3 (HT.out.keep hE03 id)).mono ?_
 rintro e w4 ⟨rfl,hE4⟩
 have hx4:=hE4.heap hx3 id
 have hr4:=hr3.keep hE4 id
 have hR54:=hR5.keep hE4 id
 have hE04:=hE03.trans hE4
 have hR0:(w4.alloc (.cells (relArr noB) 363)).heap[w4.heap.size]?=some (.cells (relArr noB) 363 (0,0)):=new_at rfl
 have hR6:RowsAt ((w4.alloc (.cells (relArr noB) 363)).setRow w4.heap.size (rowArr (rowM (powB X n lo)))) w4.heap.size (rowM (powB X n lo)):=setRow_heap _ _ _ _ _ _ hR0
 have hE5:Ext w4 ((w4.alloc (.cells (relArr noB) 363)).setRow w4.heap.size (rowArr (rowM (powB X n lo)))):=((Turn.refl _ w4).alloc _).after (Turn.setRow _ _ _) (fun b' h1 h2=>by omega)
 go_upto_region 3 with (refine wpList_store_row rfl 363 (.tmp 6) (.tmp 19) rfl w4.heap.size (rowArr (rowM (powB X n lo))) rfl rfl _ _ hR0 (Tryz.relInfo _) (by rw [relArr_size,rowArr_size]) (rowArr_one _) ?_)
 have hx5:=hE5.heap hx4 id
 have hr5:=hr4.keep hE5 id
 have hR55:=hR54.keep hE5 id
 have hE05:=hE04.trans hE5
 generalize ((w4.alloc (.cells (relArr noB) 363)).setRow w4.heap.size (rowArr (rowM (powB X n lo))))=w5 at hR6 hE5 hx5 hr5 hR55 hE05 ⊢
 obtain⟨b6,hb6⟩:∃ b,w4.heap.size=b:=⟨_,rfl⟩
 rw [hb6] at hR6 ⊢
 clear hb6 hR0 hx4 hr4 hR54 hE04 hE4 hE5 hE03 hR5 hx3 hr3
 have hR0:(w5.alloc (.cells (relArr noB) 363)).heap[w5.heap.size]?=some (.cells (relArr noB) 363 (0,0)):=new_at rfl
 have hR7:RowsAt ((w5.alloc (.cells (relArr noB) 363)).setRow w5.heap.size (rowArr (rowM X))) w5.heap.size (rowM X):=setRow_heap _ _ _ _ _ _ hR0
 have hE6:Ext w5 ((w5.alloc (.cells (relArr noB) 363)).setRow w5.heap.size (rowArr (rowM X))):=((Turn.refl _ w5).alloc _).after (Turn.setRow _ _ _) (fun b' h1 h2=>by omega)
 go_upto_region 4 with (first
  | (refine wpList_load_row rfl 363 (.tmp 5) rfl b5 rfl _ _ _ _ hR55 Tryz.underlying363 rfl (Tryz.relInfo _) ?_)
  | (refine wpList_store_row rfl 363 (.tmp 7) (.tmp 20) rfl w5.heap.size (rowArr (rowM X)) rfl rfl _ _ hR0 (Tryz.relInfo _) (by rw [relArr_size,rowArr_size]) (rowArr_one _) ?_))
 have hx6:=hE6.heap hx5 id
 have hr6:=hr5.keep hE6 id
 have hR66:=hR6.keep hE6 id
 have hE06:=hE05.trans hE6
 generalize ((w5.alloc (.cells (relArr noB) 363)).setRow w5.heap.size (rowArr (rowM X)))=w6 at hR7 hE6 hx6 hr6 hR66 hE06 ⊢
 obtain⟨b7,hb7⟩:∃ b,w5.heap.size=b:=⟨_,rfl⟩
 have hn67:b6≠b7:=by have:=hR6.lt;omega
 have hnB7:B+1≠b7/\B≠b7:=by have:=hr5.lt;omega
 have hw7:w.heap.size<=b7:=by have:=hE05.size;omega
 rw [hb7] at hR7 ⊢
 clear hb7 hR0 hx5 hr5 hR55 hE05 hE6 hR6
 go_wp2_with fail
 refine(identity_any n hn w6).mono ?_
 rintro e w7 ⟨rfl,hE7⟩
 have hx7:=hE7.heap hx6 id
 have hr7:=hr6.keep hE7 id
 have hR67:=hR66.keep hE7 id
 have hR77:=hR7.keep hE7 id
 have hE07:=hE06.trans hE7
 have hR0:(w7.alloc (.cells (relArr noB) 363)).heap[w7.heap.size]?=some (.cells (relArr noB) 363 (0,0)):=new_at rfl
 have hR8:RowsAt ((w7.alloc (.cells (relArr noB) 363)).setRow w7.heap.size (rowArr (rowM (idB n)))) w7.heap.size (rowM (idB n)):=setRow_heap _ _ _ _ _ _ hR0
 have hE8:Ext w7 ((w7.alloc (.cells (relArr noB) 363)).setRow w7.heap.size (rowArr (rowM (idB n)))):=((Turn.refl _ w7).alloc _).after (Turn.setRow _ _ _) (fun b' h1 h2=>by omega)
 go_upto_region 5 with (refine wpList_store_row rfl 363 (.tmp 8) (.tmp 23) rfl w7.heap.size (rowArr (rowM (idB n))) rfl rfl _ _ hR0 (Tryz.relInfo _) (by rw [relArr_size,rowArr_size]) (rowArr_one _) ?_)
 have hx8:=hE8.heap hx7 id
 have hr8:=hr7.keep hE8 id
 have hR68:=hR67.keep hE8 id
 have hR78:=hR77.keep hE8 id
 have hE08:=hE07.trans hE8
 generalize ((w7.alloc (.cells (relArr noB) 363)).setRow w7.heap.size (rowArr (rowM (idB n))))=w8 at hR8 hE8 hx8 hr8 hR68 hR78 hE08 ⊢
 have hne:b7≠w7.heap.size:=by have:=hR77.lt;omega
 obtain⟨b8,hb8⟩:∃ b,w7.heap.size=b:=⟨_,rfl⟩
 rw [hb8] at hR8 hne ⊢
 clear hb8 hR0 hx7 hr7 hR67 hR77 hE07 hE7 hE8 hx6 hr6 hR66 hE06 hR7
 go_wp2_with fail
 refine(or_any hR78 hR8 hne).mono ?_
 rintro e w9 ⟨⟨v9,rfl⟩,hT9,hR79⟩
 have hx9:=hT9.heap hx8 hnB7.2
 have hr9:=hr8.keep hT9 hnB7.1
 have hR69:=hR68.keep hT9 hn67
 have hE09:=hE08.after hT9 (fun b' h1 h2=>by omega)
 have y1:w9.cell? ⟨B,1,none⟩=some (.int .i64 (lo:Int)):=by rw [cell_of_row _ _ _ _ _ _ hx9];rfl
 have y2:w9.cell? ⟨B,2,none⟩=some (.int .i64 mx):=by rw [cell_of_row _ _ _ _ _ _ hx9];rfl
 have hT9':=HT.out.keep hE09 id
 have hmY:Mono n (orB X (idB n)):=hmX.or (Mono.id n)
 clear hT9 hx8 hr8 hR68 hR78 hE08 hR8 hx9 hne
 obtain⟨Y,hY⟩:∃ Y,orB X (idB n)=Y:=⟨_,rfl⟩
 rw [hY] at hmY hR79 HX
 clear hY
 have key:∀(ex:Nat),extra n (lo:Int) mx=ex->ex<=64 ->
   Calls Tryz.prog 329 #[.agg (rowArr (rowM Y)),.int .i64 ex,.int .i64 n] w9 fun e w'=>e=.returned (.agg (rowArr (rowM (powB Y n ex))))/\Ext w9 w':=fun ex _ he=>power_any hn hmY ex he w9 hT9'
 have HK:=Lib.hid key
 clear key
 by_cases hmx:mx<0
 ·have hex:extra n (lo:Int) mx=n:=by unfold extra;rw [if_pos hmx]
  rw [hex] at HX
  have HEX:=Lib.hid hex
  clear hex
  go_wp2_with (refine wpList_load_row rfl 363 (.tmp 7) rfl b7 rfl _ _ _ _ hR79 Tryz.underlying363 rfl (Tryz.relInfo _) ?_)
  refine(HK.out n HEX.out (by omega)).mono ?_
  rintro e w10 ⟨rfl,hE10⟩
  have hR710:=hR79.keep hE10 id
  have hR610:=hR69.keep hE10 id
  have hr10:=hr9.keep hE10 id
  have hE010:=hE09.trans hE10
  have hTs:=Turn.setRow w10 b7 (rowArr (rowM (powB Y n n)))
  have hR711:=RowsAt.row (g:=rowM (powB Y n n)) hR710
  have hR611:=hR610.keep hTs hn67
  have hr11:=hr10.keep hTs hnB7.1
  have hE011:=hE010.after hTs (fun b' h1 h2=>by omega)
  go_wp2_with (refine wpList_store_row rfl 363 (.tmp 7) (.tmp 39) rfl b7 (rowArr (rowM (powB Y n n))) rfl rfl _ _ hR710 (Tryz.relInfo _) (by rw [rowArr_size,rowArr_size]) (rowArr_one _) ?_)
  generalize (w10.setRow b7 (rowArr (rowM (powB Y n n))))=w11 at hR711 hR611 hr11 hE011 ⊢
  refine(then_any hR611 hR711 (HT.out.keep hE011 id)).mono ?_
  rintro e w12 ⟨rfl,hE12⟩
  have hr12:=hr11.keep hE12 id
  have hrow:=RowsAt.row (g:=rowM (comp (powB X n lo) (powB Y n n))) hr12
  have hEf:=(hE011.trans hE12).after (Turn.setRow w12 (B+1) (rowArr (rowM (comp (powB X n lo) (powB Y n n))))) (fun b' h1 h2=>by have:=HB.out;omega)
  go_wp2_with (refine wpList_store_row rfl 363 (.tmp 4) (.tmp 40) rfl (B+1) (rowArr (rowM (comp (powB X n lo) (powB Y n n)))) rfl rfl _ _ hr12 (Tryz.relInfo _) (by rw [rowArr_size,rowArr_size]) (rowArr_one _) ?_)
  exact bodyPost_ret (v:=.agg (rowArr (rowM (comp (powB X n lo) (powB Y n n))))) (rel_result rfl rfl hrow) rfl ⟨by rw [HX.out];rfl,hEf⟩
 ·obtain⟨ex,hex'⟩:=Int.eq_ofNat_of_zero_le (show 0<=mx - lo by omega)
  have hex:extra n (lo:Int) mx=ex:=by unfold extra;rw [if_neg hmx,show (((lo:Nat):Int))=(lo:Int) from rfl];omega
  rw [hex] at HX
  have HEX:=Lib.hid hex
  have hmm:mx=(lo:Int)+ex:=by omega
  have HMM:=Lib.hid hmm
  have hlo32:(lo:Int)<=32:=hb2
  have hmx32:mx<=32:=by omega
  have hmx0:0<=mx:=by omega
  have hex32:ex<=64:=by omega
  clear hex hmm hex'
  go_upto_region 9 with (fail)
  rw [show mx - (lo:Int)=(ex:Int) by have:=HMM.out;omega]
  go_wp2_with (refine wpList_load_row rfl 363 (.tmp 7) rfl b7 rfl _ _ _ _ hR79 Tryz.underlying363 rfl (Tryz.relInfo _) ?_)
  refine(HK.out ex HEX.out hex32).mono ?_
  rintro e w10 ⟨rfl,hE10⟩
  have hR710:=hR79.keep hE10 id
  have hR610:=hR69.keep hE10 id
  have hr10:=hr9.keep hE10 id
  have hE010:=hE09.trans hE10
  have hTs:=Turn.setRow w10 b7 (rowArr (rowM (powB Y n ex)))
  have hR711:=RowsAt.row (g:=rowM (powB Y n ex)) hR710
  have hR611:=hR610.keep hTs hn67
  have hr11:=hr10.keep hTs hnB7.1
  have hE011:=hE010.after hTs (fun b' h1 h2=>by omega)
  go_wp2_with (refine wpList_store_row rfl 363 (.tmp 7) (.tmp 39) rfl b7 (rowArr (rowM (powB Y n ex))) rfl rfl _ _ hR710 (Tryz.relInfo _) (by rw [rowArr_size,rowArr_size]) (rowArr_one _) ?_)
  generalize (w10.setRow b7 (rowArr (rowM (powB Y n ex))))=w11 at hR711 hR611 hr11 hE011 ⊢
  refine(then_any hR611 hR711 (HT.out.keep hE011 id)).mono ?_
  rintro e w12 ⟨rfl,hE12⟩
  have hr12:=hr11.keep hE12 id
  have hrow:=RowsAt.row (g:=rowM (comp (powB X n lo) (powB Y n ex))) hr12
  have hEf:=(hE011.trans hE12).after (Turn.setRow w12 (B+1) (rowArr (rowM (comp (powB X n lo) (powB Y n ex))))) (fun b' h1 h2=>by have:=HB.out;omega)
  go_wp2_with (refine wpList_store_row rfl 363 (.tmp 4) (.tmp 40) rfl (B+1) (rowArr (rowM (comp (powB X n lo) (powB Y n ex)))) rfl rfl _ _ hr12 (Tryz.relInfo _) (by rw [rowArr_size,rowArr_size]) (rowArr_one _) ?_)
  exact bodyPost_ret (v:=.agg (rowArr (rowM (comp (powB X n lo) (powB Y n ex))))) (rel_result rfl rfl hrow) rfl ⟨by rw [HX.out];rfl,hEf⟩
mutual
theorem in_all:∀ p:PartS,InOk p
 | .sound pl mi nt=>fun K w pay v ws hp hv hn hT=>by
  unfold PartAt at hp
  obtain⟨hpe,h1,h2⟩:=hp
  simp only [Value.iface.injEq] at hpe
  obtain⟨_,rfl⟩:=hpe
  exact sound_in h1 h2 hv hn
 | .edge e=>fun K w pay v ws hp hv hn hT=>by
  unfold PartAt at hp
  simp only [Value.iface.injEq] at hp
  obtain⟨_,rfl⟩:=hp
  exact edge_in hv hn
 | .seq l=>seq_ok l (in_alls l)
 | .alt l=>alt_ok l (in_alls l)
 | .rep p mn mx=>rep_ok p mn mx (in_all p)
theorem in_alls:∀ l:List PartS,∀ p∈l,InOk p
 | [],_,h=>by cases h
 | q::l,p,h=>(List.mem_cons.1 h).elim (fun e=>e ▸ in_all q) (fun h=>in_alls l p h)
end
end Go.Proofs.YtfdlhlghcbeblaaGreatDoor
namespace Go.Ab
open Go.RowKit
theorem run_append_zero{P:Program}{w:World}{base:Nat}{t ty e:TypeId}{size:Nat}{i:TypeInfo}(ht:P.underlying t=some (.slice e)) (hi:P.info? e=some i)
  {v:Value} {n:Nat} {xs:List Value} (hown:w.ownsRow base e size v n xs) (ao:Option Addr) (c:Nat) :
  (Builtin.append_ #[t,t] ty #[v,.slice ao 0 c]).run P w=.ok v w:=by
 rcases hown.2 with ⟨rfl,rfl⟩ | ⟨g,cap,cur,rfl,_,_,hnc,_⟩
 ·cases ao <;> simp [Builtin.append_,run_underlying ht,sizeOf,typeInfo,hi,Builtin.lenOf,Builtin.firstCells,loadCells,loadCellsFrom]
 ·cases ao <;> simp [Builtin.append_,run_underlying ht,sizeOf,typeInfo,hi,Builtin.lenOf,Builtin.firstCells,hnc,storeCells,loadCells,loadCellsFrom]
theorem Rd.cells{w:World}{m size:Nat}{news:List Value}{a:Addr}{c:Nat}(h:Rd w (.slice (some a) m c) m size news) (hm:0<m):∀ j u,news[j]?=some u->w.cell? (a.add j)=some u:=by
 obtain⟨h1,h2,ao,cap,hv,h3⟩:=h
 intro j u hj
 obtain⟨g,off,ha,hg,hc⟩:=h3 hm
 cases hv
 cases ha
 have hlt:=(List.getElem?_eq_some_iff.1 hj).1
 have:=hc j (by omega)
 rw [List.getD_eq_getElem?_getD,hj] at this
 have e:((⟨g,off,none⟩:Addr).add j)=⟨g,off+j,none⟩:=by
  unfold Addr.add;split
  ·rename_i h;subst h;simp
  ·simp
 rw [e];exact this
theorem append_rd{P:Program}{w:World}{ops:Array Oper}{rest:List Oper}{o:Oper}{a:Act}{Q:Exit->Act->World->Prop}(hgd:o.guard=none)(s x:Operand)(t:TypeId)
  (ho:o.op=.call { callee:=.builtin .append,args:=#[s,x],argTypes:=#[t,t] })
  (base:Nat) (e:TypeId) (z:Value) (size bytes:Nat) (ht:P.underlying t=some (.slice e)) (hinfo:(P.info? e).map (fun i=>(i.zero,i.size,i.bytes))=some (some z,size,bytes))
  (hzs:z.cells.size=size) (hsz:0<size)
  (v:Value) (n:Nat) (xs:List Value) (hs:a.eval s=v) (hown:w.ownsRow base e size v n xs)
  (u:Value) (m:Nat) (news:List Value) (hx:a.eval x=u) (hrd:Rd w u m size news) (h1:∀ u∈news,u.oneCell'=true)
  (h63:n+m<=maxLen) (hbytes:(n+m)*bytes<=140737488355328) (hbase:base<=w.heap.size)
  (h:∀ ao c' w',w'.ownsRow base e size (.slice ao (n+m) c') (n+m) (xs++news)->Turn (fun b=>v.ownBlock=some b) w w'->((Value.slice ao (n+m) c').ownBlock=v.ownBlock\/(Value.slice ao (n+m) c').ownBlock=some w.heap.size)->wpList P ops Q rest (a.put o.dst (.slice ao (n+m) c')) w'):wpList P ops Q (o::rest) a w:=by
 have hrd':=hrd
 obtain⟨g1,g2,ao,cap,rfl,g3⟩:=hrd
 by_cases hm:0<m
 ·obtain⟨g,off,rfl,_,_⟩:=g3 hm
  exact append_row hgd s x t ho base e z size bytes ht hinfo hzs hsz v n xs hs hown _ m cap news hx g1 (hrd'.cells hm) h1 h63 hbytes hbase h
 ·obtain rfl:m=0:=by omega
  have hn:news=[]:=List.eq_nil_of_length_eq_zero (by simpa using g1)
  subst hn
  obtain⟨i,hi,hz,hs1,hb1⟩:=info_parts hinfo
  refine wpList_plain hgd fun K hK=>?_
  have hr:=run_append_zero (P:=P) (ty:=o.type) ht hi hown ao cap
  obtain⟨vo,vc,rfl⟩:=own_slice hown
  unfold Oper.wp execOp
  simp only [ho,resolve,invoke,builtin,Sem.run_bind,Sem.run_pure,Result.andThen_ok,List.map_toArray,List.map_cons,List.map_nil,hs,hx,hr]
  exact hK _ _ (h vo vc w (by simpa using hown) (Turn.refl _ _) (.inl rfl))
end Go.Ab
