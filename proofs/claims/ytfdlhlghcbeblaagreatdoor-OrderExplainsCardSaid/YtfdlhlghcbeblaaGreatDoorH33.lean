/- order.orders: its visiting function (printed by genvis.py out of visit.txt). order.orders: its iterator, and its maker. -/
import Derived.Test.YtfdlhlghcbeblaaGreatDoorH32
import Derived.Deep.Cut
import Derived.Deep.CutRange
import Derived.Laws.EntriesVeiled
set_option maxRecDepth 100000
set_option maxHeartbeats 32000000
namespace Go.Proofs.YtfdlhlghcbeblaaGreatDoor
open Go.RowKit Go.Ab
attribute [local go_sem] Oper.semAt_some wide_fn wide_depth
theorem visit_any{w0 w:World}{BO BL BY BU BV l n n0 lc M:Nat}{lo:Option Addr}{ps:LawsL}{K:Nat->Prop}{xs:List (List Nat)} {T0:List (Option Wd)} {J Jx:(Nat->Prop)->List (List Nat)->World->Prop}
  (hl:LawsAt w0 (.slice lo n lc) ps) (hn:ps.length=n) (hn6:n<=6) (hT:Tab w0) (hM:M<=1000) (hT0:T0.length=M) (hB:VisB BO BL BY BU BV n0) (hKL:K BL) (hKn:∀ b,K b->b<n0)
  (hst:∀ V,Turn (fun b=>¬ K b) w V->Ext w0 V)
  (hJ:∀ O O' pre A B,J O pre A->Turn O A B->(∀ b,O' b->(O b\/A.heap.size<=b)/\b<B.heap.size)->J O' pre B)
  (hJx:∀ O O' pre A B,Jx O pre A->Turn O A B->(∀ b,O' b->(O b\/A.heap.size<=b)/\b<B.heap.size)->Jx O' pre B)
  (hY:∀ O pre x rest A ys,xs=pre++x::rest->J O pre A->OrdE M (ps.map (·.1)) T0 x A ys->YieldAt Fence.wide 0 Tryz.prog l ys A fun e B=>
   (e=.returned (.bool true)/\J O (pre++[x]) B/\Turn (fun b=>¬ K b/\¬ O b) A B)\/(e=.returned (.bool false)/\Jx O (pre++[x]) B/\Turn (fun b=>¬ K b/\¬ O b) A B)) :
  ∀(m:Nat) (p:List Nat) (O:Nat->Prop) (pre rest:List (List Nat)) (vo:Value) (W:World) (no:Option Addr) (nc:Nat) (os:List (Option Wd × List Value)),
   p.length+m=n->(∀ x∈p,x<n)->xs=pre++visL n m p++rest->Vis BO BL BY BU BV l n n0 lo lc O p vo W->J O pre W->(∀ b,O b->n0<=b/\b<W.heap.size)->Turn (fun b=>¬ K b) w W ->
   StatesAt W (.slice no M nc) os->os.map (·.1)=T0.map (runO (ps.map (·.1)) p)->KeptIn (VisS K O BO BU vo) (.slice no M nc)->KeptSt (VisS K O BO BU vo) os ->
   Calls Tryz.prog 150 #[.slice no M nc,.pointer (some ⟨BO,0,none⟩),.pointer (some ⟨BL,0,none⟩),.pointer (some ⟨BY,0,none⟩),.pointer (some ⟨BU,0,none⟩),.pointer (some ⟨BV,0,none⟩)] W (VisEnd BO BL BY BU BV l n n0 lc lo K O J Jx xs pre (visL n m p) p vo W):=by
 intro m
 induction m with
 | zero=>
  intro p O pre rest vo W no nc os hp hpl hx hv hj hO hTW hs hmap hk1 hk2
  obtain⟨vo1,vc,rfl⟩:=own_slice hv.own
  obtain⟨d,hd⟩:∃ d,p.length=d:=⟨_,rfl⟩
  have hdn:n=d:=by omega
  rw [vis_zero] at hx ⊢
  have hsp:xs=pre++p::rest:=by rw [hx];simp
  have hol:os.length=M:=by have:=congrArg List.length hmap;rw [List.length_map,List.length_map] at this;omega
  obtain⟨fn,tmps,assign,body,hy,hYR⟩:=hY O pre p rest W #[.slice vo1 p.length vc,.slice no M nc] hsp hj ⟨vo1,vc,no,nc,rfl,Rd.of_own hv.own,os,hs,hol,hmap⟩
  have cO:=cell_of_one hv.cO
  have cL:=cell_of_one hv.cL
  have cY:=cell_of_one hv.cY
  have hkeep:=fun(B:World) (ht:Turn (fun b=>¬ K b/\¬ O b) W B)=>(hv.keep ht (fun b q=>⟨q.2,fun e=>q.1 (e ▸ hKL)⟩) (fun _ h=>h):Vis BO BL BY BU BV l n n0 lo lc O p _ B)
  have HYR:=Lib.hid hYR;have HKP:=Lib.hid hkeep;have HOB:=Lib.hid hO;have HSP:=Lib.hid hsp;have HD:=Lib.hid hd;have HPL:=Lib.hid hpl
  rw [hd] at hy cO
  subst hdn
  clear hYR hkeep hO hsp hd hp hx hs hmap hk1 hk2 hl hn hT hB hKn hKL hst hJ hJx hY hv hj hTW hpl hol hT0
  go_enter Tryz.func150,Tryz.ntmps150
  go_upto_region 2 with (fail)
  refine(wpIn_wide (n:=0)).1 ?_
  gi_wp2
  refine HYR.out.mono ?_
  rintro e V3 (⟨rfl,hJ3,hk3⟩ | ⟨rfl,hJ3,hk3⟩)
  ·have hkp:=HKP.out V3 hk3
   have HKV:=Lib.hid hkp;have HK3:=Lib.hid hk3;have HJ3:=Lib.hid hJ3
   clear hkp hk3 hJ3 HKP HYR
   gi_wp2
   go_wp2
   go_ret
   exact⟨true,rfl,O,vo1,vc,HKV.out,fun b hb=>⟨(HOB.out b hb).1,Nat.lt_of_lt_of_le (HOB.out b hb).2 HK3.out.size⟩,fun _ h=>h,HK3.out.mono (fun b _ q=>⟨q.1,fun h=>absurd h q.2⟩),fun g hg=>.inl hg,fun _=>HJ3.out,fun h=>by cases h⟩
  ·have hkp:=HKP.out V3 hk3
   have HKV:=Lib.hid hkp;have HK3:=Lib.hid hk3;have HJ3:=Lib.hid hJ3
   clear hkp hk3 hJ3 HKP HYR
   gi_wp2
   go_wp2
   go_ret
   exact⟨false,rfl,O,vo1,vc,HKV.out,fun b hb=>⟨(HOB.out b hb).1,Nat.lt_of_lt_of_le (HOB.out b hb).2 HK3.out.size⟩,fun _ h=>h,HK3.out.mono (fun b _ q=>⟨q.1,fun h=>absurd h q.2⟩),fun g hg=>.inl hg,(fun h=>by cases h),fun _=>⟨pre,p,rest,HSP.out,HJ3.out⟩⟩
 | succ m ih=>
  intro p O0 pre rest vo W0 no nc os hp hpl hx hv hj hO hTW hs hmap hk1 hk2
  obtain⟨vo1,vc0,rfl⟩:=own_slice hv.own
  obtain⟨d,hd⟩:∃ d,p.length=d:=⟨_,rfl⟩
  have hdn:d<n:=by omega
  have hol:os.length=M:=by have:=congrArg List.length hmap;rw [List.length_map,List.length_map] at this;omega
  rw [hd] at hv hk1 hk2 ⊢
  have hlm:n<=maxLen:=by rw [<-hn];exact hl.1.2.1
  have hn0:n0<=W0.heap.size:=by have:=hO _ hv.oO.1;omega
  have hBdef:=hB
  obtain⟨y1,y2,y3,y4,y5,y6,y7,y8,y9,y10⟩:=hBdef
  have hlaw:=fun(V:World) (ht:Turn (fun b=>¬ K b) w V)=>hl.ext (hst V ht)
  have hap:=fun(V:World) (l:LawD) (cs:List Value) (hla:LawAt V l cs) (S0:Nat->Prop) (so:Option Addr) (sc:Nat) (ss:List (Option Wd × List Value)) (hs:StatesAt V (.slice so M sc) ss) (hss:ss.length=M) (ht:Turn (fun b=>¬ K b) w V) (hS:KeptSt S0 ss)=>apply_any hla hs hss hM (hT.keep (hst V ht) id) S0 hS
  have HLAW:=Lib.hid hlaw;have HAPP:=Lib.hid hap;have HV0:=Lib.hid hv;have HJ0:=Lib.hid hj;have HOB0:=Lib.hid hO;have HTW0:=Lib.hid hTW;have HS0:=Lib.hid hs;have HMP0:=Lib.hid hmap;have HK1:=Lib.hid hk1;have HK2:=Lib.hid hk2
  have HD:=Lib.hid hd;have HX0:=Lib.hid hx;have HPL:=Lib.hid hpl;have HIH:=Lib.hid ih;have HJ:=Lib.hid hJ;have HJX:=Lib.hid hJx;have HBB:=Lib.hid hB;have HKN:=Lib.hid hKn;have HKL:=Lib.hid hKL;have HN:=Lib.hid hn;have HOL:=Lib.hid hol;have HP:=Lib.hid hp;have HSZ0:=Lib.hid hn0
  have HOO0:=Lib.hid (And.intro hv.oO.1 hv.oO.2.1)
  have cO:=cell_of_one hv.cO
  have cL:=cell_of_one hv.cL
  have hne:¬ ((d:Int)=(n:Int)):=by omega
  clear hlaw hap hv hj hO hTW hs hmap hk1 hk2 hd hx hpl ih hJ hJx hB hKn hKL hn hol hp hl hT hst hY hn0 hT0
  unfold maxLen at hlm
  go_enter Tryz.func150,Tryz.ntmps150
  go_wp2
  clear cO cL hne
  refine wp_loop (fun a W=>∃(k:Nat) (ao:Option Addr) (c:Nat) (O:Nat->Prop),k<=n/\a.defers=[]/\(a.tmps.size=57/\a.tmps.getD 0 undef=.slice no M nc/\a.tmps.getD 1 undef=.pointer (some ⟨BO,0,none⟩)/\a.tmps.getD 2 undef=.pointer (some ⟨BL,0,none⟩)/\a.tmps.getD 3 undef=.pointer (some ⟨BY,0,none⟩)/\a.tmps.getD 4 undef=.pointer (some ⟨BU,0,none⟩)/\a.tmps.getD 5 undef=.pointer (some ⟨BV,0,none⟩)/\a.tmps.getD 20 undef=.slice lo n lc/\a.tmps.getD 21 undef=.int .i64 n/\a.tmps.getD 22 undef=.int .i64 k) /\
    Vis BO BL BY BU BV l n n0 lo lc O p (.slice ao d c) W/\J O (pre++visTo n m p k) W/\(∀ b,O b->n0<=b/\b<W.heap.size)/\(∀ b,O0 b->O b)/\Turn (VisT K O0 BO BU (.slice vo1 d vc0)) W0 W/\(∀ g,(Value.slice ao d c).ownBlock=some g->(Value.slice vo1 d vc0).ownBlock=some g\/W0.heap.size<=g))
   (fun a _=>((n:Int) - intOf (a.tmps.getD 22 undef)).toNat) ?_ ?_
  ·exact⟨0,vo1,vc0,O0,by omega,rfl,⟨rfl,rfl,rfl,rfl,rfl,rfl,rfl,rfl,rfl,rfl⟩,HV0.out,by rw [visTo_zero,List.append_nil];exact HJ0.out,HOB0.out,fun _ h=>h,Turn.refl _ _,fun g h=>.inl h⟩
  clear HV0 HJ0
  rintro⟨t,_⟩ W ⟨k,ao,c,O,hk,hds,⟨hsz,f0,f1,f2,f3,f4,f5,f20,f21,f22⟩,hv,hj,hO,hOO,hT,hvb⟩
  subst hds
  obtain⟨u',hu⟩:=frame_fun hsz
  obtain⟨u,rfl⟩:∃ x,x=u':=⟨_,rfl⟩
  have hu':t=#[u 0,u 1,u 2,u 3,u 4,u 5,u 6,u 7,u 8,u 9,u 10,u 11,u 12,u 13,u 14,u 15,u 16,u 17,u 18,u 19,u 20,u 21,u 22,u 23,u 24,u 25,u 26,u 27,u 28,u 29,u 30,u 31,u 32,u 33,u 34,u 35,u 36,u 37,u 38,u 39,u 40,u 41,u 42,u 43,u 44,u 45,u 46,u 47,u 48,u 49,u 50,u 51,u 52,u 53,u 54,u 55,u 56]:=hu
  clear hu
  subst hu'
  change u 0=_ at f0
  change u 1=_ at f1
  change u 2=_ at f2
  change u 3=_ at f3
  change u 4=_ at f4
  change u 5=_ at f5
  change u 20=_ at f20
  change u 21=_ at f21
  change u 22=_ at f22
  rw [f0,f1,f2,f3,f4,f5,f20,f21,f22]
  clear f0 f1 f2 f3 f4 f5 f20 f21 f22 hsz
  have HV:=Lib.hid hv;have HJW:=Lib.hid hj;have HOB:=Lib.hid hO;have HOO:=Lib.hid hOO;have HT:=Lib.hid hT;have HVB:=Lib.hid hvb
  clear hv hj hO hOO hT hvb
  by_cases hkN:k<n
  case neg=>
   obtain rfl:k=n:=by omega
   have h1:¬ (k:Int)<(k:Int):=by omega
   have hj:=HJW.out
   rw [visTo_all] at hj
   have HJF:=Lib.hid hj
   clear hj
   go_wp2
   go_ret
   exact⟨true,rfl,O,ao,c,by rw [HD.out];exact HV.out,HOB.out,HOO.out,HT.out,by rw [HD.out];exact HVB.out,fun _=>HJF.out,fun h=>by cases h⟩
  have h1:(k:Int)<(n:Int):=by omega
  have h0:(0:Int)<=(k:Int):=by omega
  have hTW:Turn (fun b=>¬ K b) w W:=HTW0.out.after HT.out (fun b _ q=>q.1)
  have hkl:k<ps.length:=by rw [HN.out];exact hkN
  have hlV:=HLAW.out W hTW
  obtain⟨gl,ol,c9,hq,hgl,hrg,hla,h18⟩:=hlV.at hkl
  simp only [Value.slice.injEq] at hq
  obtain⟨rfl,hz,rfl⟩:=hq
  obtain⟨⟨pl,pc⟩,hpk⟩:∃ x,ps[k]=x:=⟨_,rfl⟩
  have hstep:(ps.map (·.1))[k]?=some pl:=by rw [List.getElem?_map,List.getElem?_eq_getElem hkl,hpk];rfl
  have hmem:(pl,pc)∈ps:=by rw [<-hpk];exact List.getElem_mem hkl
  rw [hpk] at hrg hla h18
  dsimp only at hrg hla h18
  obtain⟨nm,k1,p1,m1,n1,a1,b1,o1,N1,c1,k2,p2,m2,n2,a2,b2,o2,N2,c2,io,N3,ic,oo,N4,oc,md,hcs,HLA,HPL3,HPR,HIF,HOU,HNM,HN1,HN2,HN3,HN4,HMD,q0,q1,q2,q3,q4⟩:=law_gen hla
  subst hcs
  have hwk:IntKind.i64.wrap ((k:Int)+1)=(k:Int)+1:=IntWalk.i64_in _ (by omega)
  have HRG:=Lib.hid hrg;have HSTEP:=Lib.hid hstep;have HMEM:=Lib.hid hmem;have HTW:=Lib.hid hTW
  clear hmem hz hlV hla h18 hpk hkl hrg hstep hTW hgl HPL3 HPR HIF HOU HNM HN1 HN2 HN3 HN4 HMD
  obtain⟨V1,hV1⟩:∃ D,(W.alloc (.cells #[.string ⟨#[]⟩,.int .i64 0,.int .u32 0,.int .u32 0,.bool false,.int .i64 0,.int .i64 0,.slice none 0 0,.int .i64 0,.int .u32 0,.int .u32 0,.bool false,.int .i64 0,.int .i64 0,.slice none 0 0,.slice none 0 0,.slice none 0 0,.int .i64 0] 102)).setRow W.heap.size #[.string nm,.int .i64 k1,.int .u32 (p1:Int),.int .u32 (m1:Int),.bool n1,.int .i64 a1,.int .i64 b1,.slice o1 N1 c1,.int .i64 k2,.int .u32 (p2:Int),.int .u32 (m2:Int),.bool n2,.int .i64 a2,.int .i64 b2,.slice o2 N2 c2,.slice io N3 ic,.slice oo N4 oc,.int .i64 md]=D:=⟨_,rfl⟩
  have hN1:Ext W V1:=by rw [<-hV1];exact((Turn.refl (fun _=>False) W).alloc _).after (Turn.setRow _ _ _) (fun b hb e=>by omega)
  have hx1:V1.heap[W.heap.size]?=some (.cells #[.string nm,.int .i64 k1,.int .u32 (p1:Int),.int .u32 (m1:Int),.bool n1,.int .i64 a1,.int .i64 b1,.slice o1 N1 c1,.int .i64 k2,.int .u32 (p2:Int),.int .u32 (m2:Int),.bool n2,.int .i64 a2,.int .i64 b2,.slice o2 N2 c2,.slice io N3 ic,.slice oo N4 oc,.int .i64 md] 102 (0,0)):=by rw [<-hV1];exact setRow_heap _ _ _ #[.string nm,.int .i64 k1,.int .u32 (p1:Int),.int .u32 (m1:Int),.bool n1,.int .i64 a1,.int .i64 b1,.slice o1 N1 c1,.int .i64 k2,.int .u32 (p2:Int),.int .u32 (m2:Int),.bool n2,.int .i64 a2,.int .i64 b2,.slice o2 N2 c2,.slice io N3 ic,.slice oo N4 oc,.int .i64 md] _ _ (new_at rfl)
  obtain⟨X,hX⟩:∃ x,W.heap.size=x:=⟨_,rfl⟩
  have HV1:=Lib.hid (HV.out.keep hN1 (fun _ h=>h.elim) (fun _ h=>h))
  obtain⟨u,hu⟩:∃ u,usedM n p=u:=⟨_,rfl⟩
  have hub:u<64:=by rw [<-hu];exact Nat.lt_of_lt_of_le (used_lt n p) (Nat.pow_le_pow_right (n:=2) (by decide) hn6)
  have hut:u.testBit k=decide (k∈p):=by rw [<-hu];exact used_bit hkN
  have HX1:=Lib.hid hx1;have HVV:=Lib.hid hV1;have HN1:=Lib.hid hN1;have HUU:=Lib.hid hu;have HUT:=Lib.hid hut;have HXX:=Lib.hid hX
  clear hx1 hV1 hN1 hu hut hX
  go_upto_region 6 with (first | (refine wpList_load_at (by rfl) 102 (.tmp 25) rfl gl (ol+k*18) (by first | rfl | simp) _ _ HRG.out Tryz.underlying102 rfl (by kernel_rfl) ?_) | (refine wpList_store_row rfl 102 (.tmp 9) (.tmp 26) rfl W.heap.size #[.string nm,.int .i64 k1,.int .u32 (p1:Int),.int .u32 (m1:Int),.bool n1,.int .i64 a1,.int .i64 b1,.slice o1 N1 c1,.int .i64 k2,.int .u32 (p2:Int),.int .u32 (m2:Int),.bool n2,.int .i64 a2,.int .i64 b2,.slice o2 N2 c2,.slice io N3 ic,.slice oo N4 oc,.int .i64 md] (by rfl) (by rfl) _ _ (new_at rfl) (by kernel_rfl) (by kernel_rfl) (by kernel_rfl) ?_;(try simp only [Act.put])))
  have hx1:=HX1.out
  rw [HVV.out,HXX.out]
  rw [HXX.out] at hx1
  have HX:=Lib.hid hx1
  clear hx1 HX1 HVV HRG
  have cU:=cell_of_one HV1.out.cU
  rw [HUU.out] at cU
  have hbit:=shr_bit6 u k (by omega)
  rw [HUT.out] at hbit
  by_cases hin:k∈p
  ·have hb3:bits .and .u64 ((u:Int) / 2 ^ k) 1=1:=by rw [decide_eq_true hin] at hbit;simpa using hbit
   have hj:=HJ.out O (fun b=>O b\/(W.heap.size<=b/\b<V1.heap.size)) _ W V1 HJW.out HN1.out.of (fun b hb=>hb.elim (fun h=>⟨.inl h,Nat.lt_of_lt_of_le (HOB.out b h).2 HN1.out.size⟩) (fun h=>⟨.inr h.1,h.2⟩))
   rw [<-visTo_in (n:=n) (m:=m) hin] at hj
   have hsz0:=Nat.le_trans HSZ0.out HT.out.size
   have HJ1:=Lib.hid hj
   have HV1:=Lib.hid (HV.out.keep (O':=fun b=>O b\/(W.heap.size<=b/\b<V1.heap.size)) HN1.out (fun _ h=>h.elim) (fun _ h=>.inl h))
   have HT1:=Lib.hid (HT.out.trans HN1.out.of)
   have HOB1:Hid (∀ b,(O b\/(W.heap.size<=b/\b<V1.heap.size))->n0<=b/\b<V1.heap.size):=Lib.hid fun b hb=>hb.elim (fun h=>⟨(HOB.out b h).1,Nat.lt_of_lt_of_le (HOB.out b h).2 HN1.out.size⟩) (fun h=>⟨by omega,h.2⟩)
   clear hj hbit hsz0
   go_wp2
   exact⟨⟨k+1,ao,c,_,by omega,by first | rfl | trivial,⟨rfl,rfl,rfl,rfl,rfl,rfl,rfl,rfl,rfl,rfl⟩,HV1.out,HJ1.out,HOB1.out,fun b h=>.inl (HOO.out b h),HT1.out,HVB.out⟩,by first | (simp [intOf];done) | (simp [intOf];omega)⟩
  ·have hb3:(bits .and .u64 ((u:Int) / 2 ^ k) 1 == 1)=false:=by rw [hbit,decide_eq_false hin]
   have hb4:¬ bits .and .u64 ((u:Int) / 2 ^ k) 1=1:=by simpa using hb3
   clear hbit
   go_upto_region 7 with (fail)
   have hsz:n0<=V1.heap.size:=Nat.le_trans HSZ0.out (Nat.le_trans HT.out.size HN1.out.size)
   have HSZ:=Lib.hid hsz
   have HOBV:Hid (∀ b,O b->n0<=b/\b<V1.heap.size):=Lib.hid fun b h=>⟨(HOB.out b h).1,Nat.lt_of_lt_of_le (HOB.out b h).2 HN1.out.size⟩
   obtain⟨u2,hu2⟩:∃ u2,usedM n (p++[k])=u2:=⟨_,rfl⟩
   have hu2b:u2<64:=by rw [<-hu2];exact Nat.lt_of_lt_of_le (used_lt n _) (Nat.pow_le_pow_right (n:=2) (by decide) hn6)
   have huor:u ||| 2 ^ k=u2:=by rw [<-hu2,<-used_or hkN,HUU.out]
   have hor:=u64_or_shl u k (by omega) (by omega)
   rw [huor] at hor
   have hbk:=andn_back u hub k (by omega) (by rw [HUT.out,decide_eq_false hin])
   rw [huor] at hbk
   have HU2:=Lib.hid hu2;have HBK:=Lib.hid hbk
   clear hu2 huor hbk cU hb3 hb4
   go_cut [] from 32 to 39 (fun wx=>VisPush BO BL BY BU BV l n n0 lc (some ⟨gl,ol,none⟩) O (p++[k]) (.slice ao d c) V1 wx)
   case first=>
    obtain⟨V0,hV0⟩:∃ D,V1.drew=D:=⟨_,rfl⟩
    have e0:Ext V1 V0:=by rw [<-hV0];exact(Turn.refl _ V1).drew
    have HZ0:Hid (V0.heap.size=V1.heap.size):=Lib.hid (by rw [<-hV0];rfl)
    have hv0:=HV1.out.keep e0 (fun _ h=>h.elim) (fun _ h=>h)
    have hS0:=hv0.cU
    rw [HUU.out] at hS0
    refine wp_region_late (S:=fun D=>D.heap[BU]?=some (.cells #[.int .u64 (u:Int)] 237 (0,0))) [9] (by kernel_rfl) (by rw [hV0];exact hS0) ?_
    intro _
    rw [hV0]
    clear hV0
    refine tkE (i:=1) (d:=33) (v:=?_) rfl (Or.inl ⟨by rfl,?_⟩) hS0 ?_
    rotate_left
    ·intro w hSw;(try dsimp only at hSw);have c1:=cell_of_one hSw;go_simp;try with_reducible rfl
    try simp only [Act.put,pq]
    refine tkE (i:=4) (d:=36) (v:=?_) rfl (Or.inl ⟨by rfl,?_⟩) hS0 ?_
    rotate_left
    ·intro w hSw;(try dsimp only at hSw);have c1:=cell_of_one hSw;go_simp;try with_reducible rfl
    try simp only [Act.put,pq]
    refine tkE (i:=5) (d:=37) (v:=?_) rfl (Or.inl ⟨by rfl,?_⟩) hS0 ?_
    rotate_left
    ·intro w hSw;(try dsimp only at hSw);have c1:=cell_of_one hSw;go_simp;try with_reducible rfl
    try simp only [Act.put,pq]
    refine tkE (i:=6) (d:=38) (v:=?_) rfl (Or.inl ⟨by rfl,?_⟩) hS0 ?_
    rotate_left
    ·intro w hSw;(try dsimp only at hSw);have c1:=cell_of_one hSw;go_simp;try with_reducible rfl
    try simp only [Act.put,pq]
    refine tkE (i:=7) (d:=39) (v:=?_) rfl (Or.inl ⟨by rfl,?_⟩) hS0 ?_
    rotate_left
    ·intro w hSw;(try dsimp only at hSw);have c1:=cell_of_one hSw;go_simp;try with_reducible rfl
    try simp only [Act.put,pq]
    refine wpAnyE_ready (rs:=[0,2]) (by kernel_rfl) (by simp) ?_
    refine AllReadyE.cons rfl (fun K hK=>?_) (AllReadyE.cons rfl (fun K hK=>?_) AllReadyE.nil)
    ·(try rw [if_pos (show Region.wanted _ _=true from rfl)])
     have c0:=cell_of_one hv0.cO
     go_simp
     refine hK.out _ _ hS0 (fun _=>?_)
     clear hK K c0
     try simp only [Act.put,pq]
     refine wpAnyE_ready (rs:=[2]) (by kernel_rfl) (by simp) ?_
     refine AllReadyE.cons rfl (fun K hK=>?_) AllReadyE.nil
     (try rw [if_pos (show Region.wanted _ _=true from rfl)])
     go_simp
     obtain⟨V2,hV2⟩:∃ D,V0.alloc (.cells #[.int .i64 (k:Int)] 3)=D:=⟨_,rfl⟩
     have e2:Ext V0 V2:=by rw [<-hV2];exact(Turn.refl _ V0).alloc _
     have hb2:V2.heap[V0.heap.size]?=some (.cells #[.int .i64 (k:Int)] 3 (0,0)):=by rw [<-hV2];exact new_at rfl
     obtain⟨Y,hYY⟩:∃ y,V0.heap.size=y:=⟨_,rfl⟩
     rw [hV2,hYY]
     rw [hYY] at hb2
     clear hV2 hYY
     have hS2:=e2.keep hS0
     refine hK.out _ _ hS2 (fun _=>?_)
     clear hK K
     try simp only [Act.put,pq]
     refine wpAnyE_ready (rs:=[3]) (by kernel_rfl) (by simp) ?_
     refine AllReadyE.cons rfl (fun K hK=>?_) AllReadyE.nil
     (try rw [if_pos (show Region.wanted _ _=true from rfl)])
     refine append_oper (.tmp 32) (.tmp 34) 48 rfl n0 3 _ 1 8 Tryz.underlying48 Tryz.infoI rfl (by decide) _ _ _ rfl (by have:=own_ext hv0.own e2;rw [HD.out] at this;exact this) ⟨Y,0,none⟩ 1 1 [.int .i64 (k:Int)] rfl rfl (blk_cells (vs:=[.int .i64 (k:Int)]) hb2) (by intro x hx;simp at hx;subst hx;rfl) (by unfold maxLen;omega) (by omega) (Nat.le_trans HSZ.out (Nat.le_trans e0.size e2.size)) ?_
     intro ao5 c5 V5 hO5 hT5 hB5
     have hT6:Turn (fun b=>(Value.slice ao d c).ownBlock=some b) V0 V5:=Turn.trans (Ext.of e2) hT5
     have hS5:=hT5.heap hS2 (fun e=>(hv0.row _ e).2.2.1 rfl)
     have hcO5:=hT6.heap hv0.cO (fun e=>(hv0.row _ e).2.1 rfl)
     have hb6:(Value.slice ao5 (d+1) c5).ownBlock=(Value.slice ao d c).ownBlock\/∃ g,V0.heap.size<=g/\(Value.slice ao5 (d+1) c5).ownBlock=some g:=hB5.imp id fun e=>⟨_,e2.size,e⟩
     have hO6:V5.ownsRow n0 3 1 (.slice ao5 (d+1) c5) (p.length+1) (natV (p++[k])):=by rw [HD.out,natV_append];exact hO5
     have HT6:=Lib.hid hT6;have HB6:=Lib.hid hb6;have HO6:=Lib.hid hO6
     clear hT6 hb6 hO6 hT5 hO5 hB5
     refine hK.out _ _ hS5 (fun _=>?_)
     clear hK K
     try simp only [Act.put,pq]
     refine wpAnyE_ready (rs:=[8]) (by kernel_rfl) (by simp) ?_
     refine AllReadyE.cons rfl (fun K hK=>?_) AllReadyE.nil
     (try rw [if_pos (show Region.wanted _ _=true from rfl)])
     have c0:=cell_of_one hcO5
     have f0:=free_of_one hcO5
     go_simp
     have hS6:=(Turn.set1 V5 BO 0 (.slice ao5 (d+1) c5)).heap hS5 (by omega)
     refine hK.out _ _ hS6 (fun _=>?_)
     clear hK K c0 f0
     (try change wpAnyE _ _ _ _ _ _ _ _ (Act.put _ none _) _)
     (try simp only [Act.put])
     refine wpAnyE_ready (rs:=[9]) (by kernel_rfl) (by simp) ?_
     refine AllReadyE.late rfl rfl (fun K hK=>?_) AllReadyE.nil
     (try rw [if_pos (show Region.wanted _ _=true from rfl)])
     have c0:=cell_of_one hS6
     have f0:=free_of_one hS6
     go_simp
     refine hK.out _ _ ?_
     clear hK K c0 f0
     (try change wpAnyE _ _ _ _ _ _ _ _ (Act.put _ none _) _)
     (try simp only [Act.put])
     refine wpAnyE_done (by kernel_rfl) ?_ _
     obtain⟨V7,hV7⟩:∃ D,(V5.setCell ⟨BO,0,none⟩ (.slice ao5 (d+1) c5)).setCell ⟨BU,0,none⟩ (.int .u64 (u2:Int))=D:=⟨_,rfl⟩
     have hp7:=vis_pushed (V7:=V7) HZ0.out hv0 e0 HT6.out HO6.out HB6.out HOBV.out HBB.out HSZ.out HD.out (by rw [HU2.out];exact hV7)
     have HP7:=Lib.hid hp7
     rw [hV7]
     clear hp7 hV7 hS6 hS5 hcO5 HT6 HO6 HB6 hS2 hb2 e2 hS0 hv0 e0
     go_wp2
     go_meet
     case rel=>exact HP7.out
    ·(try rw [if_pos (show Region.wanted _ _=true from rfl)])
     go_simp
     obtain⟨V2,hV2⟩:∃ D,V0.alloc (.cells #[.int .i64 (k:Int)] 3)=D:=⟨_,rfl⟩
     have e2:Ext V0 V2:=by rw [<-hV2];exact(Turn.refl _ V0).alloc _
     have hb2:V2.heap[V0.heap.size]?=some (.cells #[.int .i64 (k:Int)] 3 (0,0)):=by rw [<-hV2];exact new_at rfl
     obtain⟨Y,hYY⟩:∃ y,V0.heap.size=y:=⟨_,rfl⟩
     rw [hV2,hYY]
     rw [hYY] at hb2
     clear hV2 hYY
     have hS2:=e2.keep hS0
     refine hK.out _ _ hS2 (fun _=>?_)
     clear hK K
     try simp only [Act.put,pq]
     refine wpAnyE_ready (rs:=[0]) (by kernel_rfl) (by simp) ?_
     refine AllReadyE.cons rfl (fun K hK=>?_) AllReadyE.nil
     (try rw [if_pos (show Region.wanted _ _=true from rfl)])
     have c0:=cell_of_one (e2.keep hv0.cO)
     go_simp
     refine hK.out _ _ hS2 (fun _=>?_)
     clear hK K c0
     try simp only [Act.put,pq]
     refine wpAnyE_ready (rs:=[3]) (by kernel_rfl) (by simp) ?_
     refine AllReadyE.cons rfl (fun K hK=>?_) AllReadyE.nil
     (try rw [if_pos (show Region.wanted _ _=true from rfl)])
     refine append_oper (.tmp 32) (.tmp 34) 48 rfl n0 3 _ 1 8 Tryz.underlying48 Tryz.infoI rfl (by decide) _ _ _ rfl (by have:=own_ext hv0.own e2;rw [HD.out] at this;exact this) ⟨Y,0,none⟩ 1 1 [.int .i64 (k:Int)] rfl rfl (blk_cells (vs:=[.int .i64 (k:Int)]) hb2) (by intro x hx;simp at hx;subst hx;rfl) (by unfold maxLen;omega) (by omega) (Nat.le_trans HSZ.out (Nat.le_trans e0.size e2.size)) ?_
     intro ao5 c5 V5 hO5 hT5 hB5
     have hT6:Turn (fun b=>(Value.slice ao d c).ownBlock=some b) V0 V5:=Turn.trans (Ext.of e2) hT5
     have hS5:=hT5.heap hS2 (fun e=>(hv0.row _ e).2.2.1 rfl)
     have hcO5:=hT6.heap hv0.cO (fun e=>(hv0.row _ e).2.1 rfl)
     have hb6:(Value.slice ao5 (d+1) c5).ownBlock=(Value.slice ao d c).ownBlock\/∃ g,V0.heap.size<=g/\(Value.slice ao5 (d+1) c5).ownBlock=some g:=hB5.imp id fun e=>⟨_,e2.size,e⟩
     have hO6:V5.ownsRow n0 3 1 (.slice ao5 (d+1) c5) (p.length+1) (natV (p++[k])):=by rw [HD.out,natV_append];exact hO5
     have HT6:=Lib.hid hT6;have HB6:=Lib.hid hb6;have HO6:=Lib.hid hO6
     clear hT6 hb6 hO6 hT5 hO5 hB5
     refine hK.out _ _ hS5 (fun _=>?_)
     clear hK K
     try simp only [Act.put,pq]
     refine wpAnyE_ready (rs:=[8]) (by kernel_rfl) (by simp) ?_
     refine AllReadyE.cons rfl (fun K hK=>?_) AllReadyE.nil
     (try rw [if_pos (show Region.wanted _ _=true from rfl)])
     have c0:=cell_of_one hcO5
     have f0:=free_of_one hcO5
     go_simp
     have hS6:=(Turn.set1 V5 BO 0 (.slice ao5 (d+1) c5)).heap hS5 (by omega)
     refine hK.out _ _ hS6 (fun _=>?_)
     clear hK K c0 f0
     (try change wpAnyE _ _ _ _ _ _ _ _ (Act.put _ none _) _)
     (try simp only [Act.put])
     refine wpAnyE_ready (rs:=[9]) (by kernel_rfl) (by simp) ?_
     refine AllReadyE.late rfl rfl (fun K hK=>?_) AllReadyE.nil
     (try rw [if_pos (show Region.wanted _ _=true from rfl)])
     have c0:=cell_of_one hS6
     have f0:=free_of_one hS6
     go_simp
     refine hK.out _ _ ?_
     clear hK K c0 f0
     (try change wpAnyE _ _ _ _ _ _ _ _ (Act.put _ none _) _)
     (try simp only [Act.put])
     refine wpAnyE_done (by kernel_rfl) ?_ _
     obtain⟨V7,hV7⟩:∃ D,(V5.setCell ⟨BO,0,none⟩ (.slice ao5 (d+1) c5)).setCell ⟨BU,0,none⟩ (.int .u64 (u2:Int))=D:=⟨_,rfl⟩
     have hp7:=vis_pushed (V7:=V7) HZ0.out hv0 e0 HT6.out HO6.out HB6.out HOBV.out HBB.out HSZ.out HD.out (by rw [HU2.out];exact hV7)
     have HP7:=Lib.hid hp7
     rw [hV7]
     clear hp7 hV7 hS6 hS5 hcO5 HT6 HO6 HB6 hS2 hb2 e2 hS0 hv0 e0
     go_wp2
     go_meet
     case rel=>exact HP7.out
   case rest=>
    obtain⟨ao7,c7,hv7,hT7,hsz7,hvb7⟩:=hcut
    generalize wc=V7 at hv7 hT7 hsz7 hvb7 ⊢
    have hq7:(p++[k]).length=d+1:=by rw [List.length_append,HD.out];rfl
    have hd9:(p++[k]).length+m=n:=by rw [hq7];have:=HP.out;have:=HD.out;omega
    have hpl9:∀ x∈p++[k],x<n:=fun x hx=>by
     rcases List.mem_append.1 hx with h | h
     ·exact HPL.out x h
     ·rw [List.mem_singleton] at h;omega
    obtain⟨rest9,hr9⟩:=visTo_step (m:=m) hkN hin
    have hx9:xs=(pre++visTo n m p k)++visL n m (p++[k])++(rest9++rest):=by rw [HX0.out,hr9];simp only [List.append_assoc]
    rw [hq7] at hv7 hvb7
    have hX7:=hT7.heap HX.out (by
     have e1:=(HOB.out _ HV.out.oO.1).2
     have e2:=(HOB.out _ HV.out.oO.2.1).2
     have e3:=HXX.out
     rintro(e | e | e)
     ·omega
     ·omega
     ·have:=(HV.out.own.lt _ e).2;omega)
    have hol2:=HOL.out
    have haft:=fun(U0 U1:World) (bo:Option Addr) (bc:Nat) (os2:List (Option Wd × List Value)) (hE:Ext V7 U0) (hst2:StRow U0.heap.size (fun g=>VisS K O0 BO BU (.slice vo1 d vc0) g\/U0.heap.size<=g) (.slice bo M bc) U1 M os2) (hN2:Ext U0 U1)=>
     vis_after HBB.out HKN.out HJ.out HOB0.out HSZ0.out HV.out HJW.out HOB.out HOO.out HT.out HVB.out HTW.out HN1.out hv7 hT7 hvb7 HOO0.out hE hst2 hN2
    have hmid:=fun(U0:World) (hE:Ext V7 U0)=>vis_mid HKN.out HSZ0.out HV.out HOB.out HT.out HVB.out HTW.out HN1.out hT7 hE
    have hap7:=fun(U0:World) (hE:Ext V7 U0)=>HAPP.out U0 pl _ ((HLAW.out U0 (hmid U0 hE).1).2 _ HMEM.out) (VisS K O0 BO BU (.slice vo1 d vc0)) no nc os (states_keepS HS0.out (hmid U0 hE).2 HK1.out HK2.out) HOL.out (hmid U0 hE).1 HK2.out
    have hmp9:∀ os2:List (Option Wd × List Value),os2.map (·.1)=os.map (fun q=>stepO pl q.1)->os2.map (·.1)=T0.map (runO (ps.map (·.1)) (p++[k])):=fun os2 h=>by
     rw [h,show (fun q:Option Wd × List Value=>stepO pl q.1)=(fun s=>stepO pl s) ∘ (fun q=>q.1) from rfl,<-List.map_map,HMP0.out,List.map_map]
     apply List.map_congr_left
     intro s _
     exact(runO_snoc HSTEP.out s).symm
    have hvbw:(Value.slice ao7 (d+1) c7).ownBlock=(Value.slice ao d c).ownBlock\/∃ g,W0.heap.size<=g/\(Value.slice ao7 (d+1) c7).ownBlock=some g:=hvb7.imp id fun⟨g,g1,g2⟩=>⟨g,by have:=HT.out.size;have:=HN1.out.size;omega,g2⟩
    have HV7:=Lib.hid hv7;have HX7:=Lib.hid hX7;have HAP:=Lib.hid hap7;have AFTER:=Lib.hid haft;have HD9:=Lib.hid hd9;have HPL9:=Lib.hid hpl9;have HX9:=Lib.hid hx9;have HM9:=Lib.hid hmp9;have HVBW:=Lib.hid hvbw;have HQ7:=Lib.hid hq7
    clear hv7 hX7 hap7 haft hd9 hpl9 hx9 hmp9 hvbw hmid hT7 hvb7 hr9 hq7 hol2
    go_upto_region 8 with (fail)
    obtain⟨U0,hU0⟩:∃ D,V7.drew=D:=⟨_,rfl⟩
    have e0:Ext V7 U0:=by rw [<-hU0];exact(Turn.refl _ V7).drew
    have hv8:=HV7.out.keep e0 (fun _ h=>h.elim) (fun _ h=>h)
    have hX8:=e0.keep HX7.out
    have hS0:U0.heap[BV]?=some (.cells #[.func (.func 150) #[] #[.pointer (some ⟨BO,0,none⟩),.pointer (some ⟨BL,0,none⟩),.pointer (some ⟨BY,0,none⟩),.pointer (some ⟨BU,0,none⟩),.pointer (some ⟨BV,0,none⟩)]] 238 (0,0))/\U0.heap[X]?=some (.cells #[.string nm,.int .i64 k1,.int .u32 (p1:Int),.int .u32 (m1:Int),.bool n1,.int .i64 a1,.int .i64 b1,.slice o1 N1 c1,.int .i64 k2,.int .u32 (p2:Int),.int .u32 (m2:Int),.bool n2,.int .i64 a2,.int .i64 b2,.slice o2 N2 c2,.slice io N3 ic,.slice oo N4 oc,.int .i64 md] 102 (0,0)):=⟨hv8.cV,hX8⟩
    refine wp_region_late (S:=fun D=>D.heap[BV]?=some (.cells #[.func (.func 150) #[] #[.pointer (some ⟨BO,0,none⟩),.pointer (some ⟨BL,0,none⟩),.pointer (some ⟨BY,0,none⟩),.pointer (some ⟨BU,0,none⟩),.pointer (some ⟨BV,0,none⟩)]] 238 (0,0))/\D.heap[X]?=some (.cells #[.string nm,.int .i64 k1,.int .u32 (p1:Int),.int .u32 (m1:Int),.bool n1,.int .i64 a1,.int .i64 b1,.slice o1 N1 c1,.int .i64 k2,.int .u32 (p2:Int),.int .u32 (m2:Int),.bool n2,.int .i64 a2,.int .i64 b2,.slice o2 N2 c2,.slice io N3 ic,.slice oo N4 oc,.int .i64 md] 102 (0,0))) [4,5] (by kernel_rfl) (by rw [hU0];exact hS0) ?_
    intro _
    rw [hU0]
    clear hU0
    refine tkE (i:=0) (d:=40) (v:=?_) rfl (Or.inl ⟨by rfl,?_⟩) hS0 ?_
    rotate_left
    ·intro w hSw;(try dsimp only at hSw);have c1:=cell_of_one hSw.1;go_simp;try with_reducible rfl
    try simp only [Act.put,pq]
    refine tkE (i:=1) (d:=41) (v:=?_) rfl (Or.inl ⟨by rfl,?_⟩) hS0 ?_
    rotate_left
    ·intro w hSw;(try dsimp only at hSw);have hrow:=hSw.2;refine exec_load_row (x:=.tmp 9) ?_ X ?_ _ _ _ hrow Tryz.underlying102 Tryz.lawInfo <;> rfl
    try simp only [Act.put,pq]
    refine tkE (i:=2) (d:=42) (v:=?_) rfl (Or.inl ⟨by rfl,?_⟩) hS0 ?_
    rotate_left
    ·intro w hSw;(try dsimp only at hSw);have c1:=cell_of_one hSw.1;go_simp;try with_reducible rfl
    try simp only [Act.put,pq]
    refine wpAnyE_ready (rs:=[3]) (by kernel_rfl) (by simp) ?_
    refine AllReadyE.cons rfl (fun K hK=>?_) AllReadyE.nil
    (try rw [if_pos (show Region.wanted _ _=true from rfl)])
    go_simp
    refine(HAP.out _ e0).mono ?_
    rintro e U1 ⟨bo,bc,os2,rfl,hst2,hmap2,hN2⟩
    obtain⟨hv9,hj9,hO9,hTK9,hT9,hk9,hks9⟩:=AFTER.out U0 U1 bo bc os2 e0 hst2 hN2
    have hS1:=And.intro (hN2.keep hS0.1) (hN2.keep hS0.2)
    have hcall:=HIH.out (p++[k]) _ _ _ _ _ _ _ _ HD9.out HPL9.out HX9.out hv9 hj9 hO9 hTK9 hst2.at (HM9.out os2 hmap2) hk9 hks9
    have HC9:=Lib.hid hcall;have HT9:=Lib.hid hT9
    clear hcall hv9 hj9 hO9 hTK9 hT9 hk9 hks9 hst2 hmap2 hN2
    refine hK.out _ _ hS1 (fun _=>?_)
    clear hK K
    try simp only [Act.put,pq]
    refine wpAnyE_ready (rs:=[4]) (by kernel_rfl) (by simp) ?_
    refine AllReadyE.late rfl rfl (fun K hK=>?_) AllReadyE.nil
    (try rw [if_pos (show Region.wanted _ _=true from rfl)])
    go_simp
    refine HC9.out.mono ?_
    rintro e U2 ⟨b,rfl,hvo⟩
    have HVO:=Lib.hid hvo
    clear hvo HC9
    refine hK.out _ _ ?_
    clear hK K
    try simp only [Act.put,pq]
    refine wpAnyE_ready (rs:=[5]) (by kernel_rfl) (by simp) ?_
    refine AllReadyE.late rfl rfl (fun K hK=>?_) AllReadyE.nil
    (try rw [if_pos (show Region.wanted _ _=true from rfl)])
    go_simp
    refine hK.out _ _ ?_
    clear hK K
    try simp only [Act.put,pq]
    refine wpAnyE_done (by kernel_rfl) ?_ _
    clear hS0 hS1 hv8 hX8 e0
    obtain⟨O',a9,c9,hvu,hob9,ho9,hT9,hvb9,hj9,hjx9⟩:=HVO.out
    rw [HQ7.out] at hvu hvb9
    obtain⟨gv,rfl⟩:=own_addr (by have:=hvu.own;rw [HQ7.out] at this;exact this)
    have hcap:d+1<=c9:=by
     have h:=hvu.own
     rw [HQ7.out] at h
     rcases h.2 with ⟨e,_⟩ | ⟨g,cap,cur,e,_,_,hnc,_⟩
     ·cases e
     ·cases e;exact hnc
    have HVU:=Lib.hid hvu;have HBACK:=Lib.hid (fun(Z7:World) (hp:VisPop BO BL BY BU BV l n n0 lc (some ⟨gl,ol,none⟩) O' p (.slice (some ⟨gv,0,none⟩) (d+1) c9) U2 Z7)=>vis_back HBB.out HKN.out HJ.out HJX.out (fun b h=>Or.inl (HOO.out b h)) HOB0.out HT9.out HVB.out HVBW.out ho9 hT9 hob9 hvb9 hj9 hjx9 HD.out hp)
    clear hvu hob9 ho9 hT9 hvb9 hj9 hjx9 HVO HV7 HX7 HX HAP AFTER HD9 HPL9 HX9 HM9 HT9 HIH HV1
    go_upto_region 9 with (fail)
    have hd0:(0:Int)<=(d:Int):=by omega
    have hdc:(d:Int)<=(c9:Int):=by omega
    have hdm:IntKind.i64.wrap (d:Int)=(d:Int):=IntWalk.i64_in _ (by omega)
    have hbk:=HBK.out
    go_cut [] from 45 to 53 (fun wx=>VisPop BO BL BY BU BV l n n0 lc (some ⟨gl,ol,none⟩) O' p (.slice (some ⟨gv,0,none⟩) (d+1) c9) U2 wx)
    case first=>
     obtain⟨Z0,hZ0⟩:∃ D,U2.drew=D:=⟨_,rfl⟩
     have e0:Ext U2 Z0:=by rw [<-hZ0];exact(Turn.refl _ U2).drew
     have HZ0:Hid (Z0.heap.size=U2.heap.size):=Lib.hid (by rw [<-hZ0];rfl)
     have hv0:=HVU.out.keep e0 (fun _ h=>h.elim) (fun _ h=>h)
     have hS0:=hv0.cU
     rw [HU2.out] at hS0
     refine wp_region_late (S:=fun D=>D.heap[BU]?=some (.cells #[.int .u64 (u2:Int)] 237 (0,0))) [10] (by kernel_rfl) (by rw [hZ0];exact hS0) ?_
     intro _
     rw [hZ0]
     clear hZ0
     refine tkE (i:=5) (d:=50) (v:=?_) rfl (Or.inl ⟨by rfl,?_⟩) hS0 ?_
     rotate_left
     ·intro w hSw;(try dsimp only at hSw);have c1:=cell_of_one hSw;go_simp;try with_reducible rfl
     try simp only [Act.put,pq]
     refine tkE (i:=6) (d:=51) (v:=?_) rfl (Or.inl ⟨by rfl,?_⟩) hS0 ?_
     rotate_left
     ·intro w hSw;(try dsimp only at hSw);have c1:=cell_of_one hSw;go_simp;try with_reducible rfl
     try simp only [Act.put,pq]
     refine tkE (i:=7) (d:=52) (v:=?_) rfl (Or.inl ⟨by rfl,?_⟩) hS0 ?_
     rotate_left
     ·intro w hSw;(try dsimp only at hSw);have c1:=cell_of_one hSw;go_simp;try with_reducible rfl
     try simp only [Act.put,pq]
     refine tkE (i:=8) (d:=53) (v:=?_) rfl (Or.inl ⟨by rfl,?_⟩) hS0 ?_
     rotate_left
     ·intro w hSw;(try dsimp only at hSw);have c1:=cell_of_one hSw;go_simp;try with_reducible rfl
     try simp only [Act.put,pq]
     refine wpAnyE_ready (rs:=[0,1]) (by kernel_rfl) (by simp) ?_
     refine AllReadyE.cons rfl (fun K hK=>?_) (AllReadyE.cons rfl (fun K hK=>?_) AllReadyE.nil)
     ·(try rw [if_pos (show Region.wanted _ _=true from rfl)])
      have c0:=cell_of_one hv0.cO
      go_simp
      refine hK.out _ _ hS0 (fun _=>?_)
      clear hK K c0
      try simp only [Act.put,pq]
      refine wpAnyE_ready (rs:=[1]) (by kernel_rfl) (by simp) ?_
      refine AllReadyE.cons rfl (fun K hK=>?_) AllReadyE.nil
      (try rw [if_pos (show Region.wanted _ _=true from rfl)])
      have c0:=cell_of_one hv0.cO
      go_simp
      refine hK.out _ _ hS0 (fun _=>?_)
      clear hK K c0
      try simp only [Act.put,pq]
      refine tkE (i:=2) (d:=47) (v:=?_) rfl (Or.inl ⟨by rfl,?_⟩) hS0 ?_
      rotate_left
      ·intro w hSw;(try dsimp only at hSw);have c1:=cell_of_one hSw;go_simp;try with_reducible rfl
      try simp only [Act.put,pq]
      refine tkE (i:=3) (d:=48) (v:=?_) rfl (Or.inl ⟨by rfl,?_⟩) hS0 ?_
      rotate_left
      ·intro w hSw;(try dsimp only at hSw);have c1:=cell_of_one hSw;go_simp;try with_reducible rfl
      try simp only [Act.put,pq]
      refine tkE (i:=4) (d:=49) (v:=?_) rfl (Or.inl ⟨by rfl,?_⟩) hS0 ?_
      rotate_left
      ·intro w hSw;(try dsimp only at hSw);have c1:=cell_of_one hSw;go_simp;try with_reducible rfl
      try simp only [Act.put,pq]
      refine wpAnyE_ready (rs:=[9]) (by kernel_rfl) (by simp) ?_
      refine AllReadyE.cons rfl (fun K hK=>?_) AllReadyE.nil
      (try rw [if_pos (show Region.wanted _ _=true from rfl)])
      have c0:=cell_of_one hv0.cO
      have f0:=free_of_one hv0.cO
      go_simp
      have hS6:=(Turn.set1 Z0 BO 0 (.slice (some ⟨gv,0,none⟩) d c9)).heap hS0 (by omega)
      refine hK.out _ _ hS6 (fun _=>?_)
      clear hK K c0 f0
      (try change wpAnyE _ _ _ _ _ _ _ _ (Act.put _ none _) _)
      (try simp only [Act.put])
      refine wpAnyE_ready (rs:=[10]) (by kernel_rfl) (by simp) ?_
      refine AllReadyE.late rfl rfl (fun K hK=>?_) AllReadyE.nil
      (try rw [if_pos (show Region.wanted _ _=true from rfl)])
      have c0:=cell_of_one hS6
      have f0:=free_of_one hS6
      go_simp
      refine hK.out _ _ ?_
      clear hK K c0 f0
      (try change wpAnyE _ _ _ _ _ _ _ _ (Act.put _ none _) _)
      (try simp only [Act.put])
      refine wpAnyE_done (by kernel_rfl) ?_ _
      obtain⟨Z7,hZ7⟩:∃ D,(Z0.setCell ⟨BO,0,none⟩ (.slice (some ⟨gv,0,none⟩) d c9)).setCell ⟨BU,0,none⟩ (.int .u64 (u:Int))=D:=⟨_,rfl⟩
      have hp7:=vis_popped (V7:=Z7) HZ0.out hv0 e0 HD.out HBB.out (by rw [HUU.out];exact hZ7)
      have HP7:=Lib.hid hp7
      rw [hZ7]
      clear hp7 hZ7 hS6 hS0 hv0 e0
      go_wp2
      go_meet
      case rel=>exact HP7.out
     ·(try rw [if_pos (show Region.wanted _ _=true from rfl)])
      have c0:=cell_of_one hv0.cO
      go_simp
      refine hK.out _ _ hS0 (fun _=>?_)
      clear hK K c0
      try simp only [Act.put,pq]
      refine tkE (i:=2) (d:=47) (v:=?_) rfl (Or.inl ⟨by rfl,?_⟩) hS0 ?_
      rotate_left
      ·intro w hSw;(try dsimp only at hSw);have c1:=cell_of_one hSw;go_simp;try with_reducible rfl
      try simp only [Act.put,pq]
      refine tkE (i:=3) (d:=48) (v:=?_) rfl (Or.inl ⟨by rfl,?_⟩) hS0 ?_
      rotate_left
      ·intro w hSw;(try dsimp only at hSw);have c1:=cell_of_one hSw;go_simp;try with_reducible rfl
      try simp only [Act.put,pq]
      refine wpAnyE_ready (rs:=[0]) (by kernel_rfl) (by simp) ?_
      refine AllReadyE.cons rfl (fun K hK=>?_) AllReadyE.nil
      (try rw [if_pos (show Region.wanted _ _=true from rfl)])
      have c0:=cell_of_one hv0.cO
      go_simp
      refine hK.out _ _ hS0 (fun _=>?_)
      clear hK K c0
      try simp only [Act.put,pq]
      refine tkE (i:=4) (d:=49) (v:=?_) rfl (Or.inl ⟨by rfl,?_⟩) hS0 ?_
      rotate_left
      ·intro w hSw;(try dsimp only at hSw);have c1:=cell_of_one hSw;go_simp;try with_reducible rfl
      try simp only [Act.put,pq]
      refine wpAnyE_ready (rs:=[9]) (by kernel_rfl) (by simp) ?_
      refine AllReadyE.cons rfl (fun K hK=>?_) AllReadyE.nil
      (try rw [if_pos (show Region.wanted _ _=true from rfl)])
      have c0:=cell_of_one hv0.cO
      have f0:=free_of_one hv0.cO
      go_simp
      have hS6:=(Turn.set1 Z0 BO 0 (.slice (some ⟨gv,0,none⟩) d c9)).heap hS0 (by omega)
      refine hK.out _ _ hS6 (fun _=>?_)
      clear hK K c0 f0
      (try change wpAnyE _ _ _ _ _ _ _ _ (Act.put _ none _) _)
      (try simp only [Act.put])
      refine wpAnyE_ready (rs:=[10]) (by kernel_rfl) (by simp) ?_
      refine AllReadyE.late rfl rfl (fun K hK=>?_) AllReadyE.nil
      (try rw [if_pos (show Region.wanted _ _=true from rfl)])
      have c0:=cell_of_one hS6
      have f0:=free_of_one hS6
      go_simp
      refine hK.out _ _ ?_
      clear hK K c0 f0
      (try change wpAnyE _ _ _ _ _ _ _ _ (Act.put _ none _) _)
      (try simp only [Act.put])
      refine wpAnyE_done (by kernel_rfl) ?_ _
      obtain⟨Z7,hZ7⟩:∃ D,(Z0.setCell ⟨BO,0,none⟩ (.slice (some ⟨gv,0,none⟩) d c9)).setCell ⟨BU,0,none⟩ (.int .u64 (u:Int))=D:=⟨_,rfl⟩
      have hp7:=vis_popped (V7:=Z7) HZ0.out hv0 e0 HD.out HBB.out (by rw [HUU.out];exact hZ7)
      have HP7:=Lib.hid hp7
      rw [hZ7]
      clear hp7 hZ7 hS6 hS0 hv0 e0
      go_wp2
      go_meet
      case rel=>exact HP7.out
    case rest=>
     have hback:=HBACK.out _ hcut
     clear hcut
     generalize wc=Z7 at hback ⊢
     obtain⟨O3,a3,c3,hv3,hob3,ho3,hT3,hvb3,hj3,hjx3⟩:=hback
     rw [HD.out] at hv3 hvb3
     have HV3:=Lib.hid hv3;have HOB3:=Lib.hid hob3;have HO3:=Lib.hid ho3;have HT3:=Lib.hid hT3;have HVB3:=Lib.hid hvb3;have HJ3:=Lib.hid hj3;have HJX3:=Lib.hid hjx3
     clear hv3 hob3 ho3 hT3 hvb3 hj3 hjx3 HBACK HVU
     cases b with
     | false=>
      go_wp2
      go_ret
      exact⟨false,rfl,O3,a3,c3,by rw [HD.out];exact HV3.out,HOB3.out,HO3.out,HT3.out,by rw [HD.out];exact HVB3.out,(fun h=>by cases h),fun _=>HJX3.out (by first | trivial | rfl)⟩
     | true=>
      have hj3:=HJ3.out (by first | trivial | rfl)
      rw [List.append_assoc,<-visTo_out hin] at hj3
      have HJN:=Lib.hid hj3
      clear hj3 HJ3 HJX3
      go_wp2
      exact⟨⟨k+1,a3,c3,O3,by omega,by first | rfl | trivial,⟨rfl,rfl,rfl,rfl,rfl,rfl,rfl,rfl,rfl,rfl⟩,HV3.out,HJN.out,HOB3.out,HO3.out,HT3.out,HVB3.out⟩,by first | (simp [intOf];done) | (simp [intOf];omega)⟩
end Go.Proofs.YtfdlhlghcbeblaaGreatDoor
set_option maxRecDepth 100000
set_option maxHeartbeats 32000000
namespace Go.Proofs.YtfdlhlghcbeblaaGreatDoor
open Go.RowKit Go.Ab
attribute [local go_sem] Oper.semAt_some wide_fn wide_depth
theorem vis_all(n:Nat):visL n n []=permsF n (List.range n):=by
 unfold visL restN
 have e:(List.range n).filter (fun i=>!([]:List Nat).contains i)=List.range n:=List.filter_eq_self.2 (fun _ _=>rfl)
 rw [e]
 simp
theorem orders_iter{w0 w:World}{BL BP n M lc pc:Nat}{lo po:Option Addr}{ps:LawsL}{qs:PairsL}(hE0:Ext w0 w)(hl:LawsAt w0 (.slice lo n lc) ps) (hn:ps.length=n) (hn6:n<=6) (hp:PairsAt w0 (.slice po M pc) qs) (hM:qs.length=M) (hMb:M<=1000) (hT:Tab w0)
  (hbl:w.heap[BL]?=some (.cells #[.slice lo n lc] 26 (0,0))) (hbp:w.heap[BP]?=some (.cells #[.slice po M pc] 61 (0,0))) :
  IterO Tryz.prog 149 #[.pointer (some ⟨BL,0,none⟩),.pointer (some ⟨BP,0,none⟩)] (fun _ _=>True) (fun _ _=>OrdE M (ps.map (·.1)) (qs.map fun q=>some q.1.1)) (permsF n (List.range n)) (fun b=>b<w0.heap.size\/b=BL\/b=BP) w:=by
 intro l J Jx W ht hJ0 hJx0 hY h0
 have hblt:=(Array.getElem?_eq_some_iff.1 hbl).1
 have hbpt:=(Array.getElem?_eq_some_iff.1 hbp).1
 have hw0s:=hE0.size
 have hws:=ht.size
 have hKn:∀ b,(b<w0.heap.size\/b=BL\/b=BP)->b<W.heap.size:=fun b hb=>by rcases hb with h | rfl | rfl <;> omega
 have hst:∀ V,Turn (fun b=>¬ (b<w0.heap.size\/b=BL\/b=BP)) w V->Ext w0 V:=fun V hV=>Turn.after hE0 hV (fun b hb e=>e (.inl hb))
 have hJ:∀ O O' pre A B,J O pre A->Turn O A B->(∀ b,O' b->(O b\/A.heap.size<=b)/\b<B.heap.size)->J O' pre B:=fun O O' pre A B h1 h2 h3=>hJ0 O O' pre A B h1 (h2.mono fun b _ h=>⟨h,trivial⟩) h3
 have hJx:∀ O O' pre A B,Jx O pre A->Turn O A B->(∀ b,O' b->(O b\/A.heap.size<=b)/\b<B.heap.size)->Jx O' pre B:=fun O O' pre A B h1 h2 h3=>hJx0 O O' pre A B h1 (h2.mono fun b _ h=>⟨h,trivial⟩) h3
 have hbl1:=ht.heap hbl (fun h=>h (.inr (.inl rfl)))
 have hbp1:=ht.heap hbp (fun h=>h (.inr (.inr rfl)))
 have hEW:=hst W ht
 have hst1:=fun(V:World) (hE:Ext w0 V)=>start_any (pairs_ext hp hE) hM hMb
 have HST:=Lib.hid hst1;have HY:=Lib.hid hY;have HJ:=Lib.hid hJ;have HJX:=Lib.hid hJx;have HS:=Lib.hid hst;have HEW:=Lib.hid hEW;have HKN:=Lib.hid hKn;have H0:=Lib.hid h0;have HBL:=Lib.hid hbl1;have HBP:=Lib.hid hbp1;have HL:=Lib.hid hl;have HN:=Lib.hid hn;have HT:=Lib.hid hT;have HTW:=Lib.hid ht;have HP:=Lib.hid hp;have HM:=Lib.hid hM
 clear hst1 hY hJ hJx hst hEW hKn h0 hbl1 hbp1 hJ0 hJx0 hE0 hl hn hp hM hT hbl hbp ht hblt hbpt hw0s hws
 show Calls _ _ #[.func (.yield l) #[] #[],.pointer (some ⟨BL,0,none⟩),.pointer (some ⟨BP,0,none⟩)] _ _
 go_enter Tryz.func149,Tryz.ntmps149
 go_upto_region 5 with (fail)
 obtain⟨N,hNN⟩:∃ N,W.heap.size=N:=⟨_,rfl⟩
 rw [hNN]
 obtain⟨V1,hV1⟩:∃ D,((((W.alloc (.cells #[.func (.yield l) #[] #[]] 236)).alloc (.cells #[.slice none 0 0] 48)).alloc (.cells #[.int .u64 0] 237)).alloc (.cells #[.func (.func 150) #[] #[.pointer (some ⟨N+1,0,none⟩),.pointer (some ⟨BL,0,none⟩),.pointer (some ⟨N,0,none⟩),.pointer (some ⟨N+1+1,0,none⟩),.pointer (some ⟨N+1+1+1,0,none⟩)]] 238))=D:=⟨_,rfl⟩
 have hE1:Ext W V1:=by rw [<-hV1];exact(((((Turn.refl _ W).alloc _).alloc _).alloc _).alloc _)
 have hz1:V1.heap.size=N+1+1+1+1:=by rw [<-hV1,<-hNN];simp
 have hcY:V1.heap[N]?=some (.cells #[.func (.yield l) #[] #[]] 236 (0,0)):=by rw [<-hV1];exact new_keep (new_keep (new_keep (new_at hNN.symm)))
 have hcO:V1.heap[N+1]?=some (.cells #[.slice none 0 0] 48 (0,0)):=by rw [<-hV1];exact new_keep (new_keep (new_at (by simp;omega)))
 have hcU:V1.heap[N+1+1]?=some (.cells #[.int .u64 0] 237 (0,0)):=by rw [<-hV1];exact new_keep (new_at (by simp;omega))
 have hcV:V1.heap[N+1+1+1]?=some (.cells #[.func (.func 150) #[] #[.pointer (some ⟨N+1,0,none⟩),.pointer (some ⟨BL,0,none⟩),.pointer (some ⟨N,0,none⟩),.pointer (some ⟨N+1+1,0,none⟩),.pointer (some ⟨N+1+1+1,0,none⟩)]] 238 (0,0)):=by rw [<-hV1];exact new_at (by simp;omega)
 rw [hV1]
 clear hV1
 have hKN:∀ b,(b<w0.heap.size\/b=BL\/b=BP)->b<N:=by rw [<-hNN];exact HKN.out
 have hvis:Vis (N+1) BL N (N+1+1) (N+1+1+1) l n N lo lc (fun b=>N<=b/\b<V1.heap.size) [] (.slice none 0 0) V1:=
  ⟨hcO,hE1.keep HBL.out,hcY,by rw [used_nil];exact hcU,hcV,World.ownsRow_nil _ _ _ _,(fun g hg=>by cases hg),⟨by omega,by omega⟩,⟨by omega,by omega⟩,⟨by omega,by omega⟩,⟨by omega,by omega⟩⟩
 have hBB:VisB (N+1) BL N (N+1+1) (N+1+1+1) N:=⟨hKN BL (.inr (.inl rfl)),by omega,by omega,by omega,by omega,by omega,by omega,by omega,by omega,by omega⟩
 obtain⟨U0,hU0⟩:∃ D,V1.drew=D:=⟨_,rfl⟩
 have e0:Ext V1 U0:=by rw [<-hU0];exact(Turn.refl _ V1).drew
 have hS0:U0.heap[N+1+1+1]?=some (.cells #[.func (.func 150) #[] #[.pointer (some ⟨N+1,0,none⟩),.pointer (some ⟨BL,0,none⟩),.pointer (some ⟨N,0,none⟩),.pointer (some ⟨N+1+1,0,none⟩),.pointer (some ⟨N+1+1+1,0,none⟩)]] 238 (0,0))/\U0.heap[BP]?=some (.cells #[.slice po M pc] 61 (0,0)):=⟨e0.keep hcV,e0.keep (hE1.keep HBP.out)⟩
 have hvis0:=hvis.keep e0 (fun _ h=>h.elim) (fun _ h=>h)
 have HVIS:=Lib.hid hvis0;have HBB:=Lib.hid hBB;have HKNN:=Lib.hid hKN;have HE0:=Lib.hid (hE1.trans e0);have HNN:=Lib.hid hNN;have HZ1:Hid (V1.heap.size<=U0.heap.size/\V1.heap.size=N+1+1+1+1):=Lib.hid ⟨e0.size,hz1⟩
 clear hcO hcU hcY hcV hvis hvis0 hBB hKN hE1 hz1
 refine wp_region_late (S:=fun D=>D.heap[N+1+1+1]?=some (.cells #[.func (.func 150) #[] #[.pointer (some ⟨N+1,0,none⟩),.pointer (some ⟨BL,0,none⟩),.pointer (some ⟨N,0,none⟩),.pointer (some ⟨N+1+1,0,none⟩),.pointer (some ⟨N+1+1+1,0,none⟩)]] 238 (0,0))/\D.heap[BP]?=some (.cells #[.slice po M pc] 61 (0,0))) [3] (by kernel_rfl) (by rw [hU0];exact hS0) ?_
 intro _
 rw [hU0]
 clear hU0 hNN e0
 refine tkE (i:=0) (d:=8) (v:=?_) rfl (Or.inl ⟨by rfl,?_⟩) hS0 ?_
 rotate_left
 ·intro w hSw;(try dsimp only at hSw);have c1:=cell_of_one hSw.1;have c2:=cell_of_one hSw.2;go_simp;try with_reducible rfl
 try simp only [Act.put,pq]
 refine tkE (i:=1) (d:=9) (v:=?_) rfl (Or.inl ⟨by rfl,?_⟩) hS0 ?_
 rotate_left
 ·intro w hSw;(try dsimp only at hSw);have c1:=cell_of_one hSw.1;have c2:=cell_of_one hSw.2;go_simp;try with_reducible rfl
 try simp only [Act.put,pq]
 refine wpAnyE_ready (rs:=[2]) (by kernel_rfl) (by simp) ?_
 refine AllReadyE.cons rfl (fun K hK=>?_) AllReadyE.nil
 (try rw [if_pos (show Region.wanted _ _=true from rfl)])
 go_simp
 refine(HST.out _ (HEW.out.trans HE0.out)).mono ?_
 rintro e U1 ⟨so,sc,rfl,hO2,hN2⟩
 have hEU:Ext W U1:=HE0.out.trans hN2
 have hzN:=HNN.out
 have hsU:=hEU.size
 have hz2:=HZ1.out
 have hz3:=hN2.size
 have hv1:Vis (N+1) BL N (N+1+1) (N+1+1+1) l n N lo lc (fun b=>N<=b/\b<U1.heap.size) [] (.slice none 0 0) U1:=HVIS.out.keep hN2 (fun _ h=>h.elim) (fun b h=>⟨h.1,by omega⟩)
 have hj1:J (fun b=>N<=b/\b<U1.heap.size) [] U1:=HJ.out _ _ _ W U1 H0.out hEU.of (fun b h=>⟨.inr (by omega),h.2⟩)
 have hss:=start_states HM.out hO2 (fun q hq=>(((pairs_ext HP.out (HEW.out.trans hEU)).2 q hq).2))
 have hk1:KeptIn (VisS (fun b=>b<w0.heap.size\/b=BL\/b=BP) (fun b=>N<=b/\b<U1.heap.size) (N+1) (N+1+1) (.slice none 0 0)) (.slice so M sc):=fun g o m c e h0=>by
  cases e
  obtain⟨g',hg'⟩:=own_addr (n:=M - 1) (cap:=sc) (by rw [show M - 1+1=M by omega];exact hO2)
  cases hg'
  have:=hO2.lt g rfl
  exact .inr ⟨⟨by omega,by omega⟩,by omega,by omega,(fun e=>by cases e)⟩
 have hk2:KeptSt (VisS (fun b=>b<w0.heap.size\/b=BL\/b=BP) (fun b=>N<=b/\b<U1.heap.size) (N+1) (N+1+1) (.slice none 0 0)) (startS qs):=fun p hp u hu v x e g o m c e1 h0=>by
  obtain⟨q,hq,rfl⟩:=List.mem_map.1 hp
  obtain⟨_,u1,v1,hq2,ho1,_⟩:=HP.out.2 q hq
  cases hu
  rw [hq2] at e
  simp only [List.getD_cons_zero,List.cons.injEq,and_true] at e
  rw [<-e.1] at e1
  exact .inl (.inl (one_low ho1 g o m c e1 h0))
 have hcall:=visit_any (w:=w) (M:=M) (n0:=N) (xs:=permsF n (List.range n)) (T0:=qs.map fun q=>some q.1.1) (J:=J) (Jx:=Jx) HL.out HN.out hn6 HT.out hMb (by rw [List.length_map,HM.out]) HBB.out (.inr (.inl rfl)) HKNN.out HS.out HJ.out HJX.out (fun O pre x rest A ys=>HY.out O pre x rest A ys) n [] _ [] [] _ U1 so sc (startS qs) (by simp) (fun x hx=>by cases hx) (by rw [vis_all];simp) hv1 hj1 (fun b h=>h) (HTW.out.trans hEU.of) hss (by unfold startS;rw [List.map_map,List.map_map];rfl) hk1 hk2
 have HC:=Lib.hid hcall
 have hS1:=And.intro (hN2.keep hS0.1) (hN2.keep hS0.2)
 clear hcall hk1 hk2 hss hj1 hv1 hEU hzN hsU hz2 hz3 hO2 hN2
 refine hK.out _ _ hS1 (fun _=>?_)
 clear hK K
 try simp only [Act.put,pq]
 refine wpAnyE_ready (rs:=[3]) (by kernel_rfl) (by simp) ?_
 refine AllReadyE.late rfl rfl (fun K hK=>?_) AllReadyE.nil
 (try rw [if_pos (show Region.wanted _ _=true from rfl)])
 go_simp
 refine HC.out.mono ?_
 rintro e U2 ⟨b,rfl,O3,a3,c3,hv3,hob3,ho3,hT3,hvb3,hj3,hjx3⟩
 have HJ3:=Lib.hid hj3;have HJX3:=Lib.hid hjx3
 clear hv3 hob3 ho3 hT3 hvb3 hj3 hjx3 HC
 refine hK.out _ _ ?_
 clear hK K
 try simp only [Act.put,pq]
 refine wpAnyE_done (by kernel_rfl) ?_ _
 clear hS0 hS1
 go_wp2
 refine bodyPost_end (results_none rfl _ _ _) rfl ?_
 cases b with
 | true=>exact⟨⟨_,rfl⟩,O3,.inl (by have:=HJ3.out rfl;rw [List.nil_append,vis_all] at this;exact this)⟩
 | false=>
  obtain⟨q1,x,r1,g1,g2⟩:=HJX3.out rfl
  exact⟨⟨_,rfl⟩,O3,.inr ⟨q1,x,⟨r1,g1⟩,g2⟩⟩
theorem orders_any(lo po:Option Addr)(n lc M pc:Nat)(w:World) :
  Calls Tryz.prog 100 #[.slice lo n lc,.slice po M pc] w fun e w'=>e=.returned (.func (.func 149) #[] #[.pointer (some ⟨w.heap.size,0,none⟩),.pointer (some ⟨w.heap.size+1,0,none⟩)])/\w'.heap[w.heap.size]?=some (.cells #[.slice lo n lc] 26 (0,0))/\w'.heap[w.heap.size+1]?=some (.cells #[.slice po M pc] 61 (0,0))/\Ext w w'/\w'.heap.size=w.heap.size+2:=by
 go_enter Tryz.func100,Tryz.ntmps100
 go_wp2
 go_ret
 exact⟨rfl,new_keep (new_at rfl),new_at (by simp),((Turn.refl _ w).alloc _).alloc _,by simp⟩
end Go.Proofs.YtfdlhlghcbeblaaGreatDoor
