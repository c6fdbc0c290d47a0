/- PLAIN: -/
import Derived.Test.YtfdlhlghcbeblaaGreatDoorY03
set_option maxRecDepth 100000
set_option maxHeartbeats 4000000
namespace Go.Ab
def Ys(a b:Nat):Nat:=a &&& (4294967295 ^^^ b)
theorem Q2s(i:Nat):(4294967295:Nat).testBit i=decide (i<32):=Nat.testBit_two_pow_sub_one 32 i
theorem Ge{a:Nat}(h:a<4294967296){i:Nat}(hi:32<=i):a.testBit i=false:=
 Nat.testBit_lt_two_pow (Nat.lt_of_lt_of_le h (by
  have:=Nat.pow_le_pow_right (show 0<2 by decide) hi
  simpa using this))
theorem V4{a:Nat}(b:Nat)(c:a<4294967296)(i:Nat):(Ys a b).testBit i=(a.testBit i && !b.testBit i):=by
 unfold Ys;rw [Nat.testBit_and,Nat.testBit_xor,Q2s];by_cases d:i<32
 ·simp [d]
 ·rw [Ge c (by omega)];rfl
theorem N9{a:Nat}(h:∀ i,32<=i->a.testBit i=false):a<4294967296:=
 Nat.lt_pow_two_of_testBit (n:=32) a h
theorem Br{a b:Nat}(ha:a<4294967296):Ys a b<4294967296:=N9 fun i hi=>by rw [V4 b ha,Ge ha hi];rfl
def Gn(s f:Nat × Nat)(m:Nat):Nat × Nat:=(Ys s.1 m ||| (f.1 &&& m),Ys s.2 m ||| (f.2 &&& m))
def Q4h(s:Nat × Nat)(f:Nat):Int:=if s.1.testBit f=true then 1 else if s.2.testBit f=true then -1 else 0
def Qb7(s:Nat × Nat)(f:Nat)(v:Int):Nat × Nat:=(Ys s.1 (2 ^ f) ||| (if v=1 then 2 ^ f else 0),Ys s.2 (2 ^ f) ||| (if v=-1 then 2 ^ f else 0))
def Y3(s:Nat × Nat):Prop:=s.1<4294967296/\s.2<4294967296
def okS(s:Nat × Nat):Bool:=Zi s.1 s.2
theorem Q5i{s:Nat × Nat}(f:Nat × Nat)(m:Nat)(a:Y3 s)(i:Nat):(Gn s f m).1.testBit i=if m.testBit i=true then f.1.testBit i else s.1.testBit i:=by
 unfold Gn;simp only [Nat.testBit_or,Nat.testBit_and,V4 m a.1];cases m.testBit i <;> simp
theorem Q4c{s:Nat × Nat}(f:Nat × Nat)(m:Nat)(a:Y3 s)(i:Nat):(Gn s f m).2.testBit i=if m.testBit i=true then f.2.testBit i else s.2.testBit i:=by
 unfold Gn;simp only [Nat.testBit_or,Nat.testBit_and,V4 m a.2];cases m.testBit i <;> simp
theorem Q0l{s f:Nat × Nat}(m:Nat)(hs:Y3 s)(hf:Y3 f):Y3 (Gn s f m):=
 ⟨N9 fun i hi=>by rw [Q5i f m hs,Ge hf.1 hi,Ge hs.1 hi];simp,N9 fun i hi=>by rw [Q4c f m hs,Ge hf.2 hi,Ge hs.2 hi];simp⟩
def Q3u(s c:Nat × Nat):Bool:=c.1 &&& s.1 == c.1 && c.2 &&& s.2 == c.2
theorem Q6p{a b:Nat}:a &&& b=a↔∀ i,a.testBit i=true->b.testBit i=true:=by
 constructor
 ·intro c i d;have:=congrArg (fun x=>x.testBit i) c;simp [d] at this;exact this
 ·intro c;refine Nat.eq_of_testBit_eq fun i=>?_
  rw [Nat.testBit_and];cases h1:a.testBit i
  ·rfl
  ·rw [c i h1];rfl
theorem Pu{a b:Nat}(e:a<4294967296):Ys a b=0↔a &&& b=a:=by
 rw [Q6p];constructor
 ·intro d c f;have:=congrArg (fun x=>x.testBit c) d;simp only [V4 b e,Nat.zero_testBit,f,Bool.true_and] at this
  simpa using this
 ·intro d;refine Nat.eq_of_testBit_eq fun c=>?_
  rw [V4 b e,Nat.zero_testBit];cases h1:a.testBit c
  ·rfl
  ·rw [d c h1];rfl
end Go.Ab
namespace Go.Ab
open Go.RowKit
theorem Q60(a:Nat){b:Nat}(c:b<4294967296):a &&& (4294967295 - b)=Ys a b:=by
 unfold Ys
 congr 1
 refine Nat.eq_of_testBit_eq fun i=>?_
 rw [Nat.testBit_xor,Q2s];have:=Nat.testBit_two_pow_sub_succ (n:=32) (x:=b) c i;rw [show (2 ^ 32 - (b+1):Nat)=4294967295 - b by omega] at this;rw [this];by_cases d:i<32
 ·simp [d]
 ·rw [Ge c oz];simp [d]
theorem Fo(a b:Nat)(d:a<4294967296)(c:b<4294967296):bits .andNot .u32 (a:Int) (b:Int)=((Ys a b:Nat):Int):=by
 rw [u32_andNot_nat a b d c,Q60 a c]
end Go.Ab
namespace Go.Ab
section
variable {α:Type} (H:List α->Nat->Bool) (P:List α->List α) (k:Nat)
def Gm(w:List α)(i:Nat):List α:=w.take i++P ((w.drop i).take k)++w.drop (i+k)
def U6(w:List α):Nat->Nat->List α->List (Nat × List α)
 | 0,_,_=>[]
 | n+1,i,d=>
  if H w i then
   (i,d++P ((w.drop i).take k)++w.drop (i+k))::(if k=0 then U6 w n (i+1) (d++P ((w.drop i).take k)++(w.drop i).take 1) else U6 w n (i+k) (d++P ((w.drop i).take k)))
  else U6 w n (i+1) (d++(w.drop i).take 1)
def U7(m:Nat):Nat->List α->Nat->List (Nat × List α)
 | 0,_,_=>[]
 | n+1,w,i=>
  if w.length<i+k then []
  else if H w i then(i,Gm P k w i)::U7 m n (Gm P k w i) (i+m+(if k=0 then 1 else 0))
  else U7 m n w (i+1)
def Uu:Nat->List α->Nat->List (Nat × List α)
 | 0,_,_=>[]
 | _+1,_,0=>[]
 | n+1,w,i+1=>
  if H w i then(i,Gm P k w i)::Uu n (Gm P k w i) (i+1 - max k 1)
  else Uu n w i
end
def Vi{α:Type}(t:List (Nat × List α)):Bool:=t.any fun x=>decide (32<x.2.length)
def Ej{α:Type}(w:List α)(t:List (Nat × List α)):List α:=(t.map (·.2)).getLastD w
section
variable {α:Type} {H:List α->Nat->Bool} {P:List α->List α} {k m:Nat}
theorem Bb(a:∀ c,c.length=k->(P c).length=m) {w:List α} {i:Nat} (h:i+k<=w.length):(Gm P k w i).length+k=w.length+m:=by
 unfold Gm;rw [List.length_append,List.length_append,List.length_take,List.length_drop,a _ (by rw [List.length_take,List.length_drop];omega)];omega
end
end Go.Ab
namespace Go.Proofs.YtfdlhlghcbeblaaGreatDoor
open Go.RowKit Go.Ab
attribute [local go_sem] Oper.semAt_some Zf Qp
theorem Q02(a b:Nat)(i:a<4294967296)(j:b<4294967296)(w:World) :
  Calls Tryz.prog 109 #[.agg #[.int .u32 (a:Int),.int .u32 (b:Int)]] w fun e w'=>e=.returned (.bool (Zi a b))/\Ext w w':=by
 obtain⟨q,r⟩:=Hj i j;have p:a ||| b<4294967296:=Nat.or_lt_two_pow (n:=32) i j;have d:Zi a b=((a &&& b == 0) && ((a ||| b) / 16777216 == 0)):=rfl;obtain⟨f,l⟩:=zE (a &&& b == 0);obtain⟨c,k⟩:=zE (a ||| b);rw [l] at q d;rw [k] at r d p;have s:((c:Int) / 16777216 == 0)=(c / 16777216 == 0):=by
  apply Bool.eq_iff_iff.2;rw [beq_iff_eq,beq_iff_eq];omega
 obtain⟨o,m⟩:=zE (c / 16777216 == 0);rw [m] at s d;have g:=Zh d;clear d l k m;go_enter Tryz.func109,Tryz.ntmps109;cases f
 ·go_wp2;go_ret;exact⟨by rw [g.out];rfl,(Q1.refl _ _).alloc _⟩
 ·go_wp2;go_ret;exact⟨by rw [g.out];rfl,(Q1.refl _ _).alloc _⟩
def wE(ws:Wd):Int:=if 32<ws.length then 11 else if J1 ws=true then 0 else 14
theorem Wv{w:World}{v:Value}{ws:Wd}(q:Q8 w v ws) :
  Calls Tryz.prog 60 #[v] w fun e w'=>e=.returned (.int .i64 (wE ws))/\Ext w w':=by
 obtain⟨K,L,rfl,F⟩:=q.slice;unfold maxLen at F;have m:=Zh q;clear q;obtain⟨b,k⟩:=zE ws.length;have u:=Zh k;have f:Hid (wE ws=if 32<b then 11 else if J1 ws=true then 0 else 14):=Zh (by unfold wE;rw [k]);rw [k] at F m ⊢;clear k;by_cases A:32<b
 ·rw [if_pos A] at f;have z:(32:Int)<(b:Int):=by omega
  go_enter Tryz.func60,Tryz.ntmps60;go_wp2;go_ret;exact⟨by rw [f.out];rfl,Q1.refl _ _⟩
 rw [if_neg A] at f;have R:¬ (32:Int)<(b:Int):=by omega
 go_enter Tryz.func60,Tryz.ntmps60;go_wp2
 refine wp_loop (fun c n=>∃(a:Nat),a<=b/\c.defers=[]/\gS c [8,9,10]=(18,[.slice K b L,.int .i64 b,.int .i64 a])/\J1 (ws.take a)=true/\Ext w n)
  (fun c _=>b - (intOf (c.tmps.getD 10 undef)).toNat) ?_ ?_
 ·exact⟨0,by omega,rfl,rfl,by simp [J1],Q1.refl _ _⟩
 rintro⟨V,_⟩ n ⟨a,T,M,I,D,j⟩;subst M;obtain⟨W,rfl⟩:=Y6 I;clear I;have s:=Zh D;clear D;by_cases N:a<b
 ·have z:(a:Int)<(b:Int):=by omega
  have l:a<ws.length:=by rw [u.out];exact N
  obtain⟨Q,U,P,E,S,x,y⟩:=(m.out.ext j).at l;simp only [zV] at E;obtain⟨rfl,O,rfl⟩:=E;clear O;obtain⟨G,H⟩:=m.out.2.get a l;obtain⟨c,o⟩:=zE ((ws.getD a (0,0)).1);obtain⟨i,p⟩:=zE ((ws.getD a (0,0)).2);rw [o] at x G;rw [p] at y H;have r:=Zh o;have t:=Zh p;clear o p;go_wp2_with fail;refine(Q02 c i G H _).mono ?_;rintro e J ⟨rfl,C⟩;have B:Ext w J:=j.trans (Q1.trans ((Q1.refl _ n).alloc _) C);clear j C x y;cases hok:Zi c i
  ·have d:J1 ws=false:=Ck l (by rw [r.out,t.out];exact hok);have g:=Zh d;clear d hok;go_wp2;go_ret;exact⟨by rw [f.out,g.out];rfl,B⟩
  ·have d:=P8 l s.out (by rw [r.out,t.out];exact hok);have g:=Zh d;clear d hok;go_wp2;exact⟨⟨a+1,by omega,tz,rfl,g.out,B⟩,nz⟩
 ·obtain rfl:a=b:=by omega
  have z:¬ (a:Int)<(a:Int):=by omega
  have d:J1 ws=true:=by have:=s.out;rwa [List.take_of_length_le (by rw [u.out];exact Nat.le_refl _)] at this
  have g:=Zh d;clear d;go_wp2;go_ret;exact⟨by rw [f.out,g.out];rfl,j⟩
def Qa3(p:Pat)(ws:Wd):Bool:=decide (ws.length<=32) && decide (wE ws=0) && decide (Y8 p=0)
end Go.Proofs.YtfdlhlghcbeblaaGreatDoor
namespace Go.Ab
open Go.RowKit
def Ut{α:Type}(P:Program)(gf:Nat)(lb:Array Value)(M:Nat->Nat->Prop)(E:Nat->(Nat->Prop)->α->World->Array Value->Prop) (xs:List α) (K:Nat->Prop) (w:World):Prop:=
 ∀(l:Nat) (J Jx:(Nat->Prop)->List α->World->Prop) (W:World),Q1 (fun b=>¬ K b) w W ->
  (∀ O O' pre A B,J O pre A->Q1 (fun b=>O b/\M W.heap.size b) A B->(∀ b,O' b->(O b\/A.heap.size<=b)/\b<B.heap.size)->J O' pre B) ->
  (∀ O O' pre A B,Jx O pre A->Q1 (fun b=>O b/\M W.heap.size b) A B->(∀ b,O' b->(O b\/A.heap.size<=b)/\b<B.heap.size)->Jx O' pre B) ->
  (∀ O pre x rest A ys,xs=pre++x::rest->J O pre A->E W.heap.size O x A ys->YieldAt Fence.wide 0 P l ys A fun e B=>
   (e=.returned (.bool true)/\J O (pre++[x]) B/\Q1 (fun b=>¬ K b/\¬ O b) A B)\/(e=.returned (.bool false)/\Jx O (pre++[x]) B/\Q1 (fun b=>¬ K b/\¬ O b) A B)) ->
  J (fun _=>False) [] W ->
  Calls P gf (#[.func (.yield l) #[] #[]]++lb) W fun e B=>(∃ v,e=.returned v)/\∃ O,(J O xs B\/∃ pre x rest,xs=pre++x::rest/\Jx O (pre++[x]) B)
theorem Xu{α:Type}{P:Program}{g:Operand}{ps:Array Tmp}{assign body:Code}{Q:Exit->Act->World->Prop}{a:Act}{w:World}
  {gf:Nat} {lb:Array Value} (c9:a.eval g=.func (.func gf) #[] lb) (b7:∀ args w,(callFunc gf args).run P w=.ok (.enter gf args) w)
  {M:Nat->Nat->Prop} {E:Nat->(Nat->Prop)->α->World->Array Value->Prop} {xs:List α} {K:Nat->Prop} (d2:Ut P gf lb M E xs K w) (b1:∀ b,K b->b<w.heap.size) (d1:∀ n O x A ys,E n O x A ys->ys.size=ps.size)
  (c1:∀ n O x A B ys,E n O x A ys->Q1 (fun b=>b=w.heap.size+1) A B->(∃ o,A.heap[w.heap.size+1]?=some o/\o.isCells=false)->E n O x B ys)
  (I:(Nat->Prop)->List α->World->Prop) (J:Code->(Nat->Prop)->List α->World->Prop)
  (Y:∀ O O' pre A B,I O pre A->(∀ b,O b->w.heap.size+2<=b/\b<A.heap.size)->Q1 (fun b=>(O b/\M (w.heap.size+2) b)\/b=w.heap.size+1) A B->(∀ b,O' b->(O b\/A.heap.size<=b)/\b<B.heap.size)->I O' pre B)
  (R:∀ c O O' pre A B,J c O pre A->(∀ b,O b->w.heap.size+2<=b/\b<A.heap.size)->Q1 (fun b=>(O b/\M (w.heap.size+2) b)\/b=w.heap.size+1) A B->(∀ b,O' b->(O b\/A.heap.size<=b)/\b<B.heap.size)->J c O' pre B)
  (b8:∀ W,Ext w W->W.heap.size=w.heap.size+2->I (fun _=>False) [] W) (b6:Array Value->Array Value->Array Value)
  (c3:∀(n:Nat) (O:Nat->Prop) (x:α) (ys:Array Value) (W:World) (Kn:Act->World->Prop),E n O x W ys->Kn { tmps:=b6 ys a.tmps,defers:=[] } W ->
   assign.wpIn (Fence.wide.inRound (w.heap.size+1)) 0 P (Exit.then Kn (fun _ _ _=>False)) { tmps:=(ps.zip ys).foldl (fun t (p,v)=>t.setIfInBounds p v) a.tmps,defers:=[] } W)
  (c4:∀(O:Nat->Prop) (pre:List α) (x:α) (rest:List α) (ys:Array Value) (W:World),xs=pre++x::rest->w.heap.size+2<=W.heap.size->(∀ b,O b->w.heap.size+2<=b/\b<W.heap.size)->Q1 (fun b=>¬ K b) w W->I O pre W->E (w.heap.size+2) O x W ys ->
   body.wpIn (Fence.wide.inRound (w.heap.size+1)) 0 P (Tl (fun b=>K b\/O b\/b=w.heap.size\/b=w.heap.size+1) (I O) (fun c=>J c O) (pre++[x]) W) { tmps:=b6 ys a.tmps,defers:=[] } W)
  (c7:∀ O W,I O xs W->(∀ b,O b->w.heap.size+2<=b/\b<W.heap.size)->Q1 (fun b=>¬ K b) w W->W.heap[w.heap.size]?=some (.deferred (some []))->Q .normal { a with defers:={ target:=.collected w.heap.size,args:=#[] }::a.defers } W)
  (d3:∀ c O pre x rest W,xs=pre++x::rest->J c O (pre++[x]) W->W.heap[w.heap.size]?=some (.deferred (some []))->c.wp P Q { a with defers:={ target:=.collected w.heap.size,args:=#[] }::a.defers } W) :
  (Code.rangeFunc g ps assign body).wp P Q a w:=by
 refine(wpIn_wide (n:=0)).1 (wpIn_rangeFunc ?_);intro fn _;obtain⟨e,s⟩:∃ e:LoopState->Option Code->Loop,e=fun st pe=>{ state:=st,pending:=pe,fn,tmps:=a.tmps,params:=ps,assign,body,defers:=w.heap.size }:=⟨_,rfl⟩;obtain⟨q,S⟩:=zE ((w.alloc (.deferred (some []))).alloc (.loop (e .ready none)));have c2:q.heap[w.heap.size+1]?=some (.loop (e .ready none)):=by
  rw [<-S];have:=World.alloc_heap_new (w.alloc (.deferred (some []))) (.loop (e .ready none));rwa [World.size_alloc] at this
 have c0:q.heap[w.heap.size]?=some (.deferred (some [])):=by
  rw [<-S];exact(Below.heap_alloc _ _ _ zy).trans (World.alloc_heap_new w _)
 have a7:Ext w q:=by rw [<-S];exact((Q1.refl _ w).alloc _).alloc _
 have a1:q.heap.size=w.heap.size+2:=by rw [<-S];simp
 have D:∀(O:Nat->Prop) (X:World) o,Q1 (fun b=>(O b/\M (w.heap.size+2) b)\/b=w.heap.size+1) X (X.putObj (w.heap.size+1) o):=fun O X o=>(Q1.refl _ X).putObj (.inr (.inr rfl)) o;have b5:∀(X:World) o,Q1 (fun b=>¬ K b) X (X.putObj (w.heap.size+1) o):=fun X o=>(Q1.refl _ X).putObj (.inr (fun hk=>by have:=b1 _ hk;omega)) o
 refine⟨w.heap.size+1,[{ target:=.collected w.heap.size,args:=#[] }],q,{ target:=.fn (.func gf) lb,args:=#[.func (.yield (w.heap.size+1)) #[] #[]] },q,gf,
  #[.func (.yield (w.heap.size+1)) #[] #[]]++lb,q,?_,?_,fun _ _=>trivial,?_,fun h=>by simp [Fence.wide] at h,?_⟩
 ·rw [<-S,s];exact run_enterLoop_outer _ _ _ _ _
 ·simp only [resolve,c9];simp [go_sem]
 ·simp [invoke,go_sem,b7]
 ·refine callsIn_wide.2 ((d2 (w.heap.size+1)
   (fun O pre W=>I O pre W/\(∀ b,O b->w.heap.size+2<=b/\b<W.heap.size)/\W.heap[w.heap.size+1]?=some (.loop (e .ready none))/\W.heap[w.heap.size]?=some (.deferred (some []))/\Q1 (fun b=>¬ K b) w W/\w.heap.size+2<=W.heap.size)
   (fun O pre W=>∃ c,J c O pre W/\(∀ b,O b->w.heap.size+2<=b/\b<W.heap.size)/\W.heap[w.heap.size+1]?=some (.loop (e .done (some c)))/\W.heap[w.heap.size]?=some (.deferred (some []))/\w.heap.size+2<=W.heap.size)
   q a7.of ?_ ?_ ?_ ⟨b8 _ a7 a1,fun b hb=>hb.elim,c2,c0,a7.of,by omega⟩).mono ?_)
  ·rintro O O' pre A B ⟨a2,r,a3,a4,b9,N⟩ f j;rw [a1] at f;refine⟨Y _ _ _ _ _ a2 r (f.mono fun b _ hb=>.inl hb) j,fun b hb=>?_,f.heap a3 (fun hb=>?_),f.heap a4 (fun hb=>?_),b9.after f (fun b b3 hb=>?_),Nat.le_trans N f.size⟩
   ·obtain⟨a5,a6⟩:=j b hb;exact⟨a5.elim (fun h=>(r b h).1) (fun h=>Nat.le_trans N h),a6⟩
   ·have:=(r _ hb.1).1;omega
   ·have:=(r _ hb.1).1;omega
   ·have:=(r _ hb.1).1;omega
  ·rintro O O' pre A B ⟨c,a2,r,a3,a4,N⟩ f j;rw [a1] at f;refine⟨c,R _ _ _ _ _ _ a2 r (f.mono fun b _ hb=>.inl hb) j,fun b hb=>?_,f.heap a3 (fun hb=>?_),f.heap a4 (fun hb=>?_),Nat.le_trans N f.size⟩
   ·obtain⟨a5,a6⟩:=j b hb;exact⟨a5.elim (fun h=>(r b h).1) (fun h=>Nat.le_trans N h),a6⟩
   ·have:=(r _ hb.1).1;omega
   ·have:=(r _ hb.1).1;omega
  ·rintro O pre x rest W ys a8 ⟨U,j,z,T,f,G⟩ a0;rw [a1] at a0;have b3:w.heap.size+1<W.heap.size:=by omega
   have a9:=run_yield (P:=P) (args:=ys) z (by rw [s];exact d1 _ _ x _ _ a0);rw [s] at a9;refine⟨fn,_,assign,body,a9,roundIn_of_wpIn trivial (c3 _ _ x ys W _ a0 ?_)⟩;clear a9;refine⟨_,run_beginRound z (by rw [s]),?_⟩;have d0:(W.putObj (w.heap.size+1) (.loop { e .ready none with state:=.busy })).heap[w.heap.size+1]?=some (.loop { e .ready none with state:=.busy }):=World.putObj_heap_same b3;have c5:(W.putObj (w.heap.size+1) (.loop { e .ready none with state:=.busy })).heap[w.heap.size]?=some (.deferred (some [])):=(World.putObj_heap_other oz).trans T;have Z:∀ b,O b->w.heap.size+2<=b/\b<(W.putObj (w.heap.size+1) (.loop { e .ready none with state:=.busy })).heap.size:=fun b hb=>by simpa using j b hb
   have c8:E (w.heap.size+2) O x (W.putObj (w.heap.size+1) (.loop { e .ready none with state:=.busy })) ys:=c1 _ _ _ _ _ _ a0 ((Q1.refl (fun b=>b=w.heap.size+1) W).putObj (.inr rfl) _) ⟨_,z,rfl⟩;refine wpIn_mono (c4 O pre x rest ys _ a8 (by simpa using G) Z (f.trans (b5 W _)) (Y _ _ _ _ _ U j (D O W _) (fun b hb=>⟨.inl hb,(Z b hb).2⟩)) c8) ?_
   have V:∀(jump:Option Code) (d:World),Q1 (fun b=>¬ (K b\/O b\/b=w.heap.size\/b=w.heap.size+1)) (W.putObj (w.heap.size+1) (.loop { e .ready none with state:=.busy })) d ->
     (Instr.endRound (w.heap.size+1) jump).run P d=.ok (.bool jump.isNone) (d.putObj (w.heap.size+1) (.loop (e (if jump.isNone then .ready else .done) jump))) /\
     (d.putObj (w.heap.size+1) (.loop (e (if jump.isNone then .ready else .done) jump))).heap[w.heap.size+1]?=some (.loop (e (if jump.isNone then .ready else .done) jump)) /\
     (d.putObj (w.heap.size+1) (.loop (e (if jump.isNone then .ready else .done) jump))).heap[w.heap.size]?=some (.deferred (some [])) /\
     Q1 (fun b=>¬ K b/\¬ O b) W (d.putObj (w.heap.size+1) (.loop (e (if jump.isNone then .ready else .done) jump)))/\(∀ b,O b->w.heap.size+2<=b/\b<d.heap.size):=fun jump d k=>by
    have b2:=k.heap d0 (fun h=>h (.inr (.inr (.inr rfl))));have c6:=k.heap c5 (fun h=>h (.inr (.inr (.inl rfl))));have:=run_endRound (P:=P) jump b2;rw [s] at this ⊢;have b4:¬ K (w.heap.size+1)/\¬ O (w.heap.size+1):=⟨fun hk=>by have:=b1 _ hk;omega,fun ho=>by have:=(j _ ho).1;omega⟩;refine⟨this,World.putObj_heap_same (Array.getElem?_eq_some_iff.1 b2).1,(World.putObj_heap_other oz).trans c6,?_,fun b hb=>⟨(Z b hb).1,Nat.lt_of_lt_of_le (Z b hb).2 k.size⟩⟩;exact(((Q1.refl _ W).putObj (.inr b4) _).trans (k.mono fun b _ hb=>⟨fun hk=>hb (.inl hk),fun ho=>hb (.inr (.inl ho))⟩)).putObj (.inr b4) _
   rintro b0 d4 d H;cases b0 with
   | normal=>
    obtain⟨k,y⟩:=H;obtain⟨F,C,u,l,m⟩:=V none d k;have i:∀ o b,O b->w.heap.size+2<=b/\b<(d.putObj (w.heap.size+1) o).heap.size:=fun o b hb=>by simpa using m b hb
    exact⟨_,_,F,.inl ⟨rfl,⟨Y _ _ _ _ _ y m (D O d _) (fun b hb=>⟨.inl hb,(i _ b hb).2⟩),i _,C,u,f.trans (l.mono fun b _ hb=>hb.1),Nat.le_trans G l.size⟩,l⟩⟩
   | ret=>
    obtain⟨k,y⟩:=H;obtain⟨F,C,u,l,m⟩:=V (some .ret) d k;have i:∀ o b,O b->w.heap.size+2<=b/\b<(d.putObj (w.heap.size+1) o).heap.size:=fun o b hb=>by simpa using m b hb
    exact⟨_,_,F,.inr ⟨rfl,⟨.ret,R _ _ _ _ _ _ y m (D O d _) (fun b hb=>⟨.inl hb,(i _ b hb).2⟩),i _,C,u,Nat.le_trans G l.size⟩,l⟩⟩
   | exit id=>
    obtain⟨k,y⟩:=H;obtain⟨F,C,u,l,m⟩:=V (some (.exit id)) d k;have i:∀ o b,O b->w.heap.size+2<=b/\b<(d.putObj (w.heap.size+1) o).heap.size:=fun o b hb=>by simpa using m b hb
    exact⟨_,_,F,.inr ⟨rfl,⟨.exit id,R _ _ _ _ _ _ y m (D O d _) (fun b hb=>⟨.inl hb,(i _ b hb).2⟩),i _,C,u,Nat.le_trans G l.size⟩,l⟩⟩
   | goto t=>
    obtain⟨k,y⟩:=H;obtain⟨F,C,u,l,m⟩:=V (some (.goto t)) d k;have i:∀ o b,O b->w.heap.size+2<=b/\b<(d.putObj (w.heap.size+1) o).heap.size:=fun o b hb=>by simpa using m b hb
    exact⟨_,_,F,.inr ⟨rfl,⟨.goto t,R _ _ _ _ _ _ y m (D O d _) (fun b hb=>⟨.inl hb,(i _ b hb).2⟩),i _,C,u,Nat.le_trans G l.size⟩,l⟩⟩
   | panic ch=>exact H.elim
   | outgrown=>exact H.elim
  ·rintro b0 L ⟨⟨v,rfl⟩,O,(⟨U,j,z,T,f,G⟩ | ⟨pre,x,rest,a8,c,U,j,z,T,G⟩)⟩
   ·refine⟨none,_,by have:=run_endLoop (P:=P) z (by rw [s];simp);rw [s] at this;exact this,?_⟩;have i:∀ o b,O b->w.heap.size+2<=b/\b<(L.putObj (w.heap.size+1) o).heap.size:=fun o b hb=>by simpa using j b hb
    exact c7 O _ (Y _ _ _ _ _ U j (D O L _) (fun b hb=>⟨.inl hb,(i _ b hb).2⟩)) (i _) (f.trans (b5 L _)) ((World.putObj_heap_other oz).trans T)
   ·refine⟨some c,_,by have:=run_endLoop (P:=P) z (by rw [s];simp);rw [s] at this;exact this,?_⟩;have i:∀ o b,O b->w.heap.size+2<=b/\b<(L.putObj (w.heap.size+1) o).heap.size:=fun o b hb=>by simpa using j b hb
    exact(wpIn_wide (n:=0)).2 (d3 c O pre x rest _ a8 (R _ _ _ _ _ _ U j (D O L _) (fun b hb=>⟨.inl hb,(i _ b hb).2⟩)) ((World.putObj_heap_other oz).trans T))
end Go.Ab
namespace Go.Ab
open Go.RowKit
section
variable {P:Program} {ops:Array Oper} {Q:Exit->Act->World->Prop} {md:Region.Mode} {S:World->Prop} {Lt:List Nat}
def Kx(md:Region.Mode)(ops:Array Oper)(listed:Array Bool):Prop:=
 ∀ k o,ops[k]?=some o->listed.getD k false=true->∀ e∈o.after,Region.binds md e=true->listed.getD e.on false=true
def Gu(md:Region.Mode)(ops:Array Oper)(i:Nat):Nat->Nat->Bool
 | 0,_=>false
 | f+1,k=>match ops[k]? with
  | some o=>o.after.toList.any fun e=>Region.binds md e && (e.on == i || Gu md ops i f e.on)
  | none=>false
theorem Fc{listed:Array Bool}{i:Nat}(hc:Kx md ops listed)(hi:listed.getD i false=false):∀(f k:Nat),Gu md ops i f k=true->listed.getD k false=false/\¬ k∈Region.ready md ops listed
 | 0,_,h=>by cases h
 | f+1,k,h=>by
  unfold Gu at h;cases ho:ops[k]? with
  | none=>rw [ho] at h;cases h
  | some o=>
   rw [ho] at h;obtain⟨e,he,hb⟩:=List.any_eq_true.1 h;rw [Bool.and_eq_true,Bool.or_eq_true,beq_iff_eq] at hb;have he':e∈o.after:=by simpa using he
   have hon:listed.getD e.on false=false:=by
    rcases hb.2 with h1 | h1
    ·rw [h1];exact hi
    ·exact(Fc hc hi f e.on h1).1
   constructor
   ·cases hk:listed.getD k false with
    | false=>rfl
    | true=>rw [hc k o ho hk e he' hb.1] at hon;cases hon
   ·intro hr;obtain⟨_,o',ho',hall⟩:=mem_ready.1 hr;rw [ho] at ho';cases ho';rw [hall e he' hb.1] at hon;cases hon
theorem Kx.step{a:Array Bool}{j:Nat}(m:Kx md ops a)(n:j∈Region.ready md ops a):Kx md ops (a.setIfInBounds j true):=by
 intro k o g e b d c;refine getD_set_true ?_;by_cases f:k=j
 ·subst f;obtain⟨_,p,i,l⟩:=mem_ready.1 n;rw [g] at i;cases i;exact l b d c
 ·rw [getD_set_ne false (Ne.symm f)] at e;exact m k o g e b d c
def Qj(P:Program)(md:Region.Mode)(ops:Array Oper)(Q:Exit->Act->World->Prop)(S:World->Prop)(Lt:List Nat):Nat->Array Bool->Act->World->Prop
 | 0,listed,a,w=>Region.ready md ops listed=[]/\Q .normal a w
 | fuel+1,listed,a,w=>
  (Region.ready md ops listed=[]->Q .normal a w) /\
  ∀ i∈Region.ready md ops listed,wpOp P ops Q i (fun a' w'=>(Lt.contains i=false->S w')/\Qj P md ops Q S Lt fuel (listed.setIfInBounds i true) a' w') a w
theorem Gp:∀(fuel:Nat) (listed:Array Bool) (a:Act) (w:World),Qj P md ops Q S Lt fuel listed a w->wpAny P md ops Q fuel listed a w
 | 0,_,_,_,h=>h
 | fuel+1,_,_,_,h=>⟨h.1,fun i hi=>wpOp_mono (fun a' w' h'=>Gp fuel _ a' w' h'.2) (h.2 i hi)⟩
theorem Td{i:Nat}{g:Oper}{v:Value}(r:ops[i]?=some g)(B:∀(j:Nat) (o:Oper) cs b,ops[j]?=some o->o.op≠.select cs b)
  (D:∀ c a w,Q (.panic c) (a.put g.dst v) w->Q (.panic c) a w) (H:∀ j,Lt.contains j=true->Gu md ops i ops.size j=true) :
  ∀(fuel:Nat) (listed:Array Bool) (a:Act) (w:World),Kx md ops listed ->
   (∀ j oj,ops[j]?=some oj->j≠i->listed.getD j true=false->(∀ e∈oj.after,Region.binds md e=true->e.on≠i)->g.apart ops oj=true) ->
   i∈Region.ready md ops listed->YieldsIf P ops S g v a->S w ->
   Qj P md ops Q S Lt fuel (listed.setIfInBounds i true) (a.put g.dst v) w->Qj P md ops Q S Lt (fuel+1) listed a w:=by
 intro fuel
 induction fuel with
 | zero=>
  intro listed a w _ _ f p m l;refine⟨fun h=>(by rw [h] at f;cases f),fun j hj=>?_⟩;by_cases d:j=i
  ·subst d;exact p.wpOp r m ⟨fun _=>m,l⟩
  ·have:=ready_mono hj d;rw [l.1] at this;cases this
 | succ fuel ih=>
  intro listed a w u x f p m l;refine⟨fun h=>(by rw [h] at f;cases f),fun j hj=>?_⟩;by_cases d:j=i
  ·subst d;exact p.wpOp r m ⟨fun _=>m,l⟩
  ·have n:=l.2 j (ready_mono hj d);have y:listed.getD i false=false:=by
    have t:=(mem_ready.1 f).1;rcases Nat.lt_or_ge i listed.size with q | q
    ·simp [q] at t ⊢;exact t
    ·simp [Array.getElem?_eq_none q]
   have F:Lt.contains j=false:=by
    cases hl:Lt.contains j with
    | false=>rfl
    | true=>exact absurd hj (Fc u y _ _ (H j hl)).2
   obtain⟨A,oj,s,E⟩:=mem_ready.1 hj
   have I:∀ e∈oj.after,Region.binds md e=true->e.on≠i:=fun e he hb heq=>by
    have n:=E e he hb;rw [heq,y] at n;cases n
   have C:=wpOp_putIf s (x j oj s d A I) (fun cs b=>B i g cs b r) (fun cs b=>B j oj cs b s) D p n
   have G:∀ k ok,ops[k]?=some ok->k≠i->(listed.setIfInBounds j true).getD k true=false ->
     (∀ e∈ok.after,Region.binds md e=true->e.on≠i)->g.apart ops ok=true:=fun k ok hk hki hun hno=>by
    refine x k ok hk hki ?_ hno;by_cases z:j=k
    ·subst z;exact A
    ·rw [getD_set_ne true z] at hun;exact hun
   refine wpOp_mono (fun a' w' h3=>⟨h3.2.1,ih (listed.setIfInBounds j true) a' w' (u.step hj) G (ready_mono f (Ne.symm d)) h3.1 (h3.2.1 F) ?_⟩) C;rw [Array.setIfInBounds_comm _ _ d];exact h3.2.2
def Wm(md:Region.Mode)(ops:Array Oper)(listed:Array Bool):Bool:=
 (List.range ops.size).all fun k=>!listed.getD k false || match ops[k]? with
  | some o=>o.after.toList.all fun e=>!Region.binds md e || listed.getD e.on false
  | none=>true
theorem Fb{d:Array Bool}(h:Wm md ops d=true):Kx md ops d:=by
 intro j k c i e g f;have a:=List.all_eq_true.1 h j (List.mem_range.2 (Array.getElem?_eq_some_iff.1 c).1);rw [i,c] at a;simp only [Bool.not_true,Bool.false_or] at a;have b:=List.all_eq_true.1 a e (by simpa using g);rw [f] at b
 simpa using b
theorem W8{i:Nat}{oi:Oper}{v:Value}{fuel:Nat}{listed:Array Bool}{a:Act}{w:World}(hi:ops[i]?=some oi)
  (hs:Region.noSelect ops=true) (hf:Region.free md ops listed i=true) (hr:(Region.ready md ops listed).contains i=true) (hc:Wm md ops listed=true) (hl:(Lt.all fun j=>Gu md ops i ops.size j)=true)
  (hQ:∀ c a w,Q (.panic c) (a.put oi.dst v) w->Q (.panic c) a w) (hy:YieldsIf P ops S oi v a) (hS:S w)
  (h:Qj P md ops Q S Lt fuel (listed.setIfInBounds i true) (a.put oi.dst v) w):Qj P md ops Q S Lt (fuel+1) listed a w:=
 Td hi (Region.noSelect_spec hs) hQ (fun j hj=>List.all_eq_true.1 hl j (by simpa using hj)) fuel listed a w (Fb hc) (Region.free_spec hi hf) (by simpa using hr) hy hS h
theorem tkE{i d:Nat}{oi:Oper}{v:Value}{fuel:Nat}{listed:Array Bool}{a:Act}{w:World}(hi:ops[i]?=some oi)
  (hy:YieldsIf P ops S oi v a) (hS:S w) (h:Qj P md ops Q S Lt fuel (listed.setIfInBounds i true) (a.put (some d) v) w)
  (hs:Region.noSelect ops=true:=by kernel_rfl) (hf:Region.free md ops listed i=true:=by kernel_rfl) (hr:(Region.ready md ops listed).contains i=true:=by kernel_rfl) (hc:Wm md ops listed=true:=by kernel_rfl) (hl:(Lt.all fun j=>Gu md ops i ops.size j)=true:=by kernel_rfl) (hd:oi.dst=some d:=by rfl)
  (hQ:∀ c a w,Q (.panic c) (a.put (some d) v) w->Q (.panic c) a w:=by exact fun _ _ _ h=>h):Qj P md ops Q S Lt (fuel+1) listed a w:=
 W8 hi hs hf hr hc hl (by rw [hd];exact hQ) hy hS (by rw [hd];exact h)
theorem tE(i d:Nat){oi:Oper}{v:Value}{fuel:Nat}{listed:Array Bool}{a a':Act}{w:World}
  (hS:S w) (h:Qj P md ops Q S Lt fuel (listed.setIfInBounds i true) a' w) (hi:ops[i]?=some oi:=by exact rfl)
  (hy:YieldsIf P ops S oi v a:=by(exact Or.inl ⟨by rfl,by(intro w hSw;(try dsimp only at hSw);go_simp;try with_reducible rfl)⟩)) (ha:a.put (some d) v=a':=by((try simp only [Act.put,pq]);exact rfl))
  (hs:Region.noSelect ops=true:=by kernel_rfl) (hf:Region.free md ops listed i=true:=by kernel_rfl) (hr:(Region.ready md ops listed).contains i=true:=by kernel_rfl) (hc:Wm md ops listed=true:=by kernel_rfl) (hl:(Lt.all fun j=>Gu md ops i ops.size j)=true:=by kernel_rfl) (hd:oi.dst=some d:=by rfl)
  (hQ:∀ c a w,Q (.panic c) (a.put (some d) v) w->Q (.panic c) a w:=by exact fun _ _ _ h=>h):Qj P md ops Q S Lt (fuel+1) listed a w:=
 W8 hi hs hf hr hc hl (by rw [hd];exact hQ) hy hS (by rw [hd,ha];exact h)
def Q2(P:Program)(md:Region.Mode)(ops:Array Oper)(Q:Exit->Act->World->Prop)(S:World->Prop)(Lt:List Nat)(fuel:Nat)(listed:Array Bool)(a:Act)(w:World)(rs:List Nat):Prop:=
 ∀ i∈rs,wpOp P ops Q i (fun a' w'=>(Lt.contains i=false->S w')/\Qj P md ops Q S Lt fuel (listed.setIfInBounds i true) a' w') a w
theorem Q2.nil{fuel:Nat}{listed:Array Bool}{a:Act}{w:World}:Q2 P md ops Q S Lt fuel listed a w []:=fun _ h=>by cases h
theorem Q2.cons{fuel:Nat}{listed:Array Bool}{a:Act}{w:World}{i:Nat}{o:Oper}{rs:List Nat}(ho:ops[i]?=some o)
  (h:∀ K':Act->World->Prop,Go.Shut (∀ a w,S w->(S w->Qj P md ops Q S Lt fuel (listed.setIfInBounds i true) a w)->K' a w)->if Region.wanted o (yielded ops a.tmps)=true then Oper.wp P o a w K' Q else K' (a.put o.dst undef) w)
  (hs:Q2 P md ops Q S Lt fuel listed a w rs):Q2 P md ops Q S Lt fuel listed a w (i::rs):=fun j hj=>by
 rcases List.mem_cons.1 hj with rfl | hj
 ·exact wpOp_step ho (fun K' hK=>h K' (fun a w hS hW=>hK a w ⟨fun _=>hS,hW hS⟩))
 ·exact hs j hj
theorem Q2.late{fuel:Nat}{listed:Array Bool}{a:Act}{w:World}{i:Nat}{o:Oper}{rs:List Nat}(ho:ops[i]?=some o)(hl:Lt.contains i=true)
  (h:∀ K':Act->World->Prop,Go.Shut (∀ a w,Qj P md ops Q S Lt fuel (listed.setIfInBounds i true) a w->K' a w)->if Region.wanted o (yielded ops a.tmps)=true then Oper.wp P o a w K' Q else K' (a.put o.dst undef) w)
  (hs:Q2 P md ops Q S Lt fuel listed a w rs):Q2 P md ops Q S Lt fuel listed a w (i::rs):=fun j hj=>by
 rcases List.mem_cons.1 hj with rfl | hj
 ·exact wpOp_step ho (fun K' hK=>h K' (fun a w hW=>hK a w ⟨fun q=>(by rw [hl] at q;cases q),hW⟩))
 ·exact hs j hj
theorem Sj{rs:List Nat}{fuel:Nat}{listed:Array Bool}{a:Act}{w:World}(hr:Region.ready md ops listed=rs)(hne:rs≠[])
  (h:Q2 P md ops Q S Lt fuel listed a w rs):Qj P md ops Q S Lt (fuel+1) listed a w:=⟨fun h0=>absurd (hr ▸ h0) hne,hr ▸ h⟩
theorem rE(rs:List Nat){fuel:Nat}{listed:Array Bool}{a:Act}{w:World}(h:Q2 P md ops Q S Lt fuel listed a w rs)
  (hr:Region.ready md ops listed=rs:=by kernel_rfl) (hne:rs≠[]:=by simp):Qj P md ops Q S Lt (fuel+1) listed a w:=Sj hr hne h
theorem Qm{listed:Array Bool}{a:Act}{w:World}(hr:Region.ready md ops listed=[])(h:Q .normal a w) :
  ∀ fuel,Qj P md ops Q S Lt fuel listed a w
 | 0=>⟨hr,h⟩
 | _+1=>⟨fun _=>h,by rw [hr];simp⟩
theorem Z5{id:Nat}{a:Act}{w:World}(Lt:List Nat)(hm:P.follows .mixedOrders=true)(hS:S w.drew)
  (h:S w.drew->Qj P .any ops Q S Lt ops.size (Array.replicate ops.size false) a w.drew):(Code.region id ops true).wp P Q a w:=
 wp_region_any hm (Gp _ _ _ _ (h hS))
theorem V0{id l n:Nat}{a:Act}{w:World}(Lt:List Nat)(hm:P.follows .mixedOrders=true)(hd:J4 ops=true)(hQ:¬ LetsOut Q)(hS:S w.drew)
  (h:S w.drew->Qj P .any ops Q S Lt ops.size (Array.replicate ops.size false) a w.drew):(Code.region id ops true).wpIn (Fence.wide.inRound l) n P Q a w:=
 V6 hm hd hQ (Gp _ _ _ _ (h hS))
end
end Go.Ab
namespace Go.Proofs.YtfdlhlghcbeblaaGreatDoor
open Go.RowKit Go.Ab
mutual
def Q99:Pat->Nat
 | .node _ _ _ _ _ _ l=>Q8f l+1
def Q8f:List Pat->Nat
 | []=>0
 | p::l=>Q99 p+Q8f l
end
mutual
def Mc:Pat->Bool
 | .node k _ _ _ mn _ l=>if k=0 then true else if k=3 then Q7g l else if k=4 then Q7m l else if k=5 then mn == 0 || Q90 l else false
def Q7g:List Pat->Bool
 | []=>true
 | p::l=>Mc p && Q7g l
def Q7m:List Pat->Bool
 | []=>false
 | p::l=>Mc p || Q7m l
def Q90:List Pat->Bool
 | []=>false
 | p::_=>Mc p
end
def Q9r(p:Pat):Bool:=decide (Y8 p=0) && Mc p
end Go.Proofs.YtfdlhlghcbeblaaGreatDoor
namespace Go.Ab
def Q91(n:Nat):List Int:=(List.range n).map fun(i:Nat)=>(i:Int)
def Q9e(F:List Int):Bool:=decide (F=Q91 F.length)
def Q8k(F:List Int):Bool:=(List.range F.length).all fun i=>F.contains (i:Int)
def Qa2(F:List Int):Int:=if Q9e F=true then 1 else if Q8k F=true then 4 else 5
end Go.Ab
namespace Go.Ab
open Go.RowKit
def Z7(L:List Int):List Value:=L.map fun x=>Value.int .i64 x
theorem H8(L:List Int){i:Nat}(h:i<L.length):(Z7 L)[i]?=some (.int .i64 (L.getD i 0)):=by
 unfold Z7;rw [List.getElem?_map,List.getElem?_eq_getElem h,List.getD_eq_getElem?_getD,List.getElem?_eq_getElem h];rfl
theorem Dc(L:List Int)(i:Nat)(x:Int):(Z7 L).set i (.int .i64 x)=Z7 (L.set i x):=by unfold Z7;rw [List.map_set]
theorem Bn(L:List Int)(x:Int):Z7 (L++[x])=Z7 L++[.int .i64 x]:=by simp [Z7]
def Q9k(L:List Int):Bool:=decide (∀ i,i<L.length->i+1<L.length->L.getD i 0<=L.getD (i+1) 0)
theorem Tp{L:List Int}(h:∀ p q,p<q->q<L.length->L.getD p 0<=L.getD q 0):L.Pairwise (·<=·):=by
 rw [List.pairwise_iff_getElem];intro d e b a c;have:=h d e c a
 rwa [List.getD_eq_getElem?_getD,List.getElem?_eq_getElem b,List.getD_eq_getElem?_getD,List.getElem?_eq_getElem a] at this
def Vv(X:List Int)(j:Nat):List Int:=(X.set (j+1) (X.getD j 0)).set j (X.getD (j+1) 0)
theorem Po(X:List Int){j:Nat}(h:j+1<X.length)(k:Nat):(Vv X j).getD k 0=if k=j then X.getD (j+1) 0 else if k=j+1 then X.getD j 0 else X.getD k 0:=by
 unfold Vv;rw [List.getD_eq_getElem?_getD,List.getElem?_set];by_cases a:j=k
 ·subst a;rw [if_pos rfl,if_pos rfl,List.length_set,if_pos oz];rfl
 ·rw [if_neg a,if_neg (fun e=>a e.symm),List.getElem?_set];by_cases b:j+1=k
  ·subst b;rw [if_pos rfl,if_pos rfl,if_pos h];rfl
  ·rw [if_neg b,if_neg (fun e=>b e.symm),List.getD_eq_getElem?_getD]
theorem Eb(X:List Int){j:Nat}(h:j+1<X.length):(Vv X j).Perm X:=by
 have a:X.getD j 0=X[j]:=by rw [List.getD_eq_getElem?_getD,List.getElem?_eq_getElem oz];rfl
 have b:X.getD (j+1) 0=X[j+1]:=by rw [List.getD_eq_getElem?_getD,List.getElem?_eq_getElem h];rfl
 unfold Vv;rw [a,b];exact List.set_set_perm h (show j<X.length by omega)
def Kt(X:List Int)(i j:Nat):Prop:=∀ p q,p<q->q<=i->q≠j->X.getD p 0<=X.getD q 0
theorem Kt.start{X:List Int}{i:Nat}(h:∀ p q,p<q->q<i->X.getD p 0<=X.getD q 0):Kt X i i:=fun p q h1 h2 h3=>h p q h1 oz
theorem Kt.swap{X:List Int}{i j:Nat}(h:Kt X i (j+1)) (l:j+1<=i) (m:i<X.length) (n:X.getD (j+1) 0<X.getD j 0):Kt (Vv X j) i j:=by
 intro a d g e k;rw [Po X oz,Po X oz,if_neg k];by_cases c:d=j+1
 ·subst c;rw [if_pos rfl];by_cases b:a=j
  ·subst b;rw [if_pos rfl];omega
  ·rw [if_neg b,if_neg oz];exact h a j oz oz oz
 ·rw [if_neg c];by_cases b:a=j
  ·subst b;rw [if_pos rfl];exact h (a+1) d oz e c
  ·rw [if_neg b];by_cases f:a=j+1
   ·subst f;rw [if_pos rfl];exact h j d oz e c
   ·rw [if_neg f];exact h a d g e c
theorem Kt.stop{X:List Int}{i j:Nat}(h:Kt X i j)(f:j<=i)(d:j=0\/∃ k,j=k+1/\¬ X.getD (k+1) 0<X.getD k 0):∀ p q,p<q->q<i+1->X.getD p 0<=X.getD q 0:=by
 intro p q b e;by_cases a:q=j
 ·subst a;rcases d with rfl | ⟨k,rfl,g⟩
  ·omega
  ·by_cases c:p=k
   ·subst c;omega
   ·exact Int.le_trans (h p k oz oz oz) oz
 ·exact h p q b oz a
end Go.Ab
namespace Go.Ab
open Go.RowKit
section
variable {l n:Nat} {P:Program} {ops:Array Oper} {Q:Exit->Act->World->Prop} {md:Region.Mode} {S:World->Prop} {Lt:List Nat}
def Xb(l n:Nat)(P:Program)(md:Region.Mode)(ops:Array Oper)(Q:Exit->Act->World->Prop)(S:World->Prop)(Lt:List Nat):Nat->Array Bool->Act->World->Prop
 | 0,listed,a,w=>Region.ready md ops listed=[]/\Q .normal a w
 | fuel+1,listed,a,w=>
  (Region.ready md ops listed=[]->Q .normal a w) /\
  ∀ i∈Region.ready md ops listed,if Lt.contains i=true then wpOpIn (Fence.wide.inRound l) n P ops Q i (Xb l n P md ops Q S Lt fuel (listed.setIfInBounds i true)) a w
   else wpOp P ops Q i (fun a' w'=>S w'/\Xb l n P md ops Q S Lt fuel (listed.setIfInBounds i true) a' w') a w
theorem Ha(hd:J4 ops=true)(hQ:¬ LetsOut Q):∀(fuel:Nat) (listed:Array Bool) (a:Act) (w:World),Xb l n P md ops Q S Lt fuel listed a w->wpAnyIn (Fence.wide.inRound l) n P md ops Q fuel listed a w
 | 0,_,_,_,h=>h
 | fuel+1,_,_,_,h=>⟨h.1,fun i hi=>by
  have h2:=h.2 i hi;by_cases hl:Lt.contains i=true
  ·rw [if_pos hl] at h2;exact wpOpIn_mono (fun a w h=>Ha hd hQ fuel _ a w h) h2
  ·rw [if_neg hl] at h2;exact Wb hd hQ (fun a w h=>Ha hd hQ fuel _ a w h.2) h2⟩
theorem Ss{i:Nat}{g:Oper}{v:Value}(t:ops[i]?=some g)(K:Lt.contains i=false)(E:∀(j:Nat) (o:Oper) cs b,ops[j]?=some o->o.op≠.select cs b)
  (G:∀ c a w,Q (.panic c) (a.put g.dst v) w->Q (.panic c) a w) (M:∀ j,Lt.contains j=true->Gu md ops i ops.size j=true) :
  ∀(fuel:Nat) (listed:Array Bool) (a:Act) (w:World),Kx md ops listed ->
   (∀ j oj,ops[j]?=some oj->j≠i->listed.getD j true=false->(∀ e∈oj.after,Region.binds md e=true->e.on≠i)->g.apart ops oj=true) ->
   i∈Region.ready md ops listed->YieldsIf P ops S g v a->S w ->
   Xb l n P md ops Q S Lt fuel (listed.setIfInBounds i true) (a.put g.dst v) w->Xb l n P md ops Q S Lt (fuel+1) listed a w:=by
 have A:¬ Lt.contains i=true:=by rw [K];decide
 intro fuel
 induction fuel with
 | zero=>
  intro listed a w _ _ f r q m;refine⟨fun h=>(by rw [h] at f;cases f),fun j hj=>?_⟩;by_cases d:j=i
  ·subst d;rw [if_neg A];exact r.wpOp t q ⟨q,m⟩
  ·have:=ready_mono hj d;rw [m.1] at this;cases this
 | succ fuel ih=>
  intro listed a w y z f r q m;refine⟨fun h=>(by rw [h] at f;cases f),fun j hj=>?_⟩;by_cases d:j=i
  ·subst d;rw [if_neg A];exact r.wpOp t q ⟨q,m⟩
  ·have p:=m.2 j (ready_mono hj d);have B:listed.getD i false=false:=by
    have x:=(mem_ready.1 f).1;rcases Nat.lt_or_ge i listed.size with s | s
    ·simp [s] at x ⊢;exact x
    ·simp [Array.getElem?_eq_none s]
   have I:Lt.contains j=false:=by
    cases hl:Lt.contains j with
    | false=>rfl
    | true=>exact absurd hj (Fc y B _ _ (M j hl)).2
   have L:¬ Lt.contains j=true:=by rw [I];decide
   rw [if_neg L] at p ⊢;obtain⟨D,oj,u,H⟩:=mem_ready.1 hj
   have N:∀ e∈oj.after,Region.binds md e=true->e.on≠i:=fun e he hb heq=>by
    have p:=H e he hb;rw [heq,B] at p;cases p
   have F:=wpOp_putIf u (z j oj u d D N) (fun cs b=>E i g cs b t) (fun cs b=>E j oj cs b u) G r p
   have J:∀ k ok,ops[k]?=some ok->k≠i->(listed.setIfInBounds j true).getD k true=false ->
     (∀ e∈ok.after,Region.binds md e=true->e.on≠i)->g.apart ops ok=true:=fun k ok hk hki hun hno=>by
    refine z k ok hk hki ?_ hno;by_cases C:j=k
    ·subst C;exact D
    ·rw [getD_set_ne true C] at hun;exact hun
   refine wpOp_mono (fun a' w' h3=>⟨h3.2.1,ih (listed.setIfInBounds j true) a' w' (y.step hj) J (ready_mono f (Ne.symm d)) h3.1 h3.2.1 ?_⟩) F;rw [Array.setIfInBounds_comm _ _ d];exact h3.2.2
theorem Li{i:Nat}{oi:Oper}{v:Value}{fuel:Nat}{listed:Array Bool}{a:Act}{w:World}(hi:ops[i]?=some oi)(hil:Lt.contains i=false)
  (hs:Region.noSelect ops=true) (hf:Region.free md ops listed i=true) (hr:(Region.ready md ops listed).contains i=true) (hc:Wm md ops listed=true) (hl:(Lt.all fun j=>Gu md ops i ops.size j)=true)
  (hQ:∀ c a w,Q (.panic c) (a.put oi.dst v) w->Q (.panic c) a w) (hy:YieldsIf P ops S oi v a) (hS:S w)
  (h:Xb l n P md ops Q S Lt fuel (listed.setIfInBounds i true) (a.put oi.dst v) w):Xb l n P md ops Q S Lt (fuel+1) listed a w:=
 Ss hi hil (Region.noSelect_spec hs) hQ (fun j hj=>List.all_eq_true.1 hl j (by simpa using hj)) fuel listed a w (Fb hc) (Region.free_spec hi hf) (by simpa using hr) hy hS h
def Zq(l n:Nat)(P:Program)(md:Region.Mode)(ops:Array Oper)(Q:Exit->Act->World->Prop)(S:World->Prop)(Lt:List Nat)(fuel:Nat)(listed:Array Bool)(a:Act)(w:World)(rs:List Nat):Prop:=
 ∀ i∈rs,if Lt.contains i=true then wpOpIn (Fence.wide.inRound l) n P ops Q i (Xb l n P md ops Q S Lt fuel (listed.setIfInBounds i true)) a w
   else wpOp P ops Q i (fun a' w'=>S w'/\Xb l n P md ops Q S Lt fuel (listed.setIfInBounds i true) a' w') a w
theorem Zq.nil{fuel:Nat}{listed:Array Bool}{a:Act}{w:World}:Zq l n P md ops Q S Lt fuel listed a w []:=fun _ h=>by cases h
theorem Zq.cons{fuel:Nat}{listed:Array Bool}{a:Act}{w:World}{i:Nat}{o:Oper}{rs:List Nat}(ho:ops[i]?=some o)(hl:Lt.contains i=false)
  (h:∀ K':Act->World->Prop,Go.Shut (∀ a w,S w->(S w->Xb l n P md ops Q S Lt fuel (listed.setIfInBounds i true) a w)->K' a w)->if Region.wanted o (yielded ops a.tmps)=true then Oper.wp P o a w K' Q else K' (a.put o.dst undef) w)
  (hs:Zq l n P md ops Q S Lt fuel listed a w rs):Zq l n P md ops Q S Lt fuel listed a w (i::rs):=fun j hj=>by
 rcases List.mem_cons.1 hj with rfl | hj
 ·rw [if_neg (by rw [hl];decide)];exact wpOp_step ho (fun K' hK=>h K' (fun a w hS hW=>hK a w ⟨hS,hW hS⟩))
 ·exact hs j hj
theorem Zq.late{fuel:Nat}{listed:Array Bool}{a:Act}{w:World}{i:Nat}{o:Oper}{rs:List Nat}(ho:ops[i]?=some o)(hl:Lt.contains i=true)
  (h:∀ K':Act->World->Prop,Go.Shut (∀ a w,Xb l n P md ops Q S Lt fuel (listed.setIfInBounds i true) a w->K' a w)->if Region.wanted o (yielded ops a.tmps)=true then Oper.wpIn (Fence.wide.inRound l) n P o a w K' Q else(∀ f,o.about P w a.eval=some f->(Fence.wide.inRound l).fn f)/\K' (a.put o.dst undef) w)
  (hs:Zq l n P md ops Q S Lt fuel listed a w rs):Zq l n P md ops Q S Lt fuel listed a w (i::rs):=fun j hj=>by
 rcases List.mem_cons.1 hj with rfl | hj
 ·rw [if_pos hl];exact wpOpIn_step ho (fun K' hK=>h K' hK)
 ·exact hs j hj
theorem K3{rs:List Nat}{fuel:Nat}{listed:Array Bool}{a:Act}{w:World}(hr:Region.ready md ops listed=rs)(hne:rs≠[])
  (h:Zq l n P md ops Q S Lt fuel listed a w rs):Xb l n P md ops Q S Lt (fuel+1) listed a w:=⟨fun h0=>absurd (hr ▸ h0) hne,hr ▸ h⟩
theorem Lj{listed:Array Bool}{a:Act}{w:World}(hr:Region.ready md ops listed=[])(h:Q .normal a w) :
  ∀ fuel,Xb l n P md ops Q S Lt fuel listed a w
 | 0=>⟨hr,h⟩
 | _+1=>⟨fun _=>h,by rw [hr];simp⟩
theorem La{id:Nat}{a:Act}{w:World}(Lt:List Nat)(hm:P.follows .mixedOrders=true)(hd:J4 ops=true)(hQ:¬ LetsOut Q)(hS:S w.drew)
  (h:S w.drew->Xb l n P .any ops Q S Lt ops.size (Array.replicate ops.size false) a w.drew):(Code.region id ops true).wpIn (Fence.wide.inRound l) n P Q a w:=
 wpIn_region_any hm (Ha hd hQ _ _ _ _ (h hS))
end
end Go.Ab
namespace Go.Proofs.YtfdlhlghcbeblaaGreatDoor
open Go.RowKit Go.Ab
theorem Ly{P:Program}(w:World)(d:Nat)(t e:TypeId)(k:IntKind)(b c f g:Int)(s:P.underlying t=some (.array 2 e)) (i:P.underlying e=some (.int k)) (m:(P.info? e).map (·.size)=some 1) :
  (Op.equalIn (d+2) t (.agg #[.int k b,.int k c]) (.agg #[.int k f,.int k g])).run P w=.ok (b == f && c == g) w:=by
 have o:=run_equalIn_int w d e k k b f i;have l:=run_equalIn_int w d e k k c g i;obtain⟨a,q,r⟩:∃ a,P.info? e=some a/\a.size=1:=by
  cases h:P.info? e with
  | none=>simp [h] at m
  | some a=>exact⟨a,rfl,by simpa [h] using m⟩
 have p:(isAgg e).run P w=.ok false w:=by simp [isAgg,run_underlying i]
 rw [Op.equalIn];simp only [Sem.run_bind,run_underlying s,Result.andThen_ok];simp [Std.Legacy.Range.forIn_eq_forIn_range',sizeOf,typeInfo,q,r,List.range',part,o,p];by_cases j:b=f
 ·by_cases n:c=g
  ·subst n;simp [j,l]
  ·simp [j,n,l]
 ·simp [j]
def zs(l:List Nat):List Int:=l.map fun(x:Nat)=>(x:Int)
def Nw(l:List Int):List Value:=l.map (Value.int .i64)
theorem Pl(l:List Int)(i:Nat)(h:i<l.length):(Nw l).getD i undef=.int .i64 (l.getD i 0):=by
 simp [Nw,List.getD_eq_getElem?_getD,h]
def prs(l:List (Int × Int)):List Value:=l.flatMap fun p=>[Value.int .i64 p.1,Value.int .i64 p.2]
theorem Wp(p:Int × Int)(l:List (Int × Int)):prs (p::l)=.int .i64 p.1::.int .i64 p.2::prs l:=rfl
theorem Q03(l m:List (Int × Int)):prs (l++m)=prs l++prs m:=by simp [prs]
theorem L2:∀(l:List (Int × Int)) (i:Nat),i<l.length->(prs l).getD (i*2) undef=.int .i64 (l.getD i (0,0)).1
 | [],_,h=>by simp at h
 | p::l,0,_=>by simp [Wp]
 | p::l,i+1,h=>by
  rw [Wp,show (i+1)*2=i*2+1+1 by omega,List.getD_cons_succ,List.getD_cons_succ,List.getD_cons_succ];exact L2 l i (by simpa using h)
theorem L3:∀(l:List (Int × Int)) (i:Nat),i<l.length->(prs l).getD (i*2+1) undef=.int .i64 (l.getD i (0,0)).2
 | [],_,h=>by simp at h
 | p::l,0,_=>by simp [Wp]
 | p::l,i+1,h=>by
  rw [Wp,show (i+1)*2+1=i*2+1+1+1 by omega,List.getD_cons_succ,List.getD_cons_succ,List.getD_cons_succ];exact L3 l i (by simpa using h)
end Go.Proofs.YtfdlhlghcbeblaaGreatDoor
namespace Go.Ab
def bfR(n:Nat)(R:Nat->Nat->Bool)(x:Nat):Nat:=Y1 n (fun a=>R a x)
def afR(n:Nat)(R:Nat->Nat->Bool)(x:Nat):Nat:=Y1 n (fun b=>R x b)
theorem Q3l{n:Nat}(h:n<=64):2 ^ n<=18446744073709551616:=Nat.pow_le_pow_right (n:=2) (by decide) h
theorem P2{n:Nat}(h:n<=64)(p:Nat->Bool):Y1 n p<18446744073709551616:=Nat.lt_of_lt_of_le (Vf n p) (Q3l h)
structure Rel (n:Nat) (R:Nat->Nat->Bool):Prop where
 dom:∀ a b,R a b=true->a<n/\b<n
 irr:∀ a,R a a=false
 tr:∀ a b c,R a b=true->R b c=true->R a c=true
theorem Rel.empty(n:Nat):Rel n (fun _ _=>false):=⟨by simp,by simp,by simp⟩
theorem Rel.asym{n:Nat}{R:Nat->Nat->Bool}(h:Rel n R){a b:Nat}(c:R a b=true):R b a=false:=by
 cases hba:R b a with
 | false=>rfl
 | true=>have:=h.tr a b a c hba;rw [h.irr] at this;cases this
def Vr(R:Nat->Nat->Bool)(x y:Nat):Nat->Nat->Bool:=fun i k=>R i k || ((i == x || R i x) && (k == y || R y k))
theorem Q3y{n:Nat}{R:Nat->Nat->Bool}(h:Rel n R){x y:Nat}(k:x<n)(m:y<n)(l:x≠y)(i:R y x=false):Rel n (Vr R x y):=by
 constructor
 ·intro d j c;simp only [Vr,Bool.or_eq_true,Bool.and_eq_true,beq_iff_eq] at c;rcases c with c | ⟨b,a⟩
  ·exact h.dom d j c
  ·constructor
   ·rcases b with rfl | b
    ·exact k
    ·exact(h.dom _ _ b).1
   ·rcases a with rfl | a
    ·exact m
    ·exact(h.dom _ _ a).2
 ·intro d;cases e:Vr R x y d d with
  | false=>rfl
  | true=>
   simp only [Vr,Bool.or_eq_true,Bool.and_eq_true,beq_iff_eq] at e;rcases e with e | ⟨b,a⟩
   ·rw [h.irr] at e;cases e
   ·rcases b with rfl | b <;> rcases a with a | a
    ·exact absurd a l
    ·rw [i] at a;cases a
    ·subst a;rw [i] at b;cases b
    ·have:=h.tr _ _ _ a b;rw [i] at this;cases this
 ·intro d j o c f;simp only [Vr,Bool.or_eq_true,Bool.and_eq_true,beq_iff_eq] at *;rcases c with c | ⟨b,a⟩ <;> rcases f with f | ⟨g,h4⟩
  ·exact .inl (h.tr _ _ _ c f)
  ·refine .inr ⟨?_,h4⟩;rcases g with rfl | g
   ·exact .inr c
   ·exact .inr (h.tr _ _ _ c g)
  ·refine .inr ⟨b,?_⟩;rcases a with rfl | a
   ·exact .inr f
   ·exact .inr (h.tr _ _ _ a f)
  ·exact .inr ⟨b,h4⟩
theorem Vk{n:Nat}(a:n<=64)(p:Nat->Bool)(i:Nat):i∈evs (Y1 n p)↔i<n/\p i=true:=by
 rw [Tj n a];simp
theorem Q6w{n:Nat}(e:n<=64){R:Nat->Nat->Bool}(h:Rel n R){x y:Nat}(f:x<n)(o:y<n) :
  (fun i=>if i∈evs (bfR n R x ||| 2 ^ x) then afR n R i ||| (afR n R y ||| 2 ^ y) else afR n R i)=afR n (Vr R x y):=by
 funext i
 have g:bfR n R x ||| 2 ^ x=Y1 n (fun a=>R a x || a == x):=by rw [bfR,X3 f,Uc]
 have j:afR n R y ||| 2 ^ y=Y1 n (fun b=>R y b || b == y):=by rw [afR,X3 o,Uc]
 rw [g,j];by_cases d:i∈evs (Y1 n (fun a=>R a x || a == x))
 ·rw [if_pos d];obtain⟨_,m⟩:=(Vk e _ _).1 d;rw [afR,Uc];refine Yu fun k _=>?_
  simp only [Vr];have:(i == x || R i x)=true:=by rw [Bool.or_comm];exact m
  rw [this,Bool.true_and,Bool.or_comm (k == y)]
 ·rw [if_neg d];refine Yu fun k _=>?_
  have l:¬ (i<n/\(R i x || i == x)=true):=fun c=>d ((Vk e _ _).2 c);simp only [Vr];have:(i == x || R i x)=false:=by
   cases c:(i == x || R i x) with
   | false=>rfl
   | true=>
    refine absurd ⟨?_,by rw [Bool.or_comm];exact c⟩ l;simp only [Bool.or_eq_true,beq_iff_eq] at c;rcases c with rfl | c
    ·exact f
    ·exact(h.dom _ _ c).1
  rw [this];simp
theorem Q64{n:Nat}(e:n<=64){R:Nat->Nat->Bool}(h:Rel n R){x y:Nat}(o:x<n)(f:y<n) :
  (fun i=>if i∈evs (afR n R y ||| 2 ^ y) then bfR n R i ||| (bfR n R x ||| 2 ^ x) else bfR n R i)=bfR n (Vr R x y):=by
 funext i
 have g:bfR n R x ||| 2 ^ x=Y1 n (fun a=>R a x || a == x):=by rw [bfR,X3 o,Uc]
 have j:afR n R y ||| 2 ^ y=Y1 n (fun b=>R y b || b == y):=by rw [afR,X3 f,Uc]
 rw [g,j];by_cases d:i∈evs (Y1 n (fun a=>R y a || a == y))
 ·rw [if_pos d];obtain⟨_,m⟩:=(Vk e _ _).1 d;rw [bfR,Uc];refine Yu fun k _=>?_
  simp only [Vr];have:(i == y || R y i)=true:=by rw [Bool.or_comm];exact m
  rw [this,Bool.and_true,Bool.or_comm (k == x)]
 ·rw [if_neg d];refine Yu fun k _=>?_
  have l:¬ (i<n/\(R y i || i == y)=true):=fun c=>d ((Vk e _ _).2 c);simp only [Vr];have:(i == y || R y i)=false:=by
   cases c:(i == y || R y i) with
   | false=>rfl
   | true=>
    refine absurd ⟨?_,by rw [Bool.or_comm];exact c⟩ l;simp only [Bool.or_eq_true,beq_iff_eq] at c;rcases c with rfl | c
    ·exact f
    ·exact(h.dom _ _ c).2
  rw [this];simp
def rdy(n:Nat)(R:Nat->Nat->Bool)(l:List Nat)(x:Nat):Bool:=!l.contains x && (List.range n).all fun a=>!R a x || l.contains a
def Q8x(n:Nat)(R:Nat->Nat->Bool)(l:List Nat):Option Nat:=(List.range n).find? (rdy n R l)
def Cl(n:Nat)(R:Nat->Nat->Bool):Nat->List Nat->List Nat
 | 0,l=>l
 | k+1,l=>match Q8x n R l with | some x=>Cl n R k (l++[x]) | none=>l
def Q9q(n:Nat)(R:Nat->Nat->Bool):List Nat:=Cl n R n []
end Go.Ab
namespace Go.Ab
open Go.RowKit
section
variable {P:Program} {ops:Array Oper} {Q:Exit->Act->World->Prop} {md:Region.Mode}
def Ue(listed:Array Bool):Nat->Nat
 | 0=>0
 | n+1=>Ue listed n+if listed.getD n true=true then 0 else 1
theorem Pe{listed:Array Bool}:∀ {n:Nat},Ue listed n=0->∀ j,j<n->listed.getD j true=true
 | 0,_,j,hj=>absurd hj (Nat.not_lt_zero _)
 | n+1,h,j,hj=>by
  unfold Ue at h;by_cases e:j=n
  ·subst e;apply Classical.byContradiction;intro h1;rw [if_neg h1] at h;omega
  ·exact Pe (n:=n) oz j oz
theorem Pp{listed:Array Bool}{i:Nat}:∀ {n:Nat},n<=i->Ue (listed.setIfInBounds i true) n=Ue listed n
 | 0,_=>rfl
 | n+1,h=>by
  unfold Ue;rw [Pp (n:=n) oz,getD_set_ne true oz]
theorem Ti{a:Array Bool}{i:Nat}(b:a.getD i true=false):∀ {n:Nat},i<n->Ue (a.setIfInBounds i true) n+1=Ue a n
 | 0,h=>absurd h (Nat.not_lt_zero _)
 | n+1,h=>by
  unfold Ue;by_cases e:i=n
  ·subst e;have h1:(a.setIfInBounds i true).getD i true=true:=by
    rw [Array.getD_eq_getD_getElem?,Array.getElem?_setIfInBounds]
    split
    ·split <;> rfl
    ·contradiction
   rw [Pp (Nat.le_refl _),h1,if_pos rfl,if_neg (by rw [b];decide)]
  ·have:=Ti b (n:=n) oz;rw [getD_set_ne true e];omega
def Sc(md:Region.Mode)(ops:Array Oper):Bool:=(List.range ops.size).all fun k=>match ops[k]? with
 | some o=>o.after.toList.all fun e=>!Region.binds md e || decide (e.on<k)
 | none=>true
theorem Q00(i:Sc md ops=true){a:Array Bool}(l:a.size=ops.size)(j:Region.ready md ops a=[]):∀ k,k<ops.size->a.getD k true=true:=by
 intro k
 induction k using Nat.strongRecOn with
 | _ k ih=>
  intro b;cases h:a.getD k true with
  | true=>rfl
  | false=>
   have:k∈Region.ready md ops a:=by
    refine mem_ready.2 ⟨h,ops[k],Array.getElem?_eq_getElem b,fun e he hb=>?_⟩;have c:=List.all_eq_true.1 i k (List.mem_range.2 b);rw [Array.getElem?_eq_getElem b] at c;have d:=List.all_eq_true.1 c e (by simpa using he);rw [hb] at d;have g:e.on<k:=by simpa using d
    have f:=ih e.on g oz;rw [Array.getD_eq_getD_getElem?,Array.getElem?_eq_getElem oz] at f ⊢;exact f
   rw [j] at this;cases this
theorem Pi(I:Array Bool->Act->World->Prop)(hf:Sc md ops=true)
  (hstep:∀(listed:Array Bool) (a:Act) (w:World),listed.size=ops.size->I listed a w->∀ i∈Region.ready md ops listed,wpOp P ops Q i (fun a' w'=>I (listed.setIfInBounds i true) a' w') a w)
  (hend:∀(listed:Array Bool) (a:Act) (w:World),listed.size=ops.size->(∀ k,k<ops.size->listed.getD k true=true)->I listed a w->Q .normal a w) :
  ∀(fuel:Nat) (listed:Array Bool) (a:Act) (w:World),listed.size=ops.size->Ue listed ops.size<=fuel->I listed a w->wpAny P md ops Q fuel listed a w
 | 0,listed,a,w,hs,hl,hI=>by
  have hall:=Pe (show Ue listed ops.size=0 by omega);have hr:Region.ready md ops listed=[]:=by
   apply List.eq_nil_iff_forall_not_mem.2;intro j hj;obtain⟨h1,o,h2,_⟩:=mem_ready.1 hj;rw [hall j (Array.getElem?_eq_some_iff.1 h2).1] at h1;cases h1
  exact⟨hr,hend listed a w hs hall hI⟩
 | fuel+1,listed,a,w,hs,hl,hI=>by
  refine⟨fun hr=>hend listed a w hs (Q00 hf hs hr) hI,fun i hi=>?_⟩;have hi0:=mem_ready.1 hi;obtain⟨h1,o,h2,_⟩:=hi0;have hil:=(Array.getElem?_eq_some_iff.1 h2).1;have hl2:=Ti h1 hil;exact wpOp_mono (fun a' w' hI'=>Pi I hf hstep hend fuel _ a' w' (by simpa using hs) oz hI') (hstep listed a w hs hI i hi)
theorem Q5c(n:Nat)(k:Nat):Ue (Array.replicate n false) k<=k:=by
 induction k with
 | zero=>exact Nat.le_refl _
 | succ k ih=>unfold Ue;split <;> omega
theorem R1{id:Nat}{a:Act}{w:World}(I:Array Bool->Act->World->Prop)(hm:P.follows .mixedOrders=true)(hf:Sc .any ops=true)
  (h0:I (Array.replicate ops.size false) a w.drew)
  (hstep:∀(listed:Array Bool) (a:Act) (w:World),listed.size=ops.size->I listed a w->∀ i∈Region.ready .any ops listed,wpOp P ops Q i (fun a' w'=>I (listed.setIfInBounds i true) a' w') a w)
  (hend:∀(listed:Array Bool) (a:Act) (w:World),listed.size=ops.size->(∀ k,k<ops.size->listed.getD k true=true)->I listed a w->Q .normal a w):(Code.region id ops true).wp P Q a w:=
 wp_region_any hm (Pi I hf hstep hend _ _ _ _ zy (Q5c _ _) h0)
end
end Go.Ab
namespace Go.Ab
open Go.RowKit
def Qau{α:Type}(P:Program)(gf:Nat)(lb:Array Value)(M:Nat->Nat->Prop)(E:Nat->(Nat->Prop)->α->World->Array Value->Prop) (xs:List α) (fin:Option (List PanicEntry)) (K:Nat->Prop) (w:World):Prop:=
 ∀(l:Nat) (J Jx:(Nat->Prop)->List α->World->Prop) (W:World),Q1 (fun b=>¬ K b) w W ->
  (∀ O O' pre A B,J O pre A->Q1 (fun b=>O b/\M W.heap.size b) A B->(∀ b,O' b->(O b\/A.heap.size<=b)/\b<B.heap.size)->J O' pre B) ->
  (∀ O O' pre A B,Jx O pre A->Q1 (fun b=>O b/\M W.heap.size b) A B->(∀ b,O' b->(O b\/A.heap.size<=b)/\b<B.heap.size)->Jx O' pre B) ->
  (∀ O pre x rest A ys,xs=pre++x::rest->J O pre A->E W.heap.size O x A ys->YieldAt Fence.wide 0 P l ys A fun e B=>
   (e=.returned (.bool true)/\J O (pre++[x]) B/\Q1 (fun b=>¬ K b/\¬ O b) A B)\/(e=.returned (.bool false)/\Jx O (pre++[x]) B/\Q1 (fun b=>¬ K b/\¬ O b) A B)) ->
  J (fun _=>False) [] W ->
  Calls P gf (#[.func (.yield l) #[] #[]]++lb) W fun e B=>((∃ v,e=.returned v)/\∃ O,((fin=none/\J O xs B)\/∃ pre x rest,xs=pre++x::rest/\Jx O (pre++[x]) B))\/(∃ ch,fin=some ch/\e=.panicked ch/\∃ O,J O xs B)
end Go.Ab
namespace Go.Ab
open Go.RowKit
def Qam{α:Type}(P:Program)(gf:Nat)(lb:Array Value)(M:Nat->Nat->Prop)(E:Nat->α->World->Array Value->Prop)(xs:List α)(fin:Option (List PanicEntry)) (T:Nat->Prop) (C:World->Prop) (w:World):Prop:=
 ∀(l:Nat) (J Jx:List α->World->Prop) (W:World),Q1 T w W ->
  w.heap.size<=l->(∃ o,W.heap[l]?=some o/\o.isCells=false) ->
  (∀ pre A B,J pre A->Q1 (fun b=>W.heap.size<=b/\M W.heap.size b) A B->J pre B) ->
  (∀ pre A B,Jx pre A->Q1 (fun b=>W.heap.size<=b/\M W.heap.size b) A B->Jx pre B) ->
  (∀ pre A,J pre A->C A/\∃ o,A.heap[l]?=some o/\o.isCells=false) ->
  (∀ pre x rest A ys,xs=pre++x::rest->J pre A->E W.heap.size x A ys->YieldAt Fence.wide 0 P l ys A fun e B=>
   (e=.returned (.bool true)/\J (pre++[x]) B/\Q1 (fun b=>T b\/b=l) A B)\/(e=.returned (.bool false)/\Jx (pre++[x]) B/\Q1 (fun b=>T b\/b=l) A B)) ->
  J [] W ->
  Calls P gf (#[.func (.yield l) #[] #[]]++lb) W fun e B=>((∃ v,e=.returned v)/\((fin=none/\J xs B)\/∃ pre x rest,xs=pre++x::rest/\Jx (pre++[x]) B))\/(∃ ch,fin=some ch/\e=.panicked ch/\J xs B)
end Go.Ab
