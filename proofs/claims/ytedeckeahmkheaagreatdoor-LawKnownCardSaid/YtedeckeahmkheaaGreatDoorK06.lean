/- PLAIN: -/
import Derived.Test.YtedeckeahmkheaaGreatDoorK01
import Derived.Test.YtedeckeahmkheaaGreatDoorK00
import Derived.Test.YtedeckeahmkheaaGreatDoorK02
namespace Go.Ab
def Zs(a b:Nat):Nat:=a &&& (4294967295 ^^^ b)
theorem Nj(i:Nat):(4294967295:Nat).testBit i=decide (i<32):=Nat.testBit_two_pow_sub_one 32 i
theorem U5{a:Nat}(h:a<4294967296){i:Nat}(hi:32<=i):a.testBit i=false:=
 Nat.testBit_lt_two_pow (Nat.lt_of_lt_of_le h (by
  have:=Nat.pow_le_pow_right (show 0<2 by decide) hi
  simpa using this))
theorem Xy{a:Nat}(b:Nat)(c:a<4294967296)(i:Nat):(Zs a b).testBit i=(a.testBit i && !b.testBit i):=by
 unfold Zs;rw [Nat.testBit_and,Nat.testBit_xor,Nj];by_cases d:i<32
 ·simp [d]
 ·rw [U5 c (by omega)];rfl
theorem H6{a:Nat}(h:∀ i,32<=i->a.testBit i=false):a<4294967296:=
 Nat.lt_pow_two_of_testBit (n:=32) a h
theorem Fz{a b:Nat}(ha:a<4294967296):Zs a b<4294967296:=H6 fun i hi=>by rw [Xy b ha,U5 ha hi];rfl
def Ua(s f:Nat × Nat)(m:Nat):Nat × Nat:=(Zs s.1 m ||| (f.1 &&& m),Zs s.2 m ||| (f.2 &&& m))
def Sn(s:Nat × Nat)(f:Nat):Int:=if s.1.testBit f=true then 1 else if s.2.testBit f=true then -1 else 0
def So(s:Nat × Nat)(f:Nat)(v:Int):Nat × Nat:=(Zs s.1 (2 ^ f) ||| (if v=1 then 2 ^ f else 0),Zs s.2 (2 ^ f) ||| (if v=-1 then 2 ^ f else 0))
def Za(s:Nat × Nat):Prop:=s.1<4294967296/\s.2<4294967296
def okS(s:Nat × Nat):Bool:=Qx s.1 s.2
theorem P7{s:Nat × Nat}(f:Nat × Nat)(m:Nat)(a:Za s)(i:Nat):(Ua s f m).1.testBit i=if m.testBit i=true then f.1.testBit i else s.1.testBit i:=by
 unfold Ua;simp only [Nat.testBit_or,Nat.testBit_and,Xy m a.1];cases m.testBit i <;> simp
theorem Ps{s:Nat × Nat}(f:Nat × Nat)(m:Nat)(a:Za s)(i:Nat):(Ua s f m).2.testBit i=if m.testBit i=true then f.2.testBit i else s.2.testBit i:=by
 unfold Ua;simp only [Nat.testBit_or,Nat.testBit_and,Xy m a.2];cases m.testBit i <;> simp
theorem N0{s f:Nat × Nat}(m:Nat)(hs:Za s)(hf:Za f):Za (Ua s f m):=
 ⟨H6 fun i hi=>by rw [P7 f m hs,U5 hf.1 hi,U5 hs.1 hi];simp,H6 fun i hi=>by rw [Ps f m hs,U5 hf.2 hi,U5 hs.2 hi];simp⟩
def Nu(s c:Nat × Nat):Bool:=c.1 &&& s.1 == c.1 && c.2 &&& s.2 == c.2
theorem Rc{a b:Nat}:a &&& b=a↔∀ i,a.testBit i=true->b.testBit i=true:=by
 constructor
 ·intro c i d;have:=congrArg (fun x=>x.testBit i) c;simp [d] at this;exact this
 ·intro c;refine Nat.eq_of_testBit_eq fun i=>?_
  rw [Nat.testBit_and];cases h1:a.testBit i
  ·rfl
  ·rw [c i h1];rfl
theorem Hz{a b:Nat}(e:a<4294967296):Zs a b=0↔a &&& b=a:=by
 rw [Rc];constructor
 ·intro d c f;have:=congrArg (fun x=>x.testBit c) d;simp only [Xy b e,Nat.zero_testBit,f,Bool.true_and] at this
  simpa using this
 ·intro d;refine Nat.eq_of_testBit_eq fun c=>?_
  rw [Xy b e,Nat.zero_testBit];cases h1:a.testBit c
  ·rfl
  ·rw [d c h1];rfl
end Go.Ab
namespace Go.Ab
open Go.RowKit
theorem Rb(a:Nat){b:Nat}(c:b<4294967296):a &&& (4294967295 - b)=Zs a b:=by
 unfold Zs
 congr 1
 refine Nat.eq_of_testBit_eq fun i=>?_
 rw [Nat.testBit_xor,Nj];have:=Nat.testBit_two_pow_sub_succ (n:=32) (x:=b) c i;rw [show (2 ^ 32 - (b+1):Nat)=4294967295 - b by omega] at this;rw [this];by_cases d:i<32
 ·simp [d]
 ·rw [U5 c oz];simp [d]
theorem Kf(a b:Nat)(d:a<4294967296)(c:b<4294967296):bits .andNot .u32 (a:Int) (b:Int)=((Zs a b:Nat):Int):=by
 rw [u32_andNot_nat a b d c,Rb a c]
end Go.Ab
namespace Go.Ab
section
variable {α:Type} (H:List α->Nat->Bool) (P:List α->List α) (k:Nat)
def Jl(w:List α)(i:Nat):List α:=w.take i++P ((w.drop i).take k)++w.drop (i+k)
def Jd(w:List α):Nat->Nat->List α->List (Nat × List α)
 | 0,_,_=>[]
 | n+1,i,d=>
  if H w i then
   (i,d++P ((w.drop i).take k)++w.drop (i+k))::(if k=0 then Jd w n (i+1) (d++P ((w.drop i).take k)++(w.drop i).take 1) else Jd w n (i+k) (d++P ((w.drop i).take k)))
  else Jd w n (i+1) (d++(w.drop i).take 1)
def Xi(m:Nat):Nat->List α->Nat->List (Nat × List α)
 | 0,_,_=>[]
 | n+1,w,i=>
  if w.length<i+k then []
  else if H w i then(i,Jl P k w i)::Xi m n (Jl P k w i) (i+m+(if k=0 then 1 else 0))
  else Xi m n w (i+1)
def Xx:Nat->List α->Nat->List (Nat × List α)
 | 0,_,_=>[]
 | _+1,_,0=>[]
 | n+1,w,i+1=>
  if H w i then(i,Jl P k w i)::Xx n (Jl P k w i) (i+1 - max k 1)
  else Xx n w i
end
def Ug{α:Type}(t:List (Nat × List α)):Bool:=t.any fun x=>decide (32<x.2.length)
def Lj{α:Type}(w:List α)(t:List (Nat × List α)):List α:=(t.map (·.2)).getLastD w
section
variable {α:Type} {H:List α->Nat->Bool} {P:List α->List α} {k m:Nat}
theorem Fg(a:∀ c,c.length=k->(P c).length=m) {w:List α} {i:Nat} (h:i+k<=w.length):(Jl P k w i).length+k=w.length+m:=by
 unfold Jl;rw [List.length_append,List.length_append,List.length_take,List.length_drop,a _ (by rw [List.length_take,List.length_drop];omega)];omega
end
end Go.Ab
namespace Go.Ab
open Go.RowKit
def Ys(L:List Int):List Value:=L.map fun x=>Value.int .i64 x
theorem Xh(L:List Int){i:Nat}(h:i<L.length):(Ys L)[i]?=some (.int .i64 (L.getD i 0)):=by
 unfold Ys;rw [List.getElem?_map,List.getElem?_eq_getElem h,List.getD_eq_getElem?_getD,List.getElem?_eq_getElem h];rfl
theorem Vo(L:List Int)(i:Nat)(x:Int):(Ys L).set i (.int .i64 x)=Ys (L.set i x):=by unfold Ys;rw [List.map_set]
theorem Fl(L:List Int)(x:Int):Ys (L++[x])=Ys L++[.int .i64 x]:=by simp [Ys]
def Xb(L:List Int):Bool:=decide (∀ i,i<L.length->i+1<L.length->L.getD i 0<=L.getD (i+1) 0)
theorem K4{L:List Int}(h:∀ p q,p<q->q<L.length->L.getD p 0<=L.getD q 0):L.Pairwise (·<=·):=by
 rw [List.pairwise_iff_getElem];intro d e b a c;have:=h d e c a
 rwa [List.getD_eq_getElem?_getD,List.getElem?_eq_getElem b,List.getD_eq_getElem?_getD,List.getElem?_eq_getElem a] at this
theorem Wc{L:List Int}(h:L.Pairwise (·<=·)):∀ p q,p<q->q<L.length->L.getD p 0<=L.getD q 0:=by
 intro c d b a;have:=List.pairwise_iff_getElem.1 h c d oz a b
 rwa [List.getD_eq_getElem?_getD,List.getElem?_eq_getElem oz,List.getD_eq_getElem?_getD,List.getElem?_eq_getElem a]
theorem Kz{L:List Int}:Xb L=true↔L.Pairwise (·<=·):=by
 unfold Xb;rw [decide_eq_true_eq];constructor
 ·intro b;refine K4 fun p q hpq hq=>?_
  obtain⟨a,rfl⟩:∃ a,q=p+1+a:=⟨q - p - 1,by omega⟩
  induction a with
  | zero=>exact b p oz oz
  | succ a ih=>exact Int.le_trans (ih oz oz) (b (p+1+a) oz oz)
 ·intro b c e d;exact Wc b c (c+1) oz d
def Jc(X:List Int)(j:Nat):List Int:=(X.set (j+1) (X.getD j 0)).set j (X.getD (j+1) 0)
theorem Hr(X:List Int){j:Nat}(h:j+1<X.length)(k:Nat):(Jc X j).getD k 0=if k=j then X.getD (j+1) 0 else if k=j+1 then X.getD j 0 else X.getD k 0:=by
 unfold Jc;rw [List.getD_eq_getElem?_getD,List.getElem?_set];by_cases a:j=k
 ·subst a;rw [if_pos rfl,if_pos rfl,List.length_set,if_pos oz];rfl
 ·rw [if_neg a,if_neg (fun e=>a e.symm),List.getElem?_set];by_cases b:j+1=k
  ·subst b;rw [if_pos rfl,if_pos rfl,if_pos h];rfl
  ·rw [if_neg b,if_neg (fun e=>b e.symm),List.getD_eq_getElem?_getD]
theorem Lz(X:List Int){j:Nat}(h:j+1<X.length):(Jc X j).Perm X:=by
 have a:X.getD j 0=X[j]:=by rw [List.getD_eq_getElem?_getD,List.getElem?_eq_getElem oz];rfl
 have b:X.getD (j+1) 0=X[j+1]:=by rw [List.getD_eq_getElem?_getD,List.getElem?_eq_getElem h];rfl
 unfold Jc;rw [a,b];exact List.set_set_perm h (show j<X.length by omega)
def Jw(X:List Int)(i j:Nat):Prop:=∀ p q,p<q->q<=i->q≠j->X.getD p 0<=X.getD q 0
theorem Jw.start{X:List Int}{i:Nat}(h:∀ p q,p<q->q<i->X.getD p 0<=X.getD q 0):Jw X i i:=fun p q h1 h2 h3=>h p q h1 oz
theorem Jw.swap{X:List Int}{i j:Nat}(h:Jw X i (j+1)) (l:j+1<=i) (m:i<X.length) (n:X.getD (j+1) 0<X.getD j 0):Jw (Jc X j) i j:=by
 intro a d g e k;rw [Hr X oz,Hr X oz,if_neg k];by_cases c:d=j+1
 ·subst c;rw [if_pos rfl];by_cases b:a=j
  ·subst b;rw [if_pos rfl];omega
  ·rw [if_neg b,if_neg oz];exact h a j oz oz oz
 ·rw [if_neg c];by_cases b:a=j
  ·subst b;rw [if_pos rfl];exact h (a+1) d oz e c
  ·rw [if_neg b];by_cases f:a=j+1
   ·subst f;rw [if_pos rfl];exact h j d oz e c
   ·rw [if_neg f];exact h a d g e c
theorem Jw.stop{X:List Int}{i j:Nat}(h:Jw X i j)(f:j<=i)(d:j=0\/∃ k,j=k+1/\¬ X.getD (k+1) 0<X.getD k 0):∀ p q,p<q->q<i+1->X.getD p 0<=X.getD q 0:=by
 intro p q b e;by_cases a:q=j
 ·subst a;rcases d with rfl | ⟨k,rfl,g⟩
  ·omega
  ·by_cases c:p=k
   ·subst c;omega
   ·exact Int.le_trans (h p k oz oz oz) oz
 ·exact h p q b oz a
end Go.Ab
namespace Go.Ab
open Go.RowKit
def Ui{α:Type}(P:Program)(gf:Nat)(lb:Array Value)(M:Nat->Nat->Prop)(E:Nat->(Nat->Prop)->α->World->Array Value->Prop) (xs:List α) (K:Nat->Prop) (w:World):Prop:=
 ∀(l:Nat) (J Jx:(Nat->Prop)->List α->World->Prop) (W:World),Q0 (fun b=>¬ K b) w W ->
  (∀ O O' pre A B,J O pre A->Q0 (fun b=>O b/\M W.heap.size b) A B->(∀ b,O' b->(O b\/A.heap.size<=b)/\b<B.heap.size)->J O' pre B) ->
  (∀ O O' pre A B,Jx O pre A->Q0 (fun b=>O b/\M W.heap.size b) A B->(∀ b,O' b->(O b\/A.heap.size<=b)/\b<B.heap.size)->Jx O' pre B) ->
  (∀ O pre x rest A ys,xs=pre++x::rest->J O pre A->E W.heap.size O x A ys->YieldAt Fence.wide 0 P l ys A fun e B=>
   (e=.returned (.bool true)/\J O (pre++[x]) B/\Q0 (fun b=>¬ K b/\¬ O b) A B)\/(e=.returned (.bool false)/\Jx O (pre++[x]) B/\Q0 (fun b=>¬ K b/\¬ O b) A B)) ->
  J (fun _=>False) [] W ->
  Calls P gf (#[.func (.yield l) #[] #[]]++lb) W fun e B=>(∃ v,e=.returned v)/\∃ O,(J O xs B\/∃ pre x rest,xs=pre++x::rest/\Jx O (pre++[x]) B)
theorem Uy{α:Type}{P:Program}{g:Operand}{ps:Array Tmp}{assign body:Code}{Q:Exit->Act->World->Prop}{a:Act}{w:World}
  {gf:Nat} {lb:Array Value} (c9:a.eval g=.func (.func gf) #[] lb) (b7:∀ args w,(callFunc gf args).run P w=.ok (.enter gf args) w)
  {M:Nat->Nat->Prop} {E:Nat->(Nat->Prop)->α->World->Array Value->Prop} {xs:List α} {K:Nat->Prop} (d2:Ui P gf lb M E xs K w) (b1:∀ b,K b->b<w.heap.size) (d1:∀ n O x A ys,E n O x A ys->ys.size=ps.size)
  (c1:∀ n O x A B ys,E n O x A ys->Q0 (fun b=>b=w.heap.size+1) A B->(∃ o,A.heap[w.heap.size+1]?=some o/\o.isCells=false)->E n O x B ys)
  (I:(Nat->Prop)->List α->World->Prop) (J:Code->(Nat->Prop)->List α->World->Prop)
  (Y:∀ O O' pre A B,I O pre A->(∀ b,O b->w.heap.size+2<=b/\b<A.heap.size)->Q0 (fun b=>(O b/\M (w.heap.size+2) b)\/b=w.heap.size+1) A B->(∀ b,O' b->(O b\/A.heap.size<=b)/\b<B.heap.size)->I O' pre B)
  (R:∀ c O O' pre A B,J c O pre A->(∀ b,O b->w.heap.size+2<=b/\b<A.heap.size)->Q0 (fun b=>(O b/\M (w.heap.size+2) b)\/b=w.heap.size+1) A B->(∀ b,O' b->(O b\/A.heap.size<=b)/\b<B.heap.size)->J c O' pre B)
  (b8:∀ W,Ext w W->W.heap.size=w.heap.size+2->I (fun _=>False) [] W) (b6:Array Value->Array Value->Array Value)
  (c3:∀(n:Nat) (O:Nat->Prop) (x:α) (ys:Array Value) (W:World) (Kn:Act->World->Prop),E n O x W ys->Kn { tmps:=b6 ys a.tmps,defers:=[] } W ->
   assign.wpIn (Fence.wide.inRound (w.heap.size+1)) 0 P (Exit.then Kn (fun _ _ _=>False)) { tmps:=(ps.zip ys).foldl (fun t (p,v)=>t.setIfInBounds p v) a.tmps,defers:=[] } W)
  (c4:∀(O:Nat->Prop) (pre:List α) (x:α) (rest:List α) (ys:Array Value) (W:World),xs=pre++x::rest->w.heap.size+2<=W.heap.size->(∀ b,O b->w.heap.size+2<=b/\b<W.heap.size)->Q0 (fun b=>¬ K b) w W->I O pre W->E (w.heap.size+2) O x W ys ->
   body.wpIn (Fence.wide.inRound (w.heap.size+1)) 0 P (Dj (fun b=>K b\/O b\/b=w.heap.size\/b=w.heap.size+1) (I O) (fun c=>J c O) (pre++[x]) W) { tmps:=b6 ys a.tmps,defers:=[] } W)
  (c7:∀ O W,I O xs W->(∀ b,O b->w.heap.size+2<=b/\b<W.heap.size)->Q0 (fun b=>¬ K b) w W->W.heap[w.heap.size]?=some (.deferred (some []))->Q .normal { a with defers:={ target:=.collected w.heap.size,args:=#[] }::a.defers } W)
  (d3:∀ c O pre x rest W,xs=pre++x::rest->J c O (pre++[x]) W->W.heap[w.heap.size]?=some (.deferred (some []))->c.wp P Q { a with defers:={ target:=.collected w.heap.size,args:=#[] }::a.defers } W) :
  (Code.rangeFunc g ps assign body).wp P Q a w:=by
 refine(wpIn_wide (n:=0)).1 (wpIn_rangeFunc ?_);intro fn _;obtain⟨e,s⟩:∃ e:LoopState->Option Code->Loop,e=fun st pe=>{ state:=st,pending:=pe,fn,tmps:=a.tmps,params:=ps,assign,body,defers:=w.heap.size }:=⟨_,rfl⟩;obtain⟨q,S⟩:=zE ((w.alloc (.deferred (some []))).alloc (.loop (e .ready none)));have c2:q.heap[w.heap.size+1]?=some (.loop (e .ready none)):=by
  rw [<-S];have:=World.alloc_heap_new (w.alloc (.deferred (some []))) (.loop (e .ready none));rwa [World.size_alloc] at this
 have c0:q.heap[w.heap.size]?=some (.deferred (some [])):=by
  rw [<-S];exact(Below.heap_alloc _ _ _ zy).trans (World.alloc_heap_new w _)
 have a7:Ext w q:=by rw [<-S];exact((Q0.refl _ w).alloc _).alloc _
 have a1:q.heap.size=w.heap.size+2:=by rw [<-S];simp
 have D:∀(O:Nat->Prop) (X:World) o,Q0 (fun b=>(O b/\M (w.heap.size+2) b)\/b=w.heap.size+1) X (X.putObj (w.heap.size+1) o):=fun O X o=>(Q0.refl _ X).putObj (.inr (.inr rfl)) o;have b5:∀(X:World) o,Q0 (fun b=>¬ K b) X (X.putObj (w.heap.size+1) o):=fun X o=>(Q0.refl _ X).putObj (.inr (fun hk=>by have:=b1 _ hk;omega)) o
 refine⟨w.heap.size+1,[{ target:=.collected w.heap.size,args:=#[] }],q,{ target:=.fn (.func gf) lb,args:=#[.func (.yield (w.heap.size+1)) #[] #[]] },q,gf,
  #[.func (.yield (w.heap.size+1)) #[] #[]]++lb,q,?_,?_,fun _ _=>trivial,?_,fun h=>by simp [Fence.wide] at h,?_⟩
 ·rw [<-S,s];exact run_enterLoop_outer _ _ _ _ _
 ·simp only [resolve,c9];simp [go_sem]
 ·simp [invoke,go_sem,b7]
 ·refine callsIn_wide.2 ((d2 (w.heap.size+1)
   (fun O pre W=>I O pre W/\(∀ b,O b->w.heap.size+2<=b/\b<W.heap.size)/\W.heap[w.heap.size+1]?=some (.loop (e .ready none))/\W.heap[w.heap.size]?=some (.deferred (some []))/\Q0 (fun b=>¬ K b) w W/\w.heap.size+2<=W.heap.size)
   (fun O pre W=>∃ c,J c O pre W/\(∀ b,O b->w.heap.size+2<=b/\b<W.heap.size)/\W.heap[w.heap.size+1]?=some (.loop (e .done (some c)))/\W.heap[w.heap.size]?=some (.deferred (some []))/\w.heap.size+2<=W.heap.size)
   q a7.of ?_ ?_ ?_ ⟨b8 _ a7 a1,fun b hb=>hb.elim,c2,c0,a7.of,by omega⟩).mono ?_)
  ·rintro O O' pre A B ⟨a2,r,a3,a4,b9,N⟩ f j;rw [a1] at f;refine⟨Y _ _ _ _ _ a2 r (f.mono fun b _ hb=>.inl hb) j,fun b hb=>?_,f.heap a3 (fun hb=>?_),f.heap a4 (fun hb=>?_),b9.after f (fun b b3 hb=>?_),Nat.le_trans N f.size⟩
   ·obtain⟨a5,a6⟩:=j b hb;exact⟨a5.elim (fun h=>(r b h).1) (fun h=>Nat.le_trans N h),a6⟩
   ·have:=(r _ hb.1).1;omega
   ·have:=(r _ hb.1).1;omega
   ·have:=(r _ hb.1).1;omega
  ·rintro O O' pre A B ⟨c,a2,r,a3,a4,N⟩ f j;rw [a1] at f;refine⟨c,R _ _ _ _ _ _ a2 r (f.mono fun b _ hb=>.inl hb) j,fun b hb=>?_,f.heap a3 (fun hb=>?_),f.heap a4 (fun hb=>?_),Nat.le_trans N f.size⟩
   ·obtain⟨a5,a6⟩:=j b hb;exact⟨a5.elim (fun h=>(r b h).1) (fun h=>Nat.le_trans N h),a6⟩
   ·have:=(r _ hb.1).1;omega
   ·have:=(r _ hb.1).1;omega
  ·rintro O pre x rest W ys a8 ⟨U,j,z,T,f,G⟩ a0;rw [a1] at a0;have b3:w.heap.size+1<W.heap.size:=by omega
   have a9:=run_yield (P:=P) (args:=ys) z (by rw [s];exact d1 _ _ x _ _ a0);rw [s] at a9;refine⟨fn,_,assign,body,a9,roundIn_of_wpIn trivial (c3 _ _ x ys W _ a0 ?_)⟩;clear a9;refine⟨_,run_beginRound z (by rw [s]),?_⟩;have d0:(W.putObj (w.heap.size+1) (.loop { e .ready none with state:=.busy })).heap[w.heap.size+1]?=some (.loop { e .ready none with state:=.busy }):=World.putObj_heap_same b3;have c5:(W.putObj (w.heap.size+1) (.loop { e .ready none with state:=.busy })).heap[w.heap.size]?=some (.deferred (some [])):=(World.putObj_heap_other oz).trans T;have Z:∀ b,O b->w.heap.size+2<=b/\b<(W.putObj (w.heap.size+1) (.loop { e .ready none with state:=.busy })).heap.size:=fun b hb=>by simpa using j b hb
   have c8:E (w.heap.size+2) O x (W.putObj (w.heap.size+1) (.loop { e .ready none with state:=.busy })) ys:=c1 _ _ _ _ _ _ a0 ((Q0.refl (fun b=>b=w.heap.size+1) W).putObj (.inr rfl) _) ⟨_,z,rfl⟩;refine wpIn_mono (c4 O pre x rest ys _ a8 (by simpa using G) Z (f.trans (b5 W _)) (Y _ _ _ _ _ U j (D O W _) (fun b hb=>⟨.inl hb,(Z b hb).2⟩)) c8) ?_
   have V:∀(jump:Option Code) (d:World),Q0 (fun b=>¬ (K b\/O b\/b=w.heap.size\/b=w.heap.size+1)) (W.putObj (w.heap.size+1) (.loop { e .ready none with state:=.busy })) d ->
     (Instr.endRound (w.heap.size+1) jump).run P d=.ok (.bool jump.isNone) (d.putObj (w.heap.size+1) (.loop (e (if jump.isNone then .ready else .done) jump))) /\
     (d.putObj (w.heap.size+1) (.loop (e (if jump.isNone then .ready else .done) jump))).heap[w.heap.size+1]?=some (.loop (e (if jump.isNone then .ready else .done) jump)) /\
     (d.putObj (w.heap.size+1) (.loop (e (if jump.isNone then .ready else .done) jump))).heap[w.heap.size]?=some (.deferred (some [])) /\
     Q0 (fun b=>¬ K b/\¬ O b) W (d.putObj (w.heap.size+1) (.loop (e (if jump.isNone then .ready else .done) jump)))/\(∀ b,O b->w.heap.size+2<=b/\b<d.heap.size):=fun jump d k=>by
    have b2:=k.heap d0 (fun h=>h (.inr (.inr (.inr rfl))));have c6:=k.heap c5 (fun h=>h (.inr (.inr (.inl rfl))));have:=run_endRound (P:=P) jump b2;rw [s] at this ⊢;have b4:¬ K (w.heap.size+1)/\¬ O (w.heap.size+1):=⟨fun hk=>by have:=b1 _ hk;omega,fun ho=>by have:=(j _ ho).1;omega⟩;refine⟨this,World.putObj_heap_same (Array.getElem?_eq_some_iff.1 b2).1,(World.putObj_heap_other oz).trans c6,?_,fun b hb=>⟨(Z b hb).1,Nat.lt_of_lt_of_le (Z b hb).2 k.size⟩⟩;exact(((Q0.refl _ W).putObj (.inr b4) _).trans (k.mono fun b _ hb=>⟨fun hk=>hb (.inl hk),fun ho=>hb (.inr (.inl ho))⟩)).putObj (.inr b4) _
   rintro b0 d4 d H;cases b0 with
   | normal=>
    obtain⟨k,y⟩:=H;obtain⟨F,C,u,l,m⟩:=V none d k;have i:∀ o b,O b->w.heap.size+2<=b/\b<(d.putObj (w.heap.size+1) o).heap.size:=fun o b hb=>by simpa using m b hb
    exact⟨_,_,F,.inl ⟨rfl,⟨Y _ _ _ _ _ y m (D O d _) (fun b hb=>⟨.inl hb,(i _ b hb).2⟩),i _,C,u,f.trans (l.mono fun b _ hb=>hb.1),Nat.le_trans G l.size⟩,l⟩⟩
   | ret=>
    obtain⟨k,y⟩:=H;obtain⟨F,C,u,l,m⟩:=V (some .ret) d k;have i:∀ o b,O b->w.heap.size+2<=b/\b<(d.putObj (w.heap.size+1) o).heap.size:=fun o b hb=>by simpa using m b hb
    exact⟨_,_,F,.inr ⟨rfl,⟨.ret,R _ _ _ _ _ _ y m (D O d _) (fun b hb=>⟨.inl hb,(i _ b hb).2⟩),i _,C,u,Nat.le_trans G l.size⟩,l⟩⟩
   | exit id=>
    obtain⟨k,y⟩:=H;obtain⟨F,C,u,l,m⟩:=V (some (.exit id)) d k;have i:∀ o b,O b->w.heap.size+2<=b/\b<(d.putObj (w.heap.size+1) o).heap.size:=fun o b hb=>by simpa using m b hb
    exact⟨_,_,F,.inr ⟨rfl,⟨.exit id,R _ _ _ _ _ _ y m (D O d _) (fun b hb=>⟨.inl hb,(i _ b hb).2⟩),i _,C,u,Nat.le_trans G l.size⟩,l⟩⟩
   | goto t=>
    obtain⟨k,y⟩:=H;obtain⟨F,C,u,l,m⟩:=V (some (.goto t)) d k;have i:∀ o b,O b->w.heap.size+2<=b/\b<(d.putObj (w.heap.size+1) o).heap.size:=fun o b hb=>by simpa using m b hb
    exact⟨_,_,F,.inr ⟨rfl,⟨.goto t,R _ _ _ _ _ _ y m (D O d _) (fun b hb=>⟨.inl hb,(i _ b hb).2⟩),i _,C,u,Nat.le_trans G l.size⟩,l⟩⟩
   | panic ch=>exact H.elim
   | outgrown=>exact H.elim
  ·rintro b0 L ⟨⟨v,rfl⟩,O,(⟨U,j,z,T,f,G⟩ | ⟨pre,x,rest,a8,c,U,j,z,T,G⟩)⟩
   ·refine⟨none,_,by have:=run_endLoop (P:=P) z (by rw [s];simp);rw [s] at this;exact this,?_⟩;have i:∀ o b,O b->w.heap.size+2<=b/\b<(L.putObj (w.heap.size+1) o).heap.size:=fun o b hb=>by simpa using j b hb
    exact c7 O _ (Y _ _ _ _ _ U j (D O L _) (fun b hb=>⟨.inl hb,(i _ b hb).2⟩)) (i _) (f.trans (b5 L _)) ((World.putObj_heap_other oz).trans T)
   ·refine⟨some c,_,by have:=run_endLoop (P:=P) z (by rw [s];simp);rw [s] at this;exact this,?_⟩;have i:∀ o b,O b->w.heap.size+2<=b/\b<(L.putObj (w.heap.size+1) o).heap.size:=fun o b hb=>by simpa using j b hb
    exact(wpIn_wide (n:=0)).2 (d3 c O pre x rest _ a8 (R _ _ _ _ _ _ U j (D O L _) (fun b hb=>⟨.inl hb,(i _ b hb).2⟩)) ((World.putObj_heap_other oz).trans T))
end Go.Ab
namespace Go.Ab
open Go.RowKit
section
variable {P:Program} {ops:Array Oper} {Q:Exit->Act->World->Prop} {md:Region.Mode} {S:World->Prop} {Lt:List Nat}
def Vj(md:Region.Mode)(ops:Array Oper)(listed:Array Bool):Prop:=
 ∀ k o,ops[k]?=some o->listed.getD k false=true->∀ e∈o.after,Region.binds md e=true->listed.getD e.on false=true
def Vw(md:Region.Mode)(ops:Array Oper)(i:Nat):Nat->Nat->Bool
 | 0,_=>false
 | f+1,k=>match ops[k]? with
  | some o=>o.after.toList.any fun e=>Region.binds md e && (e.on == i || Vw md ops i f e.on)
  | none=>false
theorem Hm{listed:Array Bool}{i:Nat}(hc:Vj md ops listed)(hi:listed.getD i false=false):∀(f k:Nat),Vw md ops i f k=true->listed.getD k false=false/\¬ k∈Region.ready md ops listed
 | 0,_,h=>by cases h
 | f+1,k,h=>by
  unfold Vw at h;cases ho:ops[k]? with
  | none=>rw [ho] at h;cases h
  | some o=>
   rw [ho] at h;obtain⟨e,he,hb⟩:=List.any_eq_true.1 h;rw [Bool.and_eq_true,Bool.or_eq_true,beq_iff_eq] at hb;have he':e∈o.after:=by simpa using he
   have hon:listed.getD e.on false=false:=by
    rcases hb.2 with h1 | h1
    ·rw [h1];exact hi
    ·exact(Hm hc hi f e.on h1).1
   constructor
   ·cases hk:listed.getD k false with
    | false=>rfl
    | true=>rw [hc k o ho hk e he' hb.1] at hon;cases hon
   ·intro hr;obtain⟨_,o',ho',hall⟩:=mem_ready.1 hr;rw [ho] at ho';cases ho';rw [hall e he' hb.1] at hon;cases hon
theorem Vj.step{a:Array Bool}{j:Nat}(m:Vj md ops a)(n:j∈Region.ready md ops a):Vj md ops (a.setIfInBounds j true):=by
 intro k o g e b d c;refine getD_set_true ?_;by_cases f:k=j
 ·subst f;obtain⟨_,p,i,l⟩:=mem_ready.1 n;rw [g] at i;cases i;exact l b d c
 ·rw [getD_set_ne false (Ne.symm f)] at e;exact m k o g e b d c
def Qg(P:Program)(md:Region.Mode)(ops:Array Oper)(Q:Exit->Act->World->Prop)(S:World->Prop)(Lt:List Nat):Nat->Array Bool->Act->World->Prop
 | 0,listed,a,w=>Region.ready md ops listed=[]/\Q .normal a w
 | fuel+1,listed,a,w=>
  (Region.ready md ops listed=[]->Q .normal a w) /\
  ∀ i∈Region.ready md ops listed,wpOp P ops Q i (fun a' w'=>(Lt.contains i=false->S w')/\Qg P md ops Q S Lt fuel (listed.setIfInBounds i true) a' w') a w
theorem U7:∀(fuel:Nat) (listed:Array Bool) (a:Act) (w:World),Qg P md ops Q S Lt fuel listed a w->wpAny P md ops Q fuel listed a w
 | 0,_,_,_,h=>h
 | fuel+1,_,_,_,h=>⟨h.1,fun i hi=>wpOp_mono (fun a' w' h'=>U7 fuel _ a' w' h'.2) (h.2 i hi)⟩
theorem Df{i:Nat}{g:Oper}{v:Value}(r:ops[i]?=some g)(B:∀(j:Nat) (o:Oper) cs b,ops[j]?=some o->o.op≠.select cs b)
  (D:∀ c a w,Q (.panic c) (a.put g.dst v) w->Q (.panic c) a w) (H:∀ j,Lt.contains j=true->Vw md ops i ops.size j=true) :
  ∀(fuel:Nat) (listed:Array Bool) (a:Act) (w:World),Vj md ops listed ->
   (∀ j oj,ops[j]?=some oj->j≠i->listed.getD j true=false->(∀ e∈oj.after,Region.binds md e=true->e.on≠i)->g.apart ops oj=true) ->
   i∈Region.ready md ops listed->YieldsIf P ops S g v a->S w ->
   Qg P md ops Q S Lt fuel (listed.setIfInBounds i true) (a.put g.dst v) w->Qg P md ops Q S Lt (fuel+1) listed a w:=by
 intro fuel
 induction fuel with
 | zero=>
  intro listed a w _ _ f p m l;refine⟨fun h=>(by rw [h] at f;cases f),fun j hj=>?_⟩;by_cases d:j=i
  ·subst d;exact p.wpOp r m ⟨fun _=>m,l⟩
  ·have:=ready_mono hj d;rw [l.1] at this;cases this
 | succ fuel ih=>
  intro listed a w u x f p m l;refine⟨fun h=>(by rw [h] at f;cases f),fun j hj=>?_⟩;by_cases d:j=i
  ·subst d;exact p.wpOp r m ⟨fun _=>m,l⟩
  ·have n:=l.2 j (ready_mono hj d);have y:listed.getD i false=false:=by
    have t:=(mem_ready.1 f).1;rcases Nat.lt_or_ge i listed.size with q | q
    ·simp [q] at t ⊢;exact t
    ·simp [Array.getElem?_eq_none q]
   have F:Lt.contains j=false:=by
    cases hl:Lt.contains j with
    | false=>rfl
    | true=>exact absurd hj (Hm u y _ _ (H j hl)).2
   obtain⟨A,oj,s,E⟩:=mem_ready.1 hj
   have I:∀ e∈oj.after,Region.binds md e=true->e.on≠i:=fun e he hb heq=>by
    have n:=E e he hb;rw [heq,y] at n;cases n
   have C:=wpOp_putIf s (x j oj s d A I) (fun cs b=>B i g cs b r) (fun cs b=>B j oj cs b s) D p n
   have G:∀ k ok,ops[k]?=some ok->k≠i->(listed.setIfInBounds j true).getD k true=false ->
     (∀ e∈ok.after,Region.binds md e=true->e.on≠i)->g.apart ops ok=true:=fun k ok hk hki hun hno=>by
    refine x k ok hk hki ?_ hno;by_cases z:j=k
    ·subst z;exact A
    ·rw [getD_set_ne true z] at hun;exact hun
   refine wpOp_mono (fun a' w' h3=>⟨h3.2.1,ih (listed.setIfInBounds j true) a' w' (u.step hj) G (ready_mono f (Ne.symm d)) h3.1 (h3.2.1 F) ?_⟩) C;rw [Array.setIfInBounds_comm _ _ d];exact h3.2.2
def Ku(md:Region.Mode)(ops:Array Oper)(listed:Array Bool):Bool:=
 (List.range ops.size).all fun k=>!listed.getD k false || match ops[k]? with
  | some o=>o.after.toList.all fun e=>!Region.binds md e || listed.getD e.on false
  | none=>true
theorem Wt{d:Array Bool}(h:Ku md ops d=true):Vj md ops d:=by
 intro j k c i e g f;have a:=List.all_eq_true.1 h j (List.mem_range.2 (Array.getElem?_eq_some_iff.1 c).1);rw [i,c] at a;simp only [Bool.not_true,Bool.false_or] at a;have b:=List.all_eq_true.1 a e (by simpa using g);rw [f] at b
 simpa using b
theorem Vh{i:Nat}{oi:Oper}{v:Value}{fuel:Nat}{listed:Array Bool}{a:Act}{w:World}(hi:ops[i]?=some oi)
  (hs:Region.noSelect ops=true) (hf:Region.free md ops listed i=true) (hr:(Region.ready md ops listed).contains i=true) (hc:Ku md ops listed=true) (hl:(Lt.all fun j=>Vw md ops i ops.size j)=true)
  (hQ:∀ c a w,Q (.panic c) (a.put oi.dst v) w->Q (.panic c) a w) (hy:YieldsIf P ops S oi v a) (hS:S w)
  (h:Qg P md ops Q S Lt fuel (listed.setIfInBounds i true) (a.put oi.dst v) w):Qg P md ops Q S Lt (fuel+1) listed a w:=
 Df hi (Region.noSelect_spec hs) hQ (fun j hj=>List.all_eq_true.1 hl j (by simpa using hj)) fuel listed a w (Wt hc) (Region.free_spec hi hf) (by simpa using hr) hy hS h
theorem tkE{i d:Nat}{oi:Oper}{v:Value}{fuel:Nat}{listed:Array Bool}{a:Act}{w:World}(hi:ops[i]?=some oi)
  (hy:YieldsIf P ops S oi v a) (hS:S w) (h:Qg P md ops Q S Lt fuel (listed.setIfInBounds i true) (a.put (some d) v) w)
  (hs:Region.noSelect ops=true:=by kernel_rfl) (hf:Region.free md ops listed i=true:=by kernel_rfl) (hr:(Region.ready md ops listed).contains i=true:=by kernel_rfl) (hc:Ku md ops listed=true:=by kernel_rfl) (hl:(Lt.all fun j=>Vw md ops i ops.size j)=true:=by kernel_rfl) (hd:oi.dst=some d:=by rfl)
  (hQ:∀ c a w,Q (.panic c) (a.put (some d) v) w->Q (.panic c) a w:=by exact fun _ _ _ h=>h):Qg P md ops Q S Lt (fuel+1) listed a w:=
 Vh hi hs hf hr hc hl (by rw [hd];exact hQ) hy hS (by rw [hd];exact h)
theorem tE(i d:Nat){oi:Oper}{v:Value}{fuel:Nat}{listed:Array Bool}{a a':Act}{w:World}
  (hS:S w) (h:Qg P md ops Q S Lt fuel (listed.setIfInBounds i true) a' w) (hi:ops[i]?=some oi:=by exact rfl)
  (hy:YieldsIf P ops S oi v a:=by(exact Or.inl ⟨by rfl,by(intro w hSw;(try dsimp only at hSw);go_simp;try with_reducible rfl)⟩)) (ha:a.put (some d) v=a':=by((try simp only [Act.put,pq]);exact rfl))
  (hs:Region.noSelect ops=true:=by kernel_rfl) (hf:Region.free md ops listed i=true:=by kernel_rfl) (hr:(Region.ready md ops listed).contains i=true:=by kernel_rfl) (hc:Ku md ops listed=true:=by kernel_rfl) (hl:(Lt.all fun j=>Vw md ops i ops.size j)=true:=by kernel_rfl) (hd:oi.dst=some d:=by rfl)
  (hQ:∀ c a w,Q (.panic c) (a.put (some d) v) w->Q (.panic c) a w:=by exact fun _ _ _ h=>h):Qg P md ops Q S Lt (fuel+1) listed a w:=
 Vh hi hs hf hr hc hl (by rw [hd];exact hQ) hy hS (by rw [hd,ha];exact h)
def Q2(P:Program)(md:Region.Mode)(ops:Array Oper)(Q:Exit->Act->World->Prop)(S:World->Prop)(Lt:List Nat)(fuel:Nat)(listed:Array Bool)(a:Act)(w:World)(rs:List Nat):Prop:=
 ∀ i∈rs,wpOp P ops Q i (fun a' w'=>(Lt.contains i=false->S w')/\Qg P md ops Q S Lt fuel (listed.setIfInBounds i true) a' w') a w
theorem Q2.nil{fuel:Nat}{listed:Array Bool}{a:Act}{w:World}:Q2 P md ops Q S Lt fuel listed a w []:=fun _ h=>by cases h
theorem Q2.cons{fuel:Nat}{listed:Array Bool}{a:Act}{w:World}{i:Nat}{o:Oper}{rs:List Nat}(ho:ops[i]?=some o)
  (h:∀ K':Act->World->Prop,Go.Shut (∀ a w,S w->(S w->Qg P md ops Q S Lt fuel (listed.setIfInBounds i true) a w)->K' a w)->if Region.wanted o (yielded ops a.tmps)=true then Oper.wp P o a w K' Q else K' (a.put o.dst undef) w)
  (hs:Q2 P md ops Q S Lt fuel listed a w rs):Q2 P md ops Q S Lt fuel listed a w (i::rs):=fun j hj=>by
 rcases List.mem_cons.1 hj with rfl | hj
 ·exact wpOp_step ho (fun K' hK=>h K' (fun a w hS hW=>hK a w ⟨fun _=>hS,hW hS⟩))
 ·exact hs j hj
theorem Q2.late{fuel:Nat}{listed:Array Bool}{a:Act}{w:World}{i:Nat}{o:Oper}{rs:List Nat}(ho:ops[i]?=some o)(hl:Lt.contains i=true)
  (h:∀ K':Act->World->Prop,Go.Shut (∀ a w,Qg P md ops Q S Lt fuel (listed.setIfInBounds i true) a w->K' a w)->if Region.wanted o (yielded ops a.tmps)=true then Oper.wp P o a w K' Q else K' (a.put o.dst undef) w)
  (hs:Q2 P md ops Q S Lt fuel listed a w rs):Q2 P md ops Q S Lt fuel listed a w (i::rs):=fun j hj=>by
 rcases List.mem_cons.1 hj with rfl | hj
 ·exact wpOp_step ho (fun K' hK=>h K' (fun a w hW=>hK a w ⟨fun q=>(by rw [hl] at q;cases q),hW⟩))
 ·exact hs j hj
theorem Do{rs:List Nat}{fuel:Nat}{listed:Array Bool}{a:Act}{w:World}(hr:Region.ready md ops listed=rs)(hne:rs≠[])
  (h:Q2 P md ops Q S Lt fuel listed a w rs):Qg P md ops Q S Lt (fuel+1) listed a w:=⟨fun h0=>absurd (hr ▸ h0) hne,hr ▸ h⟩
theorem rE(rs:List Nat){fuel:Nat}{listed:Array Bool}{a:Act}{w:World}(h:Q2 P md ops Q S Lt fuel listed a w rs)
  (hr:Region.ready md ops listed=rs:=by kernel_rfl) (hne:rs≠[]:=by simp):Qg P md ops Q S Lt (fuel+1) listed a w:=Do hr hne h
theorem Qn{listed:Array Bool}{a:Act}{w:World}(hr:Region.ready md ops listed=[])(h:Q .normal a w) :
  ∀ fuel,Qg P md ops Q S Lt fuel listed a w
 | 0=>⟨hr,h⟩
 | _+1=>⟨fun _=>h,by rw [hr];simp⟩
theorem Qz{id:Nat}{a:Act}{w:World}(Lt:List Nat)(hm:P.follows .mixedOrders=true)(hS:S w.drew)
  (h:S w.drew->Qg P .any ops Q S Lt ops.size (Array.replicate ops.size false) a w.drew):(Code.region id ops true).wp P Q a w:=
 wp_region_any hm (U7 _ _ _ _ (h hS))
theorem J2{id l n:Nat}{a:Act}{w:World}(Lt:List Nat)(hm:P.follows .mixedOrders=true)(hd:Xo ops=true)(hQ:¬ LetsOut Q)(hS:S w.drew)
  (h:S w.drew->Qg P .any ops Q S Lt ops.size (Array.replicate ops.size false) a w.drew):(Code.region id ops true).wpIn (Fence.wide.inRound l) n P Q a w:=
 Xz hm hd hQ (U7 _ _ _ _ (h hS))
end
end Go.Ab
