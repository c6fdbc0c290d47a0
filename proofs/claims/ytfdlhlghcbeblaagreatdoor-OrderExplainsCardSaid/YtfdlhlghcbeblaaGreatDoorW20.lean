/- ablautref14.place. -/
import Derived.Test.YtfdlhlghcbeblaaGreatDoorW19
set_option maxRecDepth 100000
set_option maxHeartbeats 16000000
namespace Go.Proofs.YtfdlhlghcbeblaaGreatDoor
open Go.RowKit Go.Ab
attribute [local go_sem] Oper.semAt_some Z1 Qk
def Qdd(ol:List Nat)(x:Nat):Int:=if ol.findIdx (· == x)<ol.length then(ol.findIdx (· == x):Nat) else -1
def R7(ol:List Nat)(x k:Nat):Prop:=∀ j (h:j<ol.length),j<k->ol[j]≠x
end Go.Proofs.YtfdlhlghcbeblaaGreatDoor
namespace Go.Ab
open Go.RowKit
def Qe2{α:Type}(P:Program)(gf:Nat)(lb:Array Value)(M:Nat->Nat->Prop)(E:Nat->(Nat->Prop)->α->World->Array Value->Prop) (xs:List α) (fin:Option (List PanicEntry)) (K:Nat->Prop) (w:World):Prop:=
 ∀(l:Nat) (J Jx:(Nat->Prop)->List α->World->Prop) (W:World),Q0 (fun b=>¬ K b) w W ->
  (∀ O O' pre A B,J O pre A->Q0 (fun b=>O b/\M W.heap.size b) A B->(∀ b,O' b->(O b\/A.heap.size<=b)/\b<B.heap.size)->J O' pre B) ->
  (∀ O O' pre A B,Jx O pre A->Q0 (fun b=>O b/\M W.heap.size b) A B->(∀ b,O' b->(O b\/A.heap.size<=b)/\b<B.heap.size)->Jx O' pre B) ->
  (∀ O pre x rest A ys,xs=pre++x::rest->J O pre A->E W.heap.size O x A ys->YieldAt Fence.wide 0 P l ys A fun e B=>
   (e=.returned (.bool true)/\J O (pre++[x]) B/\Q0 (fun b=>¬ K b/\¬ O b) A B)\/(e=.returned (.bool false)/\Jx O (pre++[x]) B/\Q0 (fun b=>¬ K b/\¬ O b) A B)) ->
  J (fun _=>False) [] W ->
  Calls P gf (#[.func (.yield l) #[] #[]]++lb) W fun e B=>((∃ v,e=.returned v)/\∃ O,((fin=none/\J O xs B)\/∃ pre x rest,xs=pre++x::rest/\Jx O (pre++[x]) B))\/(∃ ch,fin=some ch/\e=.panicked ch/\∃ O,J O xs B)
theorem L3{P:Program}{fn:Func}{tmps:Array Value}{R:Ending->World->Prop}{ch:List PanicEntry}{base:Nat} :
  ∀(ds:List Deferred) (w:World),Qs base ds w->(∀ w',Q0 (Shut base w) w w'->w'.heap.size=w.heap.size->R (.panicked ch) w') ->
   LeavesInM Fence.wide 0 P fn tmps R ds (.panicking ch) w
 | [],w,_,h=>h w (Q0.refl _ _) rfl
 | d::ds,w,⟨r,hb,hd,hr,hn,hm⟩,h=>by
  refine⟨by simp,.inl ⟨r,_,by rw [hd],run_takeDeferred hr,?_⟩⟩;refine L3 ds _ (hm.keep' (S:=(·=r)) ((Q0.refl (·=r) w).putObj (.inr rfl) _) (fun b e=>by subst e;exact hn)) ?_;intro w' ht hs;have hput:Q0 (Shut base w) w (w.putObj r (.deferred none)):=(Q0.refl _ w).putObj (.inr ⟨hb,fun o ho=>by rw [hr] at ho;cases ho;rfl⟩) _;refine h w' (hput.after ht fun b hlt hsh=>?_) (by rw [hs];simp);refine⟨hsh.1,fun o ho=>?_⟩;by_cases hbr:b=r
  ·subst hbr;rw [hr] at ho;cases ho;rfl
  ·exact hsh.2 o (by rw [World.putObj_heap_other hbr];exact ho)
theorem P8{P:Program}{fn:Func}{R:Ending->World->Prop}{a:Act}{w:World}{ch:List PanicEntry}{base:Nat}(hm:Qs base a.defers w)
  (hR:∀ w',Q0 (Shut base w) w w'->w'.heap.size=w.heap.size->R (.panicked ch) w') :
  bodyPostM Fence.wide 0 P fn R (.panic ch) a w:=L3 _ _ hm hR
end Go.Ab
namespace Go.Ab
open Go.RowKit
def Q9b{α:Type}(P:Program)(gf:Nat)(lb:Array Value)(M:Nat->Nat->Prop)(E:Nat->α->World->Array Value->Prop)(xs:List α)(fin:Option (List PanicEntry)) (T:Nat->Prop) (C:World->Prop) (w:World):Prop:=
 ∀(l:Nat) (J Jx:List α->World->Prop) (W:World),Q0 T w W ->
  w.heap.size<=l->(∃ o,W.heap[l]?=some o/\o.isCells=false) ->
  (∀ pre A B,J pre A->Q0 (fun b=>W.heap.size<=b/\M W.heap.size b) A B->J pre B) ->
  (∀ pre A B,Jx pre A->Q0 (fun b=>W.heap.size<=b/\M W.heap.size b) A B->Jx pre B) ->
  (∀ pre A,J pre A->C A/\∃ o,A.heap[l]?=some o/\o.isCells=false) ->
  (∀ pre x rest A ys,xs=pre++x::rest->J pre A->E W.heap.size x A ys->YieldAt Fence.wide 0 P l ys A fun e B=>
   (e=.returned (.bool true)/\J (pre++[x]) B/\Q0 (fun b=>T b\/b=l) A B)\/(e=.returned (.bool false)/\Jx (pre++[x]) B/\Q0 (fun b=>T b\/b=l) A B)) ->
  J [] W ->
  Calls P gf (#[.func (.yield l) #[] #[]]++lb) W fun e B=>((∃ v,e=.returned v)/\((fin=none/\J xs B)\/∃ pre x rest,xs=pre++x::rest/\Jx (pre++[x]) B))\/(∃ ch,fin=some ch/\e=.panicked ch/\J xs B)
theorem Q5v{α:Type}{P:Program}{g:Operand}{ps:Array Tmp}{assign body:Code}{Q:Exit->Act->World->Prop}{a:Act}{w:World}
  {gf:Nat} {lb:Array Value} (c5:a.eval g=.func (.func gf) #[] lb) (b3:∀ args w,(callFunc gf args).run P w=.ok (.enter gf args) w)
  {M:Nat->Nat->Prop} {E:Nat->α->World->Array Value->Prop} {xs:List α} {u:Option (List PanicEntry)} {T:Nat->Prop} {C:World->Prop} (d0:Q9b P gf lb M E xs u T C w) (b8:∀ b,T b->b<w.heap.size) (c9:∀ n x A ys,E n x A ys->ys.size=ps.size)
  (_hEs:∀ n x A B ys,E n x A ys->Q0 (fun b=>b=w.heap.size+1) A B->(∃ o,A.heap[w.heap.size+1]?=some o/\o.isCells=false)->E n x B ys)
  (I:List α->World->Prop) (L:Code->List α->World->Prop) (b6:∀ pre A,I pre A->C A)
  (U:∀ pre A B,I pre A->Q0 (fun b=>(w.heap.size+2<=b/\M (w.heap.size+2) b)\/b=w.heap.size+1) A B->(∃ o,A.heap[w.heap.size+1]?=some o/\o.isCells=false)->I pre B)
  (O:∀ c pre A B,L c pre A->Q0 (fun b=>(w.heap.size+2<=b/\M (w.heap.size+2) b)\/b=w.heap.size+1) A B->(∃ o,A.heap[w.heap.size+1]?=some o/\o.isCells=false)->L c pre B)
  (b4:∀ W,Ext w W->W.heap.size=w.heap.size+2->I [] W) (b2:Array Value->Array Value->Array Value)
  (c0:∀(n:Nat) (pre:List α) (x:α) (rest:List α) (ys:Array Value) (W:World) (Kn:Act->World->Prop),xs=pre++x::rest->I pre W->E n x W ys->(∀ W',Q0 T W W'->I (pre++[x]) W'->Kn { tmps:=b2 ys a.tmps,defers:=[] } W') ->
   assign.wpIn (Fence.wide.inRound (w.heap.size+1)) 0 P (Exit.then Kn (fun _ _ _=>False)) { tmps:=(ps.zip ys).foldl (fun t (p,v)=>t.setIfInBounds p v) a.tmps,defers:=[] } W)
  (c1:∀(pre:List α) (x:α) (rest:List α) (ys:Array Value) (W:World),xs=pre++x::rest->w.heap.size+2<=W.heap.size->Q0 (fun b=>T b\/w.heap.size<=b) w W->I (pre++[x]) W ->
   body.wpIn (Fence.wide.inRound (w.heap.size+1)) 0 P (Pb (fun b=>¬ T b) I (fun c=>L c) (pre++[x]) W) { tmps:=b2 ys a.tmps,defers:=[] } W)
  (c8:∀ ch W,u=some ch->I xs W->W.heap[w.heap.size]?=some (.deferred (some []))->w.heap.size+2<=W.heap.size->Q (.panic ch) { a with defers:={ target:=.collected w.heap.size,args:=#[] }::a.defers } W)
  (c4:u=none->∀ W,I xs W->W.heap[w.heap.size]?=some (.deferred (some []))->w.heap.size+2<=W.heap.size->Q .normal { a with defers:={ target:=.collected w.heap.size,args:=#[] }::a.defers } W)
  (d1:∀ c pre x rest W,xs=pre++x::rest->L c (pre++[x]) W->W.heap[w.heap.size]?=some (.deferred (some []))->c.wp P Q { a with defers:={ target:=.collected w.heap.size,args:=#[] }::a.defers } W) :
  (Code.rangeFunc g ps assign body).wp P Q a w:=by
 refine(wpIn_wide (n:=0)).1 (wpIn_rangeFunc ?_);intro fn _;obtain⟨f,r⟩:∃ f:LoopState->Option Code->Loop,f=fun st pe=>{ state:=st,pending:=pe,fn,tmps:=a.tmps,params:=ps,assign,body,defers:=w.heap.size }:=⟨_,rfl⟩;obtain⟨l,R⟩:=zE ((w.alloc (.deferred (some []))).alloc (.loop (f .ready none)));have b1:l.heap[w.heap.size+1]?=some (.loop (f .ready none)):=by
  rw [<-R];have:=World.alloc_heap_new (w.alloc (.deferred (some []))) (.loop (f .ready none));rwa [World.size_alloc] at this
 have b7:l.heap[w.heap.size]?=some (.deferred (some [])):=by
  rw [<-R];exact(Below.heap_alloc _ _ _ zy).trans (World.alloc_heap_new w _)
 have a5:Ext w l:=by rw [<-R];exact((Q0.refl _ w).alloc _).alloc _
 have Y:l.heap.size=w.heap.size+2:=by rw [<-R];simp
 have V:∀ b,w.heap.size<=b->¬ T b:=fun b hb d=>by have:=b8 b d;omega
 have H:∀(X:World) o,Q0 (fun b=>(w.heap.size+2<=b/\M (w.heap.size+2) b)\/b=w.heap.size+1) X (X.putObj (w.heap.size+1) o):=fun X o=>(Q0.refl _ X).putObj (.inr (.inr rfl)) o
 refine⟨w.heap.size+1,[{ target:=.collected w.heap.size,args:=#[] }],l,{ target:=.fn (.func gf) lb,args:=#[.func (.yield (w.heap.size+1)) #[] #[]] },l,gf,
  #[.func (.yield (w.heap.size+1)) #[] #[]]++lb,l,?_,?_,fun _ _=>trivial,?_,fun h=>by simp [Fence.wide] at h,?_⟩
 ·rw [<-R,r];exact run_enterLoop_outer _ _ _ _ _
 ·simp only [resolve,c5];simp [go_sem]
 ·simp [invoke,go_sem,b3]
 ·refine callsIn_wide.2 ((d0 (w.heap.size+1)
   (fun pre W=>I pre W/\W.heap[w.heap.size+1]?=some (.loop (f .ready none))/\W.heap[w.heap.size]?=some (.deferred (some []))/\Q0 (fun b=>T b\/w.heap.size<=b) w W/\w.heap.size+2<=W.heap.size)
   (fun pre W=>∃ c,L c pre W/\W.heap[w.heap.size+1]?=some (.loop (f .done (some c)))/\W.heap[w.heap.size]?=some (.deferred (some []))/\w.heap.size+2<=W.heap.size)
   l a5.of (Nat.le_succ _) ⟨_,b1,rfl⟩ ?_ ?_ ?_ ?_ ⟨b4 _ a5 Y,b1,b7,a5.of,by omega⟩).mono ?_)
  ·rintro pre A B ⟨N,y,a3,b5,a4⟩ d;rw [Y] at d;exact⟨U _ _ _ N (d.mono fun b _ hb=>.inl hb) ⟨_,y,rfl⟩,d.heap y (fun hb=>by have:=hb.1;omega),d.heap a3 (fun hb=>by have:=hb.1;omega),b5.after d (fun b a9 hb=>by have:=hb.1;omega),Nat.le_trans a4 d.size⟩
  ·rintro pre A B ⟨c,N,y,a3,a4⟩ d;rw [Y] at d;exact⟨c,O _ _ _ _ N (d.mono fun b _ hb=>.inl hb) ⟨_,y,rfl⟩,d.heap y (fun hb=>by have:=hb.1;omega),d.heap a3 (fun hb=>by have:=hb.1;omega),Nat.le_trans a4 d.size⟩
  ·rintro pre A ⟨N,y,_⟩;exact⟨b6 _ _ N,_,y,rfl⟩
  ·rintro pre x rest W ys a0 ⟨q,i,m,d,s⟩ a6;rw [Y] at a6;have a9:w.heap.size+1<W.heap.size:=by omega
   have b0:=run_yield (P:=P) (args:=ys) i (by rw [r];exact c9 _ x _ _ a6);rw [r] at b0;refine⟨fn,_,assign,body,b0,roundIn_of_wpIn trivial (c0 _ pre x rest ys W _ a0 q a6 ?_)⟩;intro W' S q;clear b0;have i:=S.heap i (V _ oz);have m:=S.heap m (V _ oz);have d2:=d;have d:=d.trans (S.mono fun b _ h=>.inl h);have Z:=s;have s:=Nat.le_trans s S.size;have a9:w.heap.size+1<W'.heap.size:=by omega
   have d3:Q0 (fun b=>T b\/b=w.heap.size+1) W W':=S.mono fun b _ h=>.inl h;refine⟨_,run_beginRound i (by rw [r]),?_⟩;have c7:(W'.putObj (w.heap.size+1) (.loop { f .ready none with state:=.busy })).heap[w.heap.size+1]?=some (.loop { f .ready none with state:=.busy }):=World.putObj_heap_same a9;have c2:(W'.putObj (w.heap.size+1) (.loop { f .ready none with state:=.busy })).heap[w.heap.size]?=some (.deferred (some [])):=(World.putObj_heap_other oz).trans m;have b9:Q0 (fun b=>T b\/w.heap.size<=b) w (W'.putObj (w.heap.size+1) (.loop { f .ready none with state:=.busy })):=d.putObj (.inl (Nat.le_succ _)) _;refine wpIn_mono (c1 pre x rest ys _ a0 (by simpa using s) b9 (U _ _ _ q (H W' _) ⟨_,i,rfl⟩)) ?_
   have u:∀(jump:Option Code) (e:World),Q0 (fun b=>¬ ¬ T b) (W'.putObj (w.heap.size+1) (.loop { f .ready none with state:=.busy })) e ->
     (Instr.endRound (w.heap.size+1) jump).run P e=.ok (.bool jump.isNone) (e.putObj (w.heap.size+1) (.loop (f (if jump.isNone then .ready else .done) jump))) /\
     (e.putObj (w.heap.size+1) (.loop (f (if jump.isNone then .ready else .done) jump))).heap[w.heap.size+1]?=some (.loop (f (if jump.isNone then .ready else .done) jump)) /\
     (e.putObj (w.heap.size+1) (.loop (f (if jump.isNone then .ready else .done) jump))).heap[w.heap.size]?=some (.deferred (some [])) /\
     Q0 (fun b=>T b\/b=w.heap.size+1) W (e.putObj (w.heap.size+1) (.loop (f (if jump.isNone then .ready else .done) jump)))/\(∃ o,e.heap[w.heap.size+1]?=some o/\o.isCells=false):=fun jump e k=>by
    have a8:=k.heap c7 (fun h=>h (V _ oz));have c3:=k.heap c2 (fun h=>h (V _ oz));have:=run_endRound (P:=P) jump a8;rw [r] at this ⊢;refine⟨this,World.putObj_heap_same (Array.getElem?_eq_some_iff.1 a8).1,(World.putObj_heap_other oz).trans c3,?_,_,a8,rfl⟩;exact(d3.trans ((Q0.refl _ W').putObj (.inr (.inr rfl)) _)).trans (k.mono fun b _ hb=>.inl (Classical.byContradiction hb)) |>.putObj (.inr (.inr rfl)) _
   have c6:∀ {X:World},Q0 (fun b=>T b\/b=w.heap.size+1) W X->Q0 (fun b=>T b\/w.heap.size<=b) w X:=fun h=>d2.trans (h.mono fun b _ hb=>hb.imp id (fun a2=>by omega));rintro a2 d4 e K;cases a2 with
   | normal=>
    obtain⟨k,D⟩:=K;obtain⟨J,F,z,j,G⟩:=u none e k;exact⟨_,_,J,.inl ⟨rfl,⟨U _ _ _ D (H e _) G,F,z,c6 j,Nat.le_trans Z j.size⟩,j⟩⟩
   | ret=>
    obtain⟨k,D⟩:=K;obtain⟨J,F,z,j,G⟩:=u (some .ret) e k;exact⟨_,_,J,.inr ⟨rfl,⟨.ret,O _ _ _ _ D (H e _) G,F,z,Nat.le_trans Z j.size⟩,j⟩⟩
   | exit id=>
    obtain⟨k,D⟩:=K;obtain⟨J,F,z,j,G⟩:=u (some (.exit id)) e k;exact⟨_,_,J,.inr ⟨rfl,⟨.exit id,O _ _ _ _ D (H e _) G,F,z,Nat.le_trans Z j.size⟩,j⟩⟩
   | goto t=>
    obtain⟨k,D⟩:=K;obtain⟨J,F,z,j,G⟩:=u (some (.goto t)) e k;exact⟨_,_,J,.inr ⟨rfl,⟨.goto t,O _ _ _ _ D (H e _) G,F,z,Nat.le_trans Z j.size⟩,j⟩⟩
   | panic ch=>exact K.elim
   | outgrown=>exact K.elim
  ·rintro a2 a1 (⟨⟨v,rfl⟩,(⟨a7,q,i,m,d,s⟩ | ⟨pre,x,rest,a0,c,q,i,m,s⟩)⟩ | ⟨ch,a7,rfl,q,i,m,d,s⟩)
   ·refine⟨none,_,by have:=run_endLoop (P:=P) i (by rw [r];simp);rw [r] at this;exact this,?_⟩;exact c4 a7 _ (U _ _ _ q (H a1 _) ⟨_,i,rfl⟩) ((World.putObj_heap_other oz).trans m) (by simpa using s)
   ·refine⟨some c,_,by have:=run_endLoop (P:=P) i (by rw [r];simp);rw [r] at this;exact this,?_⟩;exact(wpIn_wide (n:=0)).2 (d1 c pre x rest _ a0 (O _ _ _ _ q (H a1 _) ⟨_,i,rfl⟩) ((World.putObj_heap_other oz).trans m))
   ·exact c8 ch a1 a7 q m s
end Go.Ab
namespace Go.Proofs.YtfdlhlghcbeblaaGreatDoor
open Go.RowKit Go.Ab
attribute [local go_sem] Oper.semAt_some Z1 Qk
def Jq:List Q5->Wd->Nat->List (Nat × Wd)
 | [],u,i=>[(i,u)]
 | l::ls,u,i=>(i,u)::(if trE l u=0 then Jq ls (Xs l u) (i+1) else [])
def Fc:List PanicEntry:=[{ v:=.iface 221 (.int .i64 11),recovered:=false }]
def W6(ls:List Q5)(ws:Wd):Option (List PanicEntry):=if (Yf ls ws).isSome=true then none else some Fc
def Qc6(_:Nat)(x:Nat × Wd)(W:World)(ys:Array Value):Prop:=∃ v,ys=#[.int .i64 (x.1:Int),v]/\Zc W v x.2
theorem Ni:∀(ls:List Q5) (ws:Wd) (i:Nat) (u:Wd),Yf ls ws=some u->∃ pre,Jq ls ws i=pre++[(i+ls.length,u)]
 | [],ws,i,u,h=>by cases h;exact⟨[],rfl⟩
 | l::ls,ws,i,u,h=>by
  unfold Yf at h
  split at h
  ·rename_i h0
   obtain⟨pre,hp⟩:=Ni ls _ (i+1) u h;refine⟨(i,ws)::pre,?_⟩;unfold Jq;rw [if_pos h0,hp,List.length_cons,show i+(ls.length+1)=i+1+ls.length by omega];rfl
  ·cases h
theorem Mx(ls:List Q5)(u:Wd)(i:Nat):Jq ls u i=(i,u)::(Jq ls u i).tail:=by cases ls <;> rfl
theorem S6{A B:World}{v:Value}{u:Wd}{D l:Nat}{M:Option Addr}{L K:Nat}{t:TypeId}{fr:Nat × Nat}(h:Zc A v u)(g:Q0 (fun b=>b=D\/b=l) A B) (z:A.heap[D]?=some (.cells #[.slice M L K] t fr)) (F:∃ o,A.heap[l]?=some o/\o.isCells=false):Zc B v u:=by
 obtain⟨k,n,rfl,⟨⟨q,r,m,p,H,w⟩,x⟩,y⟩:=h;refine⟨k,n,rfl,⟨⟨q,r,m,p,H,fun hn=>?_⟩,x⟩,y⟩;obtain⟨c,e,C,E,d⟩:=w hn;have G:¬ (c=D\/c=l):=by
  rintro(rfl | rfl)
  ·have a:=d 0 oz;rw [Nat.add_zero] at a;unfold World.cell? at a;simp only [z] at a;cases e with
   | zero=>
    rw [List.getD_eq_getElem?_getD] at a;cases u with
    | nil=>simp at hn
    | cons s u=>simp [Zt] at a
   | succ e=>simp at a
  ·obtain⟨o,I,J⟩:=F;obtain⟨N,f,i⟩:=Kp (d 0 oz);simp only at f;rw [I] at f;cases f;rw [J] at i;cases i
 exact⟨c,e,C,Nat.lt_of_lt_of_le E g.size,fun j hj=>g.cell_some (d j hj) G⟩
theorem Q33{w0 w:World}{BL BW D n:Nat}{ps:Qg}{lo:Option Addr}{lc:Nat}{vo:Option Addr}{vn vc:Nat}{ws:Wd}(d1:Ext w0 w)(u6:w0.heap.size<=D)(a9:Qz w0 (.slice lo n lc) ps) (b0:ps.length=n) (m5:∀ p∈ps,Zw p.1=true)
  (f2:Qb w0 (.slice vo vn vc) ws) (f1:ws.length=vn) (f3:wE ws=0) (k9:Tab w0) (d8:w.heap[BL]?=some (.cells #[.slice lo n lc] 26 (0,0))) (l3:w.heap[BW]?=some (.cells #[.slice vo vn vc] 99 (0,0))) (m4:BL≠D) (t5:BW≠D) :
  Q9b Tryz.prog 176 #[.pointer (some ⟨BW,0,none⟩),.pointer (some ⟨BL,0,none⟩)] (fun _ _=>False) Qc6 (Jq (ps.map (·.1)) ws 0) (W6 (ps.map (·.1)) ws) (fun b=>b=D) (fun A=>∃ so sn sc,A.heap[D]?=some (.cells #[.slice so sn sc] 99 (0,0))) w:=by
 intro f7 c6 u1 s5 z u9 u8 k6 t3 k3 d6 c9;have v1:=(Array.getElem?_eq_some_iff.1 d8).1;have l0:=z.heap d8 m4;have l4:=z.heap l3 t5;have d2:Ext w0 s5:=Q0.after d1 z (fun b hb Y=>by omega);have v0:=d1.size;have m7:ps.length<=maxLen:=a9.1.2.1;rw [b0] at m7;unfold maxLen at m7;have t7:ws.length<=32:=Q31 f3;have n8:=f2.2;have l5:=fun(d:World) (i:Ext w0 d)=>Si (f2.ext i) oz;have k7:∀ g A B,c6 g A->Ext A B->c6 g B:=fun g A B a6 he=>k6 g A B a6 (Ext.of he);have n1:∀ d,Ext w0 d->∀ B,Q0 (fun b=>b=D\/b=f7) d B->Ext w0 B:=fun d i B z=>Q0.after i z (fun b hb m=>by rcases m with m | m <;> omega);obtain⟨f,a1⟩:=zE (ps.map (·.1));obtain⟨E,d3⟩:=zE (Jq f ws 0);rw [a1,d3] at d6 ⊢
 have l9:∀ c (m1:c<n),∃ p,ps[c]?=some p/\Zw p.1=true/\f[c]?=some p.1/\(∀ x∈p.1.outs,Jl x):=fun c m1=>by
  have s:c<ps.length:=by omega
  refine⟨ps[c],List.getElem?_eq_getElem s,m5 _ (List.getElem_mem s),by rw [<-a1,List.getElem?_map,List.getElem?_eq_getElem s];rfl,?_⟩;obtain⟨_,_,_,_,_,_,_,_,_,t6⟩:=a9.2 _ (List.getElem_mem s);exact t6.2
 have m3:f.length=n:=by rw [<-a1,List.length_map,b0]
 obtain⟨q5,p9,g7,j1,g2,i3,q2,g5⟩:=Zh8 (fun(d:World) (i:Ext w0 d)=>a9.ext i) l5 k7 d6 k3 n1 l9 d3;obtain⟨c3,i6,s3,g6,r8,X,r4⟩:=Zh7 m3 n8 f3 c9 (fun(d:World) (i:Ext w0 d)=>k9.keep i id) f1 b0;rw [f1] at t7;clear a9 l5 k7 d6 k3 n1 l9 d3 m3 n8 f3 c9 k9 k6 t3 d1 f2 m5 a1 z d8 l3 f1 b0;show Calls _ _ #[.func (.yield f7) #[] #[],.pointer (some ⟨BW,0,none⟩),.pointer (some ⟨BL,0,none⟩)] _ _;go_enter Tryz.func176,Tryz.ntmps176;have t0:=cell_of_one l4;go_wp2_with fail;have d9:=p9.out _ d2;rw [X.out] at d9;refine d9.mono ?_;rintro Y f9 ⟨r,q,rfl,k8,a2⟩;have k4:Ext w0 f9:=d2.trans a2;have l1:=a2.keep l0;have C:Zc f9 (.slice r vn q) ws:=by have:=Zc.own (u:=ws) (by rw [X.out];exact k8) i6.out;rw [X.out] at this;exact this
 have e1:=g7.out _ _ _ g6.out a2;have f0:E=[]++(0,ws)::(Jq f ws 0).tail:=by
  rw [<-g5.out];cases f with
  | nil=>rfl
  | cons a b=>rfl
 obtain⟨t1,t9,s7,s8,f6,K⟩:=j1.out [] (0,ws) _ f9 #[.int .i64 0,.slice r vn q] f0 e1 ⟨_,rfl,C⟩;obtain⟨⟨so,sn,sc,I⟩,Q⟩:=g2.out _ _ e1;obtain⟨r7,H,G,g4,g1,S,W⟩:=Zh7 f0 K C k4 l1 I Q;clear K C k4 l1 I Q e1 f0 k8 a2 d9 t0 l0 l4 d2;go_upto_region 1 with (fail)
 refine(wpIn_wide (n:=0)).1 ?_;gi_wp2;refine H.out.mono ?_;rintro Y w2 (⟨rfl,Z,k⟩ | ⟨rfl,Z,k⟩);case inr=>
  gi_wp2;go_wp2;refine bodyPost_ret (results_none rfl _ _ _) rfl ?_;exact .inl ⟨⟨_,rfl⟩,.inr ⟨[],(0,ws),_,r7.out,Z⟩⟩
 have J:=i3.out _ g4.out _ k;have n3:=S6 G.out k S.out W.out;have l2:=k.heap g1.out (by rintro(m | m);exact m4 m;omega);obtain⟨i4,o,F⟩:=Zh3 n3 Z J;clear n3 Z J k H G g4 g1 S W f6;have s9:=cell_of_one l2;gi_wp2;go_wp2
 refine wp_loop (fun a d=>∃(c:Nat) (g:List (Nat × Wd)) (e:Wd) (r:Option Addr) (b5 q:Nat),a.defers=[]/\gS a [0,4,15,16,17]=(40,[.func (.yield f7) #[] #[],.slice r b5 q,.slice lo n lc,.int .i64 n,.int .i64 c])/\c<=n/\E=g++Jq (f.drop c) e c/\Yf (f.take c) ws=some e/\c6 (g++[(c,e)]) d/\Zc d (.slice r b5 q) e/\e.length=b5/\wE e=0/\X3 e/\Ext w0 d)
  (fun a _=>((n:Int) - intOf (a.tmps.getD 17 undef)).toNat) ?_ ?_
 ·exact⟨0,[],ws,r,vn,q,rfl,rfl,Nat.zero_le _,by rw [<-g5.out];rfl,rfl,o.out,i4.out,X.out,s3.out,i6.out,F.out⟩
 clear i4 o F g6 s9 l2;rintro⟨w1,_⟩ d ⟨c,g,e,r,b5,q,t4,n2,m1,l8,l7,a6,C,n5,n9,o0,i⟩;subst t4;obtain⟨u,rfl⟩:=Qq n2;clear n2;obtain⟨c1,T,c2,G,s0,i7,i8,U⟩:=Zh8 l8 l7 a6 C n5 n9 o0 i;clear l8 l7 a6 C n5 n9 o0 i;by_cases e2:c<n;case neg=>
  obtain rfl:c=n:=by omega
  have s:¬ ((c:Int)<(c:Int)):=by omega
  have j:E=g++[(c,e)]:=by
   have:=c1.out;rw [List.drop_eq_nil_of_le (by rw [c3.out];exact Nat.le_refl _)] at this;exact this
  have O:W6 f ws=none:=by
   have:=T.out;rw [Q7m (by rw [c3.out];exact Nat.le_refl _)] at this;unfold W6;rw [this];rfl
  have c5:=Zh j;have c0:=Zh O;clear j O;go_wp2;go_end0
  exact .inl ⟨⟨_,rfl⟩,.inl ⟨c0.out,by rw [c5.out];exact c2.out⟩⟩
 have s:(c:Int)<(n:Int):=by omega
 have c9:(0:Int)<=(c:Int):=by omega
 obtain⟨p,e4,e3,e5,e6⟩:=q2.out c e2;have m2:=q5.out d U.out;have k:c<ps.length:=by rw [r4.out];exact e2
 obtain⟨t2,t8,u4,R,u7,b1,a8,d0⟩:=m2.at k;have m6:ps[c]=p:=by rw [List.getElem?_eq_getElem k] at e4;exact Option.some.inj e4
 rw [m6] at b1 a8 d0;simp only [zV] at R;obtain⟨rfl,e7,rfl⟩:=R;obtain⟨b2,v3⟩:=p;dsimp only at b1 a8 d0 e3 e5 e6;obtain⟨p2,o5,p7,o7,p0,j6,j8,p3,j2,k0,o6,p8,o8,p1,j7,j9,p4,j3,k1,o4,j4,o3,p6,j5,p5,o9,M,g8,r3,r5,q3,r2,r1,q7,q8,q9,r0,q6,v4,v5,v6,v7,v8⟩:=Y9 a8;subst M;have v2:IntKind.i64.wrap ((c:Int)+1)=(c:Int)+1:=IntWalk.i64_in _ oz;obtain⟨i2,i1,i0,g9⟩:=Zh4 b1 e6 e5 e3;clear e7 m6 e4 m2 a8 d0 k b1 e6 e5 e3 r3 r5 q3 r2 r1 q7 q8 q9 r0 q6;obtain⟨c7,a3⟩:=zE (d.alloc (.cells #[.string p2,.int .i64 o5,.int .u32 (p7:Int),.int .u32 (o7:Int),.bool p0,.int .i64 j6,.int .i64 j8,.slice p3 j2 k0,.int .i64 o6,.int .u32 (p8:Int),.int .u32 (o8:Int),.bool p1,.int .i64 j7,.int .i64 j9,.slice p4 j3 k1,.slice o4 j4 o3,.slice p6 j5 p5,.int .i64 o9] 102));have t:Ext d c7:=by rw [<-a3];exact(Q0.refl _ d).alloc _
 have f4:c7.heap[d.heap.size]?=some (.cells #[.string p2,.int .i64 o5,.int .u32 (p7:Int),.int .u32 (o7:Int),.bool p0,.int .i64 j6,.int .i64 j8,.slice p3 j2 k0,.int .i64 o6,.int .u32 (p8:Int),.int .u32 (o8:Int),.bool p1,.int .i64 j7,.int .i64 j9,.slice p4 j3 k1,.slice o4 j4 o3,.slice p6 j5 p5,.int .i64 o9] 102 (0,0)):=by rw [<-a3];exact Q2 rfl
 obtain⟨s6,d5⟩:=zE d.heap.size;rw [d5] at f4;have i9:=Zh f4;have i5:=Zh a3;clear f4 a3;go_upto_region 5 with (refine Yn (by rfl) 102 (.tmp 20) rfl t2 (t8+c*18) zr _ _ i2.out Tryz.underlying102 rfl kz ?_)
 rw [i5.out];have u0:=Zh d5;clear d5;obtain⟨u3,u5,R,o1,l6⟩:=G.out;simp only [zV] at R;obtain⟨rfl,e7,rfl⟩:=R;have L:=Q2y (g8.out.ext t) (o1.ext t) l6 (r8.out c7 (U.out.trans t));rw [s0.out] at L;have M:=Q78 g9.out i7.out;have a4:=Qaz i1.out i8.out;have P:c<f.length:=by rw [c3.out];exact e2
 have a5:f[c]=b2:=by have:=i0.out;rw [List.getElem?_eq_getElem P] at this;exact Option.some.inj this
 have N:=So P ws;rw [T.out,Option.bind_some,a5] at N;have v:=c1.out;rw [List.drop_eq_getElem_cons P,a5] at v;have d7:trE b2 e≠0->Yf f ws=none:=fun m=>Q50 P T.out (by rw [a5];exact m);unfold Jq at v;obtain⟨g0,m8⟩:=zE (trE b2 e);rw [m8] at L M a4 N v d7;obtain⟨l,m9⟩:=zE (Xs b2 e);rw [m9] at L a4 N v;obtain⟨g3,b8,b7,b9,V,b6⟩:=Zh6 L M a4 N v d7;clear e7 L M a4 N v d7 a5 P m8 m9 o1 l6 G c1 T i0 i1 g9 i7 i8 g8 i2 i5
 go_wp2_with (refine wpList_load_row rfl 102 (.tmp 6) rfl s6 rfl _ _ _ _ i9.out Tryz.underlying102 rfl Tryz.lawInfo ?_)
 refine g3.out.mono ?_;rintro Y c8 ⟨v9,rfl,⟨b4,b3,rfl,e9,e8⟩,d4⟩;have J:Ext w0 c8:=U.out.trans (t.trans d4);have m0:=g7.out _ _ _ c2.out (t.trans d4);obtain⟨f8,y⟩:=zE l.length;rw [y] at e9 e8 ⊢;have n0:Zc c8 (.slice b4 f8 b3) l:=⟨b4,b3,by rw [y],by rw [y];exact e9,by rw [y];exact e8⟩;obtain⟨c4,o,F,r6⟩:=Zh4 n0 m0 J y;clear n0 m0 J y e9 e8 t d4 g3 i9 c2 U;by_cases k2:g0=0;case neg=>
  obtain rfl:g0=11:=b8.out.resolve_left k2;have j:=V.out;rw [if_neg zd] at j;have O:W6 f ws=some Fc:=by unfold W6;rw [b6.out zd];rfl
  have c5:=Zh j;have c0:=Zh O;clear j O V b6 b9 b7 b8;go_wp2;refine⟨rfl,.inr ⟨Fc,c0.out,rfl,?_⟩⟩;rw [c5.out];exact o.out
 subst k2;have j:=V.out;rw [if_pos rfl,Mx] at j;have e0:=b9.out;rw [if_pos rfl] at e0;obtain⟨n6,n7⟩:=b7.out rfl;obtain⟨q0,s1,s2⟩:=Zh3 e0 n6 n7;have f5:E=(g++[(c,e)])++(c+1,l)::(Jq (f.drop (c+1)) l (c+1)).tail:=by rw [j,List.append_assoc];rfl
 have o2:E=(g++[(c,e)])++Jq (f.drop (c+1)) l (c+1):=by rw [f5,<-Mx]
 have j0:=Zh f5;have s4:=Zh o2;clear j e0 n6 n7 f5 o2 V b6 b9 b7 b8;obtain⟨t1,t9,s7,s8,f6,K⟩:=j1.out (g++[(c,e)]) (c+1,l) _ c8 #[.int .i64 ((c:Int)+1),.slice b4 f8 b3] j0.out o.out ⟨_,rfl,c4.out⟩;obtain⟨⟨so,sn,sc,I⟩,Q⟩:=g2.out _ _ o.out;obtain⟨H,S,W⟩:=Zh3 K I Q;clear K I Q;go_upto_region 8 with (fail)
 refine(wpIn_wide (n:=0)).1 ?_;gi_wp2;refine H.out.mono ?_;rintro Y u2 (⟨rfl,a0,a7⟩ | ⟨rfl,a0,a7⟩);case inr=>
  gi_wp2;go_wp2;refine bodyPost_ret (results_none rfl _ _ _) rfl ?_;exact .inl ⟨⟨_,rfl⟩,.inr ⟨g++[(c,e)],(c+1,l),_,j0.out,a0⟩⟩
 have k5:=i3.out _ F.out _ a7;have n4:=S6 c4.out a7 S.out W.out;obtain⟨r9,q4,q1⟩:=Zh3 n4 a0 k5;clear n4 a0 k5 a7 f6 H c4 o F;gi_wp2;go_wp2;exact⟨⟨c+1,g++[(c,e)],l,b4,f8,b3,tz,rfl,by omega,s4.out,q0.out,q4.out,r9.out,r6.out,s1.out,s2.out,q1.out⟩,mz⟩
theorem Q1p(p:Addr)(a:List PanicEntry)(w:World)(x:Int)(b:w.cell? p=some (.int .i64 x)) (d:w.frozen? p=false) :
  CallsD Tryz.prog 80 #[.pointer (some p)] (.panicking ({ v:=.iface 221 (.int .i64 11),recovered:=false }::a)) w fun e u' w'=>
   e=.returned (.tuple #[])/\u'=.panicking ({ v:=.iface 221 (.int .i64 11),recovered:=true }::a)/\w'=w.setCell p (.int .i64 11):=by
 refine callsD_of_wpS Tryz.func80 rfl fun c₀ cs hu=>?_
 apply wpS_seq;apply wpS_region;simp [wpOpsS,go_sem,recoverD,hu,Tryz.ntmps80,Exit.thenS];refine wpS_of_wp ?_
 have c:∀(W:World),(Instr.typeAssert (.iface 221 (.int .i64 11)) 20 221 true).run Tryz.prog W=.ok (.tuple #[.int .i64 11,.bool true]) W:=fun W=>by
  simp [Instr.typeAssert,run_underlying Tryz.underlying221,go_sem,Result.andThen]
 go_wp2;simp [bodyPostS,results,Tryz.results80]
theorem Q0j(p:Addr)(w:World) :
  CallsD Tryz.prog 80 #[.pointer (some p)] .returning w fun e u' w'=>e=.returned (.tuple #[])/\u'=.returning/\w'=w:=by
 refine callsD_of_wpS Tryz.func80 rfl fun c₀ cs hu=>?_
 apply wpS_seq;apply wpS_region;simp [wpOpsS,go_sem,recoverD,hu,Tryz.ntmps80,Exit.thenS];refine wpS_of_wp ?_;go_wp2;cases c₀
 simp_all [bodyPostS,results,Tryz.results80]
theorem Q5f(lo:Option Addr)(n lc:Nat)(vo:Option Addr)(vn vc:Nat)(w:World):Calls Tryz.prog 132 #[.slice lo n lc,.slice vo vn vc] w fun e w'=>
  e=.returned (.func (.func 176) #[] #[.pointer (some ⟨w.heap.size+1,0,none⟩),.pointer (some ⟨w.heap.size,0,none⟩)])/\w'=(w.alloc (.cells #[.slice lo n lc] 26)).alloc (.cells #[.slice vo vn vc] 99):=by
 have a:∀(fn:Fn) (first cap:Array Value) (w:World),(Instr.makeFunc fn first cap).run Tryz.prog w=.ok (.func fn first cap) w:=fun _ _ _ _=>rfl;go_enter Tryz.func132,Tryz.ntmps132;go_wp2;go_ret;exact⟨by simp,rfl⟩
theorem Ll{a:Func}{p:Tmp}{ty:TypeId}(h:a.results=#[.cell p ty]){tmps:Array Value}{w:World}{g:Nat}{ao:Option Addr}{n c:Nat}{t:TypeId}(j:tmps.getD p undef=.pointer (some ⟨g,0,none⟩)) (b:(Tryz.prog.underlying ty).map (fun d=>match d with | .slice _=>true | _=>false)=some true) (i:w.heap[g]?=some (.cells #[.slice ao n c] t (0,0))) :
  (results a tmps).run Tryz.prog w=.ok (.slice ao n c) w:=by
 have f:=cell_of_one i;have k:tmps[p]?.getD undef=.pointer (some ⟨g,0,none⟩):=by simpa using j
 cases hd:Tryz.prog.underlying ty with
 | none=>simp [hd] at b
 | some d=>
  cases d with
  | slice e=>simp [results,h,k,asAddr,loadVar,isAgg,run_underlying hd,go_sem,f]
  | _=>simp [hd] at b
theorem Hh{A B:World}{v:Value}{u:Wd}{D:Nat}{F:Option Addr}{E C:Nat}{t:TypeId}{fr:Nat × Nat}(h:Zc A v u)(f:Q0 (fun b=>b=D) A B) (r:A.heap[D]?=some (.cells #[.slice F E C] t fr)):Zc B v u:=by
 obtain⟨g,k,rfl,⟨⟨m,n,i,l,z,o⟩,p⟩,q⟩:=h;refine⟨g,k,rfl,⟨⟨m,n,i,l,z,fun hn=>?_⟩,p⟩,q⟩;obtain⟨d,c,w,x,e⟩:=o hn;have y:¬ d=D:=by
  rintro rfl;have a:=e 0 oz;rw [Nat.add_zero] at a;unfold World.cell? at a;simp only [r] at a;cases c with
  | zero=>
   rw [List.getD_eq_getElem?_getD] at a;cases u with
   | nil=>simp at hn
   | cons s u=>simp [Zt] at a
  | succ c=>simp at a
 exact⟨d,c,w,Nat.lt_of_lt_of_le x f.size,fun j hj=>f.cell_some (e j hj) y⟩
theorem Mt{A B:World}{r:Nat}{v:Value}{u:Wd}(h:Zc A v u)(g:Q0 (fun b=>b=r) A B) (f:∃ o,A.heap[r]?=some o/\o.isCells=false):Zc B v u:=by
 obtain⟨c,d,rfl,a,e⟩:=h;exact⟨c,d,rfl,⟨Rd.nocells g f a.1,a.2⟩,e⟩
theorem Q0r{w:World}{ps:Qg}{lo:Option Addr}{n lc:Nat}{vo:Option Addr}{vn vc:Nat}{ws:Wd}(b9:Qz w (.slice lo n lc) ps) (c0:ps.length=n) (c1:∀ p∈ps,Zw p.1=true) (c7:Qb w (.slice vo vn vc) ws) (c6:ws.length=vn) (c8:wE ws=0) (a9:Tab w) :
  Calls Tryz.prog 82 #[.slice lo n lc,.slice vo vn vc] w fun e w'=>(∃ u v,Yf (ps.map (·.1)) ws=some u/\e=.returned v/\Zc w' v u/\Ext w w')\/(Yf (ps.map (·.1)) ws=none/\e=.panicked Fc/\Ext w w'):=by
 have b6:=fun(l:World) (hE:Ext w l) (BL BW D:Nat) (I:w.heap.size<=D)=>Q33 (w0:=w) (w:=l) (BL:=BL) (BW:=BW) (D:=D) hE I b9 c0 c1 c7 c6 c8 a9;have H:=Zh b6;clear b6 b9 c0 c1 c7 c6 c8 a9;obtain⟨P,a8⟩:=zE (ps.map (·.1));rw [a8] at H ⊢;have R:=Ni P ws 0;obtain⟨c9,a6⟩:=zE (Jq P ws 0);rw [a6] at H R;obtain⟨T,U⟩:=zE (Yf P ws);have b5:W6 P ws=if T.isSome=true then none else some Fc:=by unfold W6;rw [U]
 rw [b5] at H;rw [U] at R ⊢;have a2:=Zh R;clear a8 a6 U b5 R;refine Qu Tryz.func82 rfl ?_;simp only [Tryz.ntmps82,zS,Nat.reduceAdd,Nat.reduceSub];go_upto_region 1 with (fail)
 obtain⟨F,s⟩:=zE (w.alloc (.cells #[.slice none 0 0] 99));have a5:Ext w F:=by rw [<-s];exact(Q0.refl _ w).alloc _
 have Y:F.heap[w.heap.size]?=some (.cells #[.slice none 0 0] 99 (0,0)):=by rw [<-s];exact Q2 rfl
 have C:F.heap.size=w.heap.size+1:=by rw [<-s];simp
 rw [s];obtain⟨D,I⟩:=zE w.heap.size;rw [I] at Y C ⊢;have B:=Zh I;clear s I;go_wp2_with fail;refine(Q5f lo n lc vo vn vc F).mono ?_;rintro e l ⟨rfl,z⟩;rw [C];have W:Ext F l:=by rw [z];exact((Q0.refl _ F).alloc _).alloc _
 have b1:l.heap[D+1]?=some (.cells #[.slice lo n lc] 26 (0,0)):=by rw [z];exact Q6 (Q2 C.symm)
 have b2:l.heap[D+1+1]?=some (.cells #[.slice vo vn vc] 99 (0,0)):=by rw [z];exact Q2 (by simp [C])
 have b3:=W.keep Y;have e1:l.heap.size=D+3:=by rw [z];simp [C]
 have X:=a5.trans W;have b7:=H.out l X (D+1) (D+1+1) D (by have:=B.out;omega) b1 b2 oz oz;obtain⟨a4,d0,d1⟩:=Zh3 b7 b3 X;clear z W b1 b2 b3 X b7 H a5 Y C;go_wp2_with fail
 refine Q5v (xs:=c9) rfl (enters_of Tryz.func176 kz rfl) a4.out (fun b d=>by omega) (fun _ a O G d=>by obtain⟨v,rfl,_⟩:=d;rfl) ?hEs
  (fun N c=>∃ j i g,c.heap[D]?=some (.cells #[.slice j i g] 99 (0,0))/\Ext w c/\(∀ A a,N=A++[a]->Zc c (.slice j i g) a.2))
  (fun _ _ _=>False) ?hC ?hI ?hIx ?h0 (fun G t=>(t.setIfInBounds 8 (G.getD 0 undef)).setIfInBounds 9 (G.getD 1 undef)) ?assign ?body ?pan ?done ?stop
 case hEs=>
  rintro _ a O a1 G ⟨v,rfl,a0⟩ S Z;exact⟨v,rfl,Mt a0 S Z⟩
 case hC=>
  rintro N O ⟨j,i,g,d,_⟩;exact⟨j,i,g,d⟩
 case hI=>
  rintro N O a1 ⟨j,i,g,f,k,x⟩ S Z;have r:Q0 (fun b=>b=l.heap.size+1) O a1:=S.mono fun b _ d=>d.elim (fun d=>d.2.elim) id;exact⟨j,i,g,r.heap f oz,Q0.after k r (fun b hb d=>by have:=B.out;omega),fun A a E=>Mt (x A a E) r Z⟩
 case hIx=>exact fun _ _ _ _ d=>d.elim
 case h0=>
  intro c b0 _;exact⟨none,0,0,b0.keep d0.out,d1.out.trans b0,fun A a E=>by have:=congrArg List.length E;simp at this⟩
 case assign=>
  rintro _ N a e2 G c e3 E ⟨j,i,g,f,k,x⟩ ⟨v,rfl,a0⟩ a7;obtain⟨m,o,rfl,c5⟩:=a0;have d6:=cell_of_one f;have d8:=free_of_one f;have q:Q0 (fun b=>b=D) c (c.setCell ⟨D,0,none⟩ (.slice m a.2.length o)):=Q0.set1 c D 0 _;have K:(c.setCell ⟨D,0,none⟩ (.slice m a.2.length o)).heap[D]?=some (.cells #[.slice m a.2.length o] 99 (0,0)):=by
   simp only [World.setCell,Array.getElem?_modify,f];simp
  have M:Zc (c.setCell ⟨D,0,none⟩ (.slice m a.2.length o)) (.slice m a.2.length o) a.2:=Hh ⟨m,o,rfl,c5⟩ q f
  have b8:=a7 _ q ⟨m,_,o,K,Q0.after k q (fun b hb d=>by have:=B.out;omega),fun A y hy=>by
   obtain⟨_,rfl⟩:=List.append_inj' hy rfl |>.imp id (fun d=>(List.cons.inj d).1);exact M⟩
  have d3:=Zh b8;clear b8 a7 q K M k x c5 E;gi_wp2;exact d3.out
 case body=>
  rintro N a e2 G c E c4 S d9;refine wpIn_block ?_;gi_wp2;exact⟨Q0.refl _ _,d9⟩
 case pan=>
  rintro d7 c J ⟨j,i,g,f,k,x⟩ Q c4;have L:Qs D ({ target:=.collected l.heap.size,args:=#[] }::[]) c:=Qs.cons (base:=D) trivial oz Q (fun e he=>by cases he);cases T with
  | some u=>simp at J
  | none=>
   obtain rfl:Fc=d7:=by simpa using J
   refine P8 L (fun w' r hs=>.inr ⟨rfl,rfl,?_⟩);exact Q0.after k r (fun b f k=>by have:=k.1;have:=B.out;omega)
 case done=>
  rintro J c ⟨j,i,g,f,k,x⟩ Q c4;cases T with
  | none=>simp at J
  | some u=>
   obtain⟨A,c3⟩:=a2.out u rfl;have M:=x A _ c3;have d6:=cell_of_one f;have d8:=free_of_one f;have q:Q0 (fun b=>b=D) c (c.setCell ⟨D,0,none⟩ (.slice j i g)):=Q0.set1 c D 0 _;have K:(c.setCell ⟨D,0,none⟩ (.slice j i g)).heap[D]?=some (.cells #[.slice j i g] 99 (0,0)):=by
    simp only [World.setCell,Array.getElem?_modify,f];simp
   have c2:=Hh M q f;have b4:=Q0.after k q (fun b hb d=>by have:=B.out;omega);have L:Qs D ({ target:=.collected l.heap.size,args:=#[] }::[]) (c.setCell ⟨D,0,none⟩ (.slice j i g)):=Qs.cons (base:=D) trivial oz (q.heap Q oz) (fun e he=>by cases he);rw [e1] at L;obtain⟨a3,d5,d2,d4⟩:=Zh4 K c2 b4 L;clear K M c2 b4 L q f k x c3 J Q a2 a4;go_wp2;refine Zu (v:=.slice j i g) _ _ d4.out fun w' r hs=>⟨Ll rfl rfl kz (r.heap a3.out (Shut.not a3.out rfl)),⟨_,rfl,?_,?_⟩⟩
   ·obtain⟨m,o,e0,s,z⟩:=d5.out;exact⟨m,o,e0,⟨Rd.shut r s.1,s.2⟩,z⟩
   ·exact Q0.after d2.out r (fun b f k=>by have:=k.1;have:=B.out;omega)
 case stop=>exact fun _ _ _ _ _ _ d=>d.elim
theorem Q7p{w:World}{p:Option Wd}{E BL BW a:Nat}{lo:Option Addr}{n lc:Nat}{vo:Option Addr}{vn vc:Nat}{O:Option Addr}{N M:Nat}(A:w.heap[E]?=some (.cells #[.int .i64 0] 40 (0,0))) (C:w.heap[BL]?=some (.cells #[.slice lo n lc] 26 (0,0))) (G:w.heap[BW]?=some (.cells #[.slice vo vn vc] 99 (0,0))) (D:w.heap[a]?=some (.cells #[.slice O N M] 99 (0,0))) (I:E≠a)
  (H:Calls Tryz.prog 82 #[.slice lo n lc,.slice vo vn vc] w fun e w'=>(∃ u v,p=some u/\e=.returned v/\Zc w' v u/\Ext w w')\/(p=none/\e=.panicked Fc/\Ext w w')) :
  Calls Tryz.prog 153 #[.pointer (some ⟨E,0,none⟩),.pointer (some ⟨BL,0,none⟩),.pointer (some ⟨BW,0,none⟩),.pointer (some ⟨a,0,none⟩)] w fun e w'=>e=.returned (.tuple #[])/\Q0 (fun b=>b=E\/b=a) w w' /\
   ∃ so' sn' sc',w'.heap[a]?=some (.cells #[.slice so' sn' sc'] 99 (0,0))/\((∃ u,p=some u/\Zc w' (.slice so' sn' sc') u/\w'.heap[E]?=some (.cells #[.int .i64 0] 40 (0,0)))\/(p=none/\w'.heap[E]?=some (.cells #[.int .i64 11] 40 (0,0)))):=by
 have y:=cell_of_one C;have z:=cell_of_one G;obtain⟨q,r,s⟩:=Zh3 A D H;clear A C G D H
 go_enter_defers Tryz.func153,Tryz.ntmps153
 go_wp2_with fail;refine s.out.mono ?_;rintro e c (⟨u,v,rfl,rfl,U,d⟩ | ⟨rfl,rfl,d⟩)
 ·obtain⟨k,l,rfl,K,L⟩:=U;have g:=d.keep r.out;have j:=d.keep q.out;have X:=cell_of_one g;have Y:=free_of_one g;have i:Q0 (fun b=>b=a) c (c.setCell ⟨a,0,none⟩ (.slice k u.length l)):=Q0.set1 c a 0 _;have o:(c.setCell ⟨a,0,none⟩ (.slice k u.length l)).heap[a]?=some (.cells #[.slice k u.length l] 99 (0,0)):=by
   simp only [World.setCell,Array.getElem?_modify,g];simp
  have J:=Hh ⟨k,l,rfl,K,L⟩ i g;have B:=i.heap j I;have m:Q0 (fun b=>b=E\/b=a) w (c.setCell ⟨a,0,none⟩ (.slice k u.length l)):=(Ext.of d).trans (i.mono fun b _ h=>.inr h);obtain⟨t,R,P,x⟩:=Zh4 o J B m;clear o J B m i g j K L d s y z q r;go_wp2;refine leaves_cons (f:=80) (args:=#[.pointer (some ⟨E,0,none⟩)]) zy (by simp [go_sem]) ?_;refine(Q0j _ _).mono ?_;rintro e V W ⟨rfl,rfl,rfl⟩;refine⟨.tuple #[],results_none rfl _ _ _,rfl,x.out,k,_,l,t.out,.inl ⟨u,rfl,R.out,P.out⟩⟩
 ·have g:=d.keep r.out;have j:=d.keep q.out;have S:=cell_of_one j;have T:=free_of_one j;have i:Q0 (fun b=>b=E) c (c.setCell ⟨E,0,none⟩ (.int .i64 11)):=Q0.set1 c E 0 _;have o:(c.setCell ⟨E,0,none⟩ (.int .i64 11)).heap[E]?=some (.cells #[.int .i64 11] 40 (0,0)):=by
   simp only [World.setCell,Array.getElem?_modify,j];simp
  have F:=i.heap g (fun h=>I h.symm);have m:Q0 (fun b=>b=E\/b=a) w (c.setCell ⟨E,0,none⟩ (.int .i64 11)):=(Ext.of d).trans (i.mono fun b _ h=>.inl h);obtain⟨t,Q,x⟩:=Zh3 o F m;clear o F m i g j d s y z q r;go_wp2;refine leaves_cons (f:=80) (args:=#[.pointer (some ⟨E,0,none⟩)]) zy (by simp [go_sem]) ?_;refine(Q1p _ [] _ 0 S T).mono ?_;rintro e V W ⟨rfl,rfl,rfl⟩;simp [Leaves,settle,results,Tryz.results153,go_sem];exact⟨x.out,⟨O,N,M,Q.out⟩,t.out⟩
theorem N5{a:Func}{p q:Tmp}{ty:TypeId}(h:a.results=#[.cell p ty,.tmp q]){tmps:Array Value}{w:World}{g:Nat}{ao:Option Addr}{n c:Nat}{t:TypeId}{x:Value}(j:tmps.getD p undef=.pointer (some ⟨g,0,none⟩)) (l:tmps.getD q undef=x) (b:(Tryz.prog.underlying ty).map (fun d=>match d with | .slice _=>true | _=>false)=some true) (i:w.heap[g]?=some (.cells #[.slice ao n c] t (0,0))) :
  (results a tmps).run Tryz.prog w=.ok (.tuple #[.slice ao n c,x]) w:=by
 have f:=cell_of_one i;have k:tmps[p]?.getD undef=.pointer (some ⟨g,0,none⟩):=by simpa using j
 have m:tmps[q]?.getD undef=x:=by simpa using l
 cases hd:Tryz.prog.underlying ty with
 | none=>simp [hd] at b
 | some d=>
  cases d with
  | slice e=>simp [results,h,k,m,asAddr,loadVar,isAgg,run_underlying hd,go_sem,f]
  | _=>simp [hd] at b
theorem Q0o{w:World}{ps:Qg}{lo:Option Addr}{n lc:Nat}{vo:Option Addr}{vn vc:Nat}{ws:Wd}(b0:Qz w (.slice lo n lc) ps) (b1:ps.length=n) (b2:∀ p∈ps,Zw p.1=true) (b6:Qb w (.slice vo vn vc) ws) (b5:ws.length=vn) (b7:wE ws=0) (a7:Tab w) :
  Calls Tryz.prog 110 #[.slice lo n lc,.slice vo vn vc] w fun e w'=>∃ ao an c,e=.returned (.tuple #[.slice ao an c,.bool (Yf (ps.map (·.1)) ws).isSome])/\(∀ u,Yf (ps.map (·.1)) ws=some u->Zc w' (.slice ao an c) u)/\Ext w w':=by
 have b4:=fun(V:World) (hE:Ext w V)=>Q0r (b0.ext hE) b1 b2 (b6.ext hE) b5 b7 (a7.keep hE id);have N:=Zh b4;clear b4 b0 b1 b2 b6 b5 b7 a7;obtain⟨c1,a3⟩:=zE (Yf (ps.map (·.1)) ws);rw [a3] at N ⊢;clear a3;have c2:∀(fn:Fn) (first cap:Array Value) (w:World),(Instr.makeFunc fn first cap).run Tryz.prog w=.ok (.func fn first cap) w:=fun _ _ _ _=>rfl;go_enter Tryz.func110,Tryz.ntmps110;go_upto_region 2 with (fail)
 obtain⟨C,A⟩:=zE ((((w.alloc (.cells #[.slice lo n lc] 26)).alloc (.cells #[.slice vo vn vc] 99)).alloc (.cells #[.slice none 0 0] 99)).alloc (.cells #[.int .i64 0] 40));have a4:Ext w C:=by rw [<-A];exact((((Q0.refl _ w).alloc _).alloc _).alloc _).alloc _
 have O:C.heap[w.heap.size]?=some (.cells #[.slice lo n lc] 26 (0,0)):=by rw [<-A];exact Q6 (Q6 (Q6 (Q2 rfl)))
 have P:C.heap[w.heap.size+1]?=some (.cells #[.slice vo vn vc] 99 (0,0)):=by rw [<-A];exact Q6 (Q6 (Q2 zy))
 have y:C.heap[w.heap.size+1+1]?=some (.cells #[.slice none 0 0] 99 (0,0)):=by rw [<-A];exact Q6 (Q2 zy)
 have Q:C.heap[w.heap.size+1+1+1]?=some (.cells #[.int .i64 0] 40 (0,0)):=by rw [<-A];exact Q2 zy
 rw [A];obtain⟨f,R⟩:=zE w.heap.size;rw [R] at O P y Q ⊢;obtain⟨I,W,X,Y,Z,L⟩:=Zh6 R O P y Q a4;clear A R O P y Q a4;go_wp2_with fail;refine(Q7p Z.out W.out X.out Y.out oz (N.out C L.out)).mono ?_;rintro e B ⟨rfl,a8,m,l,k,a6,a9⟩;have a5:Ext w B:=Q0.after L.out a8 (fun b hb E=>by have:=I.out;rcases E with E | E <;> omega);obtain⟨a0,a1,J⟩:=Zh3 a5 a6 a9;clear a8 a5 a6 a9 N W X Y Z L;rcases J.out with ⟨u,T,b3,U⟩ | ⟨T,U⟩
 ·subst T;have b8:=Zh b3;clear b3 J;have M:=Zh U;go_upto_region 3 with (fail)
  obtain⟨j,r⟩:=zE B.drew;have q:Ext B j:=by rw [<-r];exact(Q0.refl _ B).drew
  have g:j.heap[f+1+1]?=some (.cells #[.slice m l k] 99 (0,0))/\j.heap[f+1+1+1]?=some (.cells #[.int .i64 0] 40 (0,0)):=⟨q.keep a1.out,q.keep M.out⟩;refine Qv (S:=fun D=>D.heap[f+1+1]?=some (.cells #[.slice m l k] 99 (0,0))/\D.heap[f+1+1+1]?=some (.cells #[.int .i64 0] 40 (0,0))) [] kz (by rw [r];exact g) ?_;intro _;rw [r];clear r;refine tkE (i:=0) (d:=9) (v:=?_) rfl (Or.inl ⟨by rfl,?_⟩) g ?_;rotate_left
  ·intro w a;(try dsimp only at a);have o:=cell_of_one a.1;have t:=cell_of_one a.2;go_simp;try with_reducible rfl
  try simp only [Act.put,pq]
  refine tkE (i:=1) (d:=10) (v:=?_) rfl (Or.inl ⟨by rfl,?_⟩) g ?_;rotate_left
  ·intro w a;(try dsimp only at a);have o:=cell_of_one a.1;have t:=cell_of_one a.2;go_simp;try with_reducible rfl
  try simp only [Act.put,pq]
  refine tkE (i:=2) (d:=11) (v:=?_) rfl (Or.inl ⟨by rfl,?_⟩) g ?_;rotate_left
  ·intro w a;(try dsimp only at a);have o:=cell_of_one a.1;have t:=cell_of_one a.2;go_simp;try with_reducible rfl
  try simp only [Act.put,pq]
  have o:=cell_of_one g.1;have b9:=free_of_one g.1;have z:Q0 (fun b=>b=f+1+1) j (j.setCell ⟨f+1+1,0,none⟩ (.slice m l k)):=Q0.set1 j (f+1+1) 0 _;have F:(j.setCell ⟨f+1+1,0,none⟩ (.slice m l k)).heap[f+1+1]?=some (.cells #[.slice m l k] 99 (0,0))/\(j.setCell ⟨f+1+1,0,none⟩ (.slice m l k)).heap[f+1+1+1]?=some (.cells #[.int .i64 0] 40 (0,0)):=⟨by simp only [World.setCell,Array.getElem?_modify,g.1];simp,z.heap g.2 oz⟩;obtain⟨s,H,G,a2⟩:=Zh4 F z q g;clear F z q g;refine rE [3] ?_;refine Q1.cons rfl (fun K hK=>?_) Q1.nil;refine iw rfl ?_;go_simp;refine hK.out _ _ s.out (fun _=>?_);clear hK K
  (try simp only [Act.put,pq])
  refine tkE (i:=4) (d:=5) (v:=?_) rfl (Or.inl ⟨by rfl,?_⟩) s.out ?_;rotate_left
  ·intro w a;(try dsimp only at a);have o:=cell_of_one a.1;have t:=cell_of_one a.2;go_simp;try with_reducible rfl
  try simp only [Act.put,pq]
  refine Ql kz ?_ _;go_wp2;have c0:=Hh ((b8.out).ext G.out) H.out a2.out.1;refine bodyPost_ret (N5 rfl rfl rfl kz s.out.1) rfl ⟨m,l,k,rfl,fun u2 y=>?_,?_⟩
  ·cases y;exact c0
  ·exact Q0.after (a0.out.trans G.out) H.out (fun b hb E=>by have:=I.out;omega)
 ·subst T;clear J;have M:=Zh U;go_upto_region 3 with (fail)
  obtain⟨j,r⟩:=zE B.drew;have q:Ext B j:=by rw [<-r];exact(Q0.refl _ B).drew
  have g:j.heap[f+1+1]?=some (.cells #[.slice m l k] 99 (0,0))/\j.heap[f+1+1+1]?=some (.cells #[.int .i64 11] 40 (0,0)):=⟨q.keep a1.out,q.keep M.out⟩;refine Qv (S:=fun D=>D.heap[f+1+1]?=some (.cells #[.slice m l k] 99 (0,0))/\D.heap[f+1+1+1]?=some (.cells #[.int .i64 11] 40 (0,0))) [] kz (by rw [r];exact g) ?_;intro _;rw [r];clear r;refine tkE (i:=0) (d:=9) (v:=?_) rfl (Or.inl ⟨by rfl,?_⟩) g ?_;rotate_left
  ·intro w a;(try dsimp only at a);have o:=cell_of_one a.1;have t:=cell_of_one a.2;go_simp;try with_reducible rfl
  try simp only [Act.put,pq]
  refine tkE (i:=1) (d:=10) (v:=?_) rfl (Or.inl ⟨by rfl,?_⟩) g ?_;rotate_left
  ·intro w a;(try dsimp only at a);have o:=cell_of_one a.1;have t:=cell_of_one a.2;go_simp;try with_reducible rfl
  try simp only [Act.put,pq]
  refine tkE (i:=2) (d:=11) (v:=?_) rfl (Or.inl ⟨by rfl,?_⟩) g ?_;rotate_left
  ·intro w a;(try dsimp only at a);have o:=cell_of_one a.1;have t:=cell_of_one a.2;go_simp;try with_reducible rfl
  try simp only [Act.put,pq]
  have o:=cell_of_one g.1;have b9:=free_of_one g.1;have z:Q0 (fun b=>b=f+1+1) j (j.setCell ⟨f+1+1,0,none⟩ (.slice m l k)):=Q0.set1 j (f+1+1) 0 _;have F:(j.setCell ⟨f+1+1,0,none⟩ (.slice m l k)).heap[f+1+1]?=some (.cells #[.slice m l k] 99 (0,0))/\(j.setCell ⟨f+1+1,0,none⟩ (.slice m l k)).heap[f+1+1+1]?=some (.cells #[.int .i64 11] 40 (0,0)):=⟨by simp only [World.setCell,Array.getElem?_modify,g.1];simp,z.heap g.2 oz⟩;obtain⟨s,H,G,a2⟩:=Zh4 F z q g;clear F z q g;refine rE [3] ?_;refine Q1.cons rfl (fun K hK=>?_) Q1.nil;refine iw rfl ?_;go_simp;refine hK.out _ _ s.out (fun _=>?_);clear hK K
  (try simp only [Act.put,pq])
  refine tkE (i:=4) (d:=5) (v:=?_) rfl (Or.inl ⟨by rfl,?_⟩) s.out ?_;rotate_left
  ·intro w a;(try dsimp only at a);have o:=cell_of_one a.1;have t:=cell_of_one a.2;go_simp;try with_reducible rfl
  try simp only [Act.put,pq]
  refine Ql kz ?_ _;go_wp2;refine bodyPost_ret (N5 rfl rfl rfl kz s.out.1) rfl ⟨m,l,k,rfl,fun u2 y=>(by cases y),?_⟩;exact Q0.after (a0.out.trans G.out) H.out (fun b hb E=>by have:=I.out;omega)
theorem Q37{w:World}{ps:Qg}{lo:Option Addr}{n lc:Nat}{vo:Option Addr}{vn vc:Nat}{ws:Wd}{g:Nat}(H:Qz w (.slice lo n lc) ps) (I:ps.length=n) (M:Qb w (.slice vo vn vc) ws) (E:w.heap[g]?=some (.cells #[.slice vo vn vc] 99 (0,0))) (D:Tab w) :
  Calls Tryz.prog 79 #[.slice lo n lc,.slice (some ⟨g,0,none⟩) 1 1] w fun e w'=>e=.returned (.int .i64 (Ko (ps.map (·.1)) ws))/\Ext w w':=by
 have v:=fun(V:World) (b:Ext w V)=>Pf (H.ext b) I (D.keep b id);have z:=fun(V:World) (b:Ext w V)=>K5 (M.ext b);unfold Ko;obtain⟨c,s⟩:=zE (U2 (ps.map (·.1)));obtain⟨d,t⟩:=zE (wE ws);simp only [s] at v;simp only [t] at z;rw [s,t];obtain⟨l,m⟩:=zE (if c=0 then d else c);have J:c≠0->l=c:=fun h=>by rw [<-m,if_neg h]
 have K:c=0->l=d:=fun h=>by rw [<-m,if_pos h]
 rw [m];have N:=Zh J;have O:=Zh K;clear m J K;obtain⟨o,k,j⟩:=Zh3 v z E;clear v z s t H I M E D;go_enter Tryz.func79,Tryz.ntmps79;go_wp2_with fail;refine(o.out _ (Q0.refl _ _)).mono ?_;rintro e Y ⟨rfl,r⟩;by_cases q:c=0;case neg=>
  have Q:(c != 0)=true:=by rw [bne_iff_ne];exact q
  have y:c=l:=(N.out q).symm;subst y;clear o k j;go_wp2;go_ret;exact⟨rfl,r⟩
 subst q;have y:d=l:=(O.out uz).symm;subst y;have i:=Zh r;clear r o;go_wp2
 refine wp_loop (fun a A=>∃(f:Nat),f<=1/\a.defers=[]/\gS a [17,18,19]=(29,[.slice (some ⟨g,0,none⟩) 1 1,.int .i64 1,.int .i64 f])/\(f=1->d=0)/\Ext w A)
  (fun a _=>(1 - intOf (a.tmps.getD 19 undef)).toNat) ?_ ?_
 ·exact⟨0,by omega,rfl,rfl,fun h=>by omega,i.out⟩
 clear i;rintro⟨W,_⟩ A ⟨f,U,R,L,u,b⟩;subst R;obtain⟨X,rfl⟩:=Qq L;clear L;by_cases G:f=0;case neg=>
  obtain rfl:f=1:=by omega
  have S:=u rfl;subst S;clear u k j G;go_wp2;go_ret;exact⟨rfl,b⟩
 subst G;clear u;have F:=b.keep j.out;have P:=cell_of_one F;have p:=Zh b;clear b F;go_wp2_with fail;refine(k.out _ p.out).mono ?_;rintro e T ⟨rfl,C⟩;have i:=Zh (p.out.trans C);clear C p P k j;by_cases B:d=0;case neg=>
  have Q:(d != 0)=true:=by rw [bne_iff_ne];exact B
  go_wp2;go_ret;exact⟨rfl,i.out⟩
 subst B;go_wp2;exact⟨⟨1,by omega,tz,rfl,fun _=>by first | trivial | rfl,i.out⟩,by simp [intOf]⟩
theorem Ec(W:World):Zc W (.slice none 0 0) []:=⟨none,0,rfl,⟨⟨rfl,by simp [maxLen],none,0,rfl,fun h=>by simp at h⟩,by simp [X3]⟩,Nat.le_refl _⟩
theorem Q2a{w:World}{ps:Qg}{lo:Option Addr}{n lc:Nat}{vo:Option Addr}{vn vc:Nat}{ws:Wd}(A:Qz w (.slice lo n lc) ps) (B:ps.length=n) (C:Qb w (.slice vo vn vc) ws) (P:ws.length=vn) (y:Tab w) :
  Calls Tryz.prog 61 #[.slice lo n lc,.slice vo vn vc] w fun e w'=>∃ v,e=.returned (.tuple #[v,.int .i64 (Gc (ps.map (·.1)) ws)])/\Zc w' v (Ga (ps.map (·.1)) ws)/\Ext w w':=by
 have z:=fun(V:World) (hE:Ext w V) (g:Nat) (hg:V.heap[g]?=some (.cells #[.slice vo vn vc] 99 (0,0)))=>Q37 (A.ext hE) B (C.ext hE) hg (y.keep hE id);have c:=fun(V:World) (hE:Ext w V) (hok:∀ p∈ps,Zw p.1=true) (hwE:wE ws=0)=>Q0o (A.ext hE) B hok (C.ext hE) P hwE (y.keep hE id)
 have D:Ko (ps.map (·.1)) ws=0->(∀ p∈ps,Zw p.1=true)/\wE ws=0:=fun h=>by
  unfold Ko at h
  split at h
  ·rename_i b
   unfold U2 at b
   split at b
   ·cases b
   ·split at b
    ·rename_i J
     rw [List.all_map,List.all_eq_true] at J;exact⟨J,h⟩
    ·cases b
  ·contradiction
 have i:=@Q6v (ps.map (·.1)) ws;have d:=@Sq (ps.map (·.1)) ws;have f:=fun v=>@L6 (ps.map (·.1)) ws v;obtain⟨F,a⟩:=zE (Ko (ps.map (·.1)) ws);simp only [a] at z D i d f;clear a;obtain⟨S,a⟩:=zE (Yf (ps.map (·.1)) ws);simp only [a] at c d f;clear a;obtain⟨W,a⟩:=zE (Gc (ps.map (·.1)) ws);simp only [a] at i d f ⊢;clear a;obtain⟨X,a⟩:=zE (Ga (ps.map (·.1)) ws);simp only [a] at i d f ⊢;clear a;obtain⟨H,o,s,q,k,l⟩:=Zh6 z c D i d f;clear z c D i d f A B C P y;go_enter Tryz.func61,Tryz.ntmps61;go_wp2_with fail;obtain⟨E,m⟩:=zE (w.alloc (.cells #[.slice vo vn vc] 99));have t:Ext w E:=by rw [<-m];exact(Q0.refl _ w).alloc _
 have M:E.heap[w.heap.size]?=some (.cells #[.slice vo vn vc] 99 (0,0)):=by rw [<-m];exact Q2 rfl
 rw [m];refine(H.out E t w.heap.size M).mono ?_;rintro e U ⟨rfl,K⟩;have j:=Zh (t.trans K);clear m M t K H;by_cases b:F=0;case neg=>
  have a1:(F != 0)=true:=by rw [bne_iff_ne];exact b
  obtain⟨rfl,rfl⟩:=q.out b;clear o s q k l;go_wp2;go_ret2;exact⟨_,rfl,Ec _,j.out⟩
 subst b;obtain⟨Q,R⟩:=s.out uz;have c:=o.out U j.out Q R;have G:=Zh c;clear c Q R o s q;go_wp2_with fail;refine G.out.mono ?_;rintro e a2 ⟨Z,Y,a0,rfl,N,L⟩;have I:=Zh (j.out.trans L);have r:=Zh N;clear L N G j;cases S with
 | none=>
  obtain⟨rfl,rfl⟩:=k.out uz rfl;clear k l r;go_wp2;go_ret2;exact⟨_,rfl,Ec _,I.out⟩
 | some u=>
  obtain⟨rfl,rfl⟩:=l.out u uz rfl;have O:=r.out _ rfl;have T:=Zh O;clear k l r O;go_wp2;go_ret2;exact⟨_,rfl,T.out,I.out⟩
end Go.Proofs.YtfdlhlghcbeblaaGreatDoor
