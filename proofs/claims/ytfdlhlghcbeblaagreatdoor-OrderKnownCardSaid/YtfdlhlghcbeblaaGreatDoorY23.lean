/- Where order.explaining stands: -/
import Derived.Test.YtfdlhlghcbeblaaGreatDoorY21
import Derived.Test.YtfdlhlghcbeblaaGreatDoorY22
set_option maxRecDepth 100000
set_option maxHeartbeats 32000000
namespace Go.Proofs.YtfdlhlghcbeblaaGreatDoor
open Go.RowKit Go.Ab
def Kv(LD:List Q7)(qs:Qa)(x:List Nat):Bool:=(Xk LD x qs).all id
def Zg(LD:List Q7)(qs:Qa)(n:Nat):List (List Nat):=(Zn n (List.range n)).filter (Kv LD qs)
def Q5r(n:Nat)(O:Nat->Prop)(x:List Nat)(A:World)(ys:Array Value):Prop:=∃ vo vc,ys=#[.slice vo x.length vc]/\A.ownsRow n 3 1 (.slice vo x.length vc) x.length (Qi x)/\∀ g,(Value.slice vo x.length vc).ownBlock=some g->¬ O g
def ExO(N D:Nat)(O:Nat->Prop)(b:Nat):Prop:=O b\/(N<=b/\b<D+2)
def Mi(K:Nat->Prop)(J:(Nat->Prop)->List (List Nat)->World->Prop) (LD:List Q7) (qs:Qa) (w:World) (N D l:Nat) (O:Nat->Prop) (pre:List (List Nat)) (V:World):Prop:=
 J (ExO N D O) (pre.filter (Kv LD qs)) V/\Q1 (fun b=>¬ K b) w V/\V.heap[N]?=some (.cells #[.func (.yield l) #[] #[]] 233 (0,0))/\D+2<=V.heap.size
def R5(Jx:(Nat->Prop)->List (List Nat)->World->Prop) (L:List (List Nat)) (N D:Nat) (O:Nat->Prop) (V:World):Prop:=
 (∃ pre1 x rest,L=pre1++x::rest/\Jx (ExO N D O) (pre1++[x]) V)/\D+2<=V.heap.size/\∀ b,O b->b<V.heap.size
section
variable {K:Nat->Prop} {J Jx:(Nat->Prop)->List (List Nat)->World->Prop} {LD:List Q7} {qs:Qa} {w A B:World} {N D l:Nat} {O O':Nat->Prop} {pre L:List (List Nat)}
theorem Hc(_hO:∀ b,O b->D+2<=b/\b<A.heap.size)(hs:D+2<=A.heap.size)(hB:A.heap.size<=B.heap.size)(hO':∀ b,O' b->(O b\/A.heap.size<=b)/\b<B.heap.size):∀ b,ExO N D O' b->(ExO N D O b\/A.heap.size<=b)/\b<B.heap.size:=fun b h=>by
 rcases h with h | h
 ·obtain⟨h1,h2⟩:=hO' b h;exact⟨h1.imp .inl id,h2⟩
 ·exact⟨.inl (.inr h),by omega⟩
theorem Mi.step(j:∀ O O' pre A B,J O pre A->Q1 O A B->(∀ b,O' b->(O b\/A.heap.size<=b)/\b<B.heap.size)->J O' pre B) (k:∀ b,K b->b<N) (o:N<D) (h:Mi K J LD qs w N D l O pre A) (c:∀ b,O b->D+2<=b/\b<A.heap.size)
  (a:Q1 (fun b=>O b\/b=D+1) A B) (m:∀ b,O' b->(O b\/A.heap.size<=b)/\b<B.heap.size):Mi K J LD qs w N D l O' pre B:=by
 obtain⟨d,f,g,i⟩:=h;have n:=a.size;refine⟨j _ _ _ _ _ d (a.mono fun b _ h=>h.elim .inl (fun e=>.inr oz)) (Hc c i n m),f.trans (a.mono fun b _ h hk=>?_),a.heap g (fun h=>?_),by omega⟩
 ·have:=k b hk;rcases h with h | h
  ·have:=(c b h).1;omega
  ·omega
 ·rcases h with h | h
  ·have:=(c _ h).1;omega
  ·omega
theorem R5.step(i:∀ O O' pre A B,Jx O pre A->Q1 O A B->(∀ b,O' b->(O b\/A.heap.size<=b)/\b<B.heap.size)->Jx O' pre B) (p:N<D) (h:R5 Jx L N D O A) (j:∀ b,O b->D+2<=b/\b<A.heap.size)
  (c:Q1 (fun b=>O b\/b=D+1) A B) (a:∀ b,O' b->(O b\/A.heap.size<=b)/\b<B.heap.size):R5 Jx L N D O' B:=by
 obtain⟨⟨l,n,m,d,f⟩,g,o⟩:=h;have k:=c.size;exact⟨⟨l,n,m,d,i _ _ _ _ _ f (c.mono fun b _ h=>h.elim .inl (fun e=>.inr oz)) (Hc j g k a)⟩,by omega,fun b h=>(a b h).2⟩
end
theorem Lo{A B:World}{v:Value}{n sz r:Nat}{xs:List Value}(h:Rd A v n sz xs)(t:0<sz)(e:Q1 (fun b=>b=r) A B) (s:∃ o,A.heap[r]?=some o/\o.isCells=false):Rd B v n sz xs:=by
 obtain⟨k,l,g,i,rfl,m⟩:=h;refine⟨k,l,g,i,rfl,fun hn=>?_⟩;obtain⟨c,u,rfl,p,d⟩:=m hn;have q:¬ c=r:=by
  rintro rfl;obtain⟨o,w,x⟩:=s;obtain⟨y,a,f⟩:=Gv (d 0 (Nat.mul_pos hn t));simp only at a;rw [w] at a;cases a;rw [x] at f;cases f
 exact⟨c,u,rfl,Nat.lt_of_lt_of_le p e.size,fun j hj=>e.cell_some (d j hj) q⟩
theorem Q1o{A B:World}{v:Value}{m r:Nat}{T:List (Option Wd)} (h:Gx A v m T) (d:Q1 (fun b=>b=r) A B) (c:∃ o,A.heap[r]?=some o/\o.isCells=false):Gx B v m T:=by
 obtain⟨t,a,l,n⟩:=h;refine⟨t,⟨Lo a.1 zd d c,fun p hp=>⟨(a.2 p hp).1,?_⟩⟩,l,n⟩;obtain⟨f,s,i,w,x⟩:=(a.2 p hp).2;refine⟨f,s,i,w,fun u hu=>?_⟩;obtain⟨g,j,k,e,q⟩:=x u hu;exact⟨g,j,k,⟨Lo e.1 zd d c,e.2⟩,q⟩
theorem N6{A B:World}{M r:Nat}{LD:List Q7}{T0:List (Option Wd)} {x:List Nat} {d:Array Value} (h:Ey M LD T0 x A d) (c:Q1 (fun b=>b=r) A B) (a:∃ o,A.heap[r]?=some o/\o.isCells=false):Ey M LD T0 x B d:=by
 obtain⟨k,j,i,g,rfl,e,f⟩:=h;exact⟨k,j,i,g,rfl,Lo e zd c a,Q1o f c a⟩
def R9(l:List Bool)(k:Nat):Prop:=∀ x∈l.take k,x=true
theorem Q07{l:List Bool}{k:Nat}(c:k<l.length)(h:R9 l k)(b:l[k]=true):R9 l (k+1):=by
 intro d a;rw [List.take_succ_eq_append_getElem c] at a;rcases List.mem_append.1 a with a | a
 ·exact h d a
 ·rw [List.mem_singleton] at a;rw [a];exact b
theorem Q0w{l:List Bool}{k:Nat}(b:l.length<=k)(h:R9 l k):l.all id=true:=by
 rw [List.all_eq_true];intro c a;rw [show l=l.take k by rw [List.take_of_length_le b]] at a;exact h c a
theorem Q0k{l:List Bool}{k:Nat}(b:k<l.length)(a:l[k]=false):l.all id=false:=by
 rw [List.all_eq_false];exact⟨l[k],List.getElem_mem b,by rw [a];decide⟩
attribute [local go_sem] Oper.semAt_some Zf Qp
theorem Dn{w0 w:World}{BL V n M lc pc:Nat}{lo n1:Option Addr}{ps:Qy}{qs:Qa}(e7:Ext w0 w)(m2:Z9 w0 (.slice lo n lc) ps) (m4:ps.length=n) (q0:n<=6) (g0:Qu w0 (.slice n1 M pc) qs) (c4:qs.length=M) (k2:M<=1000) (c5:Tab w0)
  (I:w.heap[BL]?=some (.cells #[.slice lo n lc] 26 (0,0))) (Q:w.heap[V]?=some (.cells #[.slice n1 M pc] 61 (0,0))) :
  Ut Tryz.prog 140 #[.pointer (some ⟨BL,0,none⟩),.pointer (some ⟨V,0,none⟩)] (fun _ _=>True) Q5r (Zg (ps.map (·.1)) qs n) (fun b=>b<w0.heap.size\/b=BL\/b=V) w:=by
 intro T c0 e2 L j j8 k0 c9 h0;have p7:=(Array.getElem?_eq_some_iff.1 I).1;have p8:=(Array.getElem?_eq_some_iff.1 Q).1;have q2:=e7.size;have q3:=j.size;obtain⟨e,k3⟩:=zE L.heap.size;obtain⟨K,a7⟩:∃ K:Nat->Prop,(fun b=>b<w0.heap.size\/b=BL\/b=V)=K:=⟨_,rfl⟩;have o:∀ b,K b->b<e:=fun b c=>by rw [<-a7] at c;rcases c with a | rfl | rfl <;> omega
 have f0:∀ b,b<w0.heap.size->K b:=fun b c=>by rw [<-a7];exact .inl c
 have k1:K V:=by rw [<-a7];exact .inr (.inr rfl)
 have d3:∀ g,Q1 (fun b=>¬ K b) w g->Ext w0 g:=fun g c8=>Q1.after e7 c8 (fun b c a4=>a4 (f0 b c));have j7:∀ d B r y A,c0 d r y->Q1 d y A->(∀ b,B b->(d b\/y.heap.size<=b)/\b<A.heap.size)->c0 B r A:=fun d B r y A f G c2=>j8 d B r y A f (G.mono fun b _ a=>⟨a,trivial⟩) c2;have j9:∀ d B r y A,e2 d r y->Q1 d y A->(∀ b,B b->(d b\/y.heap.size<=b)/\b<A.heap.size)->e2 B r A:=fun d B r y A f G c2=>k0 d B r y A f (G.mono fun b _ a=>⟨a,trivial⟩) c2;have l1:=j.heap I (fun a=>a (.inr (.inl rfl)));have l2:=j.heap Q (fun a=>a (.inr (.inr rfl)));rw [a7] at j c9;have j5:=d3 L j;obtain⟨F,f1⟩:=zE (ps.map (·.1));have l7:=fun(g:World) (j:Q1 (fun b=>¬ K b) w g) (d6:Option Addr) (d5:Nat) (d4:List (Option Wd × List Value)) (f:Y9 g (.slice d6 M d5) d4) (G:d4.length=M)=>Gq f G (Zc g0 (d3 g j)) c4 k2;have Y:=fun(g:World) (B1 B2:Nat) (j:Ext w0 g) (f:g.heap[B1]?=_) (G:g.heap[B2]?=_)=>Lh j m2 m4 q0 g0 c4 k2 c5 f G;rw [f1] at c9 ⊢;simp only [f1] at Y;obtain⟨o3,i0,p2,a1,i2,r0,o2,i3⟩:=Zh8 l7 Y c9 j7 j9 d3 j5 o;obtain⟨n5,g6,n6,o5,n7,e0,p0,a2⟩:=Zh8 h0 l1 l2 k1 Q f0 j k3;have i4:=Zh c4;clear c9 j7 j9 d3 j5 o h0 l1 l2 j8 k0 e7 m2 m4 g0 c4 c5 I Q j p7 p8 q2 q3 a7 k1 f0 l7 Y k3 f1;show Calls _ _ #[.func (.yield T) #[] #[],.pointer (some ⟨BL,0,none⟩),.pointer (some ⟨V,0,none⟩)] _ _;refine Qv Tryz.func140 rfl ?_;simp only [Tryz.ntmps140,zS,Nat.reduceAdd,Nat.reduceSub];go_wp2;refine wp_scope_straight ?_;obtain⟨C,a9⟩:=zE (L.alloc (.cells #[.func (.yield T) #[] #[]] 233));have P:Ext L C:=by rw [<-a9];exact(Q1.refl _ L).alloc _
 have b6:C.heap.size=e+1:=by rw [<-a9,World.size_alloc,a2.out]
 have l3:C.heap[e]?=some (.cells #[.func (.yield T) #[] #[]] 233 (0,0)):=by rw [<-a9];exact Q3 a2.out.symm
 rw [a2.out,a9];clear a9;have I:=P.keep g6.out;have Q:=P.keep n6.out;obtain⟨s,j1,a0⟩:=Zh3 P b6 l3;have p4:=cell_of_one I;have e5:=cell_of_one Q;clear P b6 l3 I Q;go_wp2;refine wp_label ?_;go_wp2_with fail;refine(N5 _ _ _ _ _ _ _).mono ?_;rintro a4 p ⟨rfl,f6,f7,e8,g1⟩;rw [j1.out] at f6 f7 g1;rw [j1.out];have e9:=s.out.trans e8;have l4:=e8.keep a0.out;have Y:=i0.out p (e+1) (e+1+1) (o2.out.trans e9) f6 f7;obtain⟨o1,x,n8,o4⟩:=Zh4 e9 g1 l4 Y;clear e8 e9 g1 l4 f6 f7 Y p4 e5 i0 s a0 g6;go_wp2
 refine Xu (xs:=Zn n (List.range n)) (K:=fun b=>b<w0.heap.size\/b=e+1\/b=e+1+1) rfl (fun args w=>by simp [go_sem]) o4.out (fun b a=>by have:=x.out;have:=i3.out;rcases a with a | a | a <;> first | omega | (have:=this b (e0.out b a);omega)) (fun _ _ m y U a=>by obtain⟨_,_,_,_,rfl,_⟩:=a;rfl) ?hEs
  (Mi K c0 F qs w e p.heap.size T) (fun e4 d r g=>e4=.ret/\R5 e2 (Zg F qs n) e p.heap.size d g) ?hI ?hIx ?h0 (fun U t=>(((t.setIfInBounds 11 (U.getD 0 undef)).setIfInBounds 12 (U.getD 1 undef)).setIfInBounds 4 (U.getD 0 undef)).setIfInBounds 5 (U.getD 1 undef)) ?assign ?body ?done ?stop
 case hEs=>exact fun _ _ _ _ _ _ a j d2=>N6 a j d2
 case hI=>
  rintro d B r y A a H j f3;exact a.step a1.out i3.out (by rw [x.out];omega) H (j.mono fun b _ a=>a.imp (fun q=>q.1) id) f3
 case hIx=>
  rintro e4 d B r y A ⟨rfl,a⟩ H j f3;exact⟨rfl,a.step i2.out (by rw [x.out];omega) H (j.mono fun b _ a=>a.imp (fun q=>q.1) id) f3⟩
 case h0=>
  intro g c8 r7;have b0:Ext L g:=o1.out.trans c8;refine⟨a1.out _ _ _ _ _ n5.out b0.of (fun b c=>?_),p0.out.trans b0.of,c8.keep n8.out,by omega⟩;rcases c with a | a
  ·exact a.elim
  ·exact⟨.inr (by rw [a2.out];omega),by omega⟩
 case assign=>
  rintro _ _ m U g r1 ⟨n4,n3,d6,d5,rfl,_⟩ o;gi_wp2;exact o
 case done=>
  rintro d g ⟨b2,c5,b1,b5⟩ H j c3;obtain⟨b7,o0,b9,E⟩:=Zh4 b2 c3 b5 H;clear b2 c5 b1 b5 H j c3;go_wp2;refine L6 o0.out (results_none rfl _ _ _) ⟨⟨_,rfl⟩,ExO e p.heap.size d,.inl ?_⟩;exact a1.out _ (ExO e p.heap.size d) _ _ _ b7.out ((Q1.refl (ExO e p.heap.size d) g).putObj (.inr (.inr (by rw [x.out];omega))) _) (Hc E.out b9.out zy (fun b c=>⟨.inl c,by simpa using (E.out b c).2⟩))
 case stop=>
  rintro e4 d r m n2 g b4 ⟨rfl,⟨q7,q9,q8,f,G⟩,c2,p6⟩ c3;refine wp_ret ?_;refine L6 c3 (results_none rfl _ _ _) ⟨⟨_,rfl⟩,ExO e p.heap.size d,.inr ⟨q7,q9,q8,f,?_⟩⟩;refine i2.out _ (ExO e p.heap.size d) _ _ _ G ((Q1.refl (ExO e p.heap.size d) g).putObj (.inr (.inr (by rw [x.out];omega))) _) (fun b c=>⟨.inl c,?_⟩);rcases c with c | c
  ·simpa using p6 b c
  ·have:=c.2;simp;omega
 case body=>
  rintro d r m n2 U g b4 q1 H j ⟨b2,c6,b1,b5⟩ ⟨n4,n3,d6,d5,rfl,d2,d4,m6,m5,m3⟩;simp only [pq];have R:=o3.out g c6 d6 d5 d4 m6 m5;rw [Ls i4.out (by rw [m3,List.map_map];rfl)] at R;obtain⟨N,d0⟩:=zE (Xk F m qs);rw [d0] at R;have I:N.length=M:=by rw [<-d0];unfold Xk;rw [List.length_map,i4.out]
  have e5:=cell_of_one (c6.heap n7.out (fun a=>a o5.out));have p5:=cell_of_one b1;obtain⟨j0,E,b7,i8,a0,b9,o7,g9⟩:=Zh8 b4 H b2 c6 b1 b5 d2 R;obtain⟨g8,g7,p1⟩:=Zh3 d0 I (show True from trivial);obtain⟨d7,g4⟩:=zE m.length;have a3:=Zh g4;rw [g4];clear b4 H b2 c6 b1 b5 d2 R d0 I m6 m5 m3 j q1 g4 p1;refine wpIn_block ?_;refine wpIn_seq ?_;refine wpIn_seq ?_;refine Xc kz ?_ ?_
  ·rintro⟨_,_,a⟩;exact a
  go_wp2_with fail;refine g9.out.mono ?_;rintro a4 C ⟨r3,r2,rfl,k4,P⟩;have k6:=Rd.of_own k4;have o8:=Zh k6;have s:=Zh P;clear k4 k6 P e5 g9;have l9:=a1.out _ (ExO e p.heap.size d) _ g C b7.out s.out.of (Hc E.out b9.out s.out.size (fun b c=>⟨.inl c,Nat.lt_of_lt_of_le (E.out b c).2 s.out.size⟩));have k7:=i8.out.trans s.out.of;have l6:=s.out.keep a0.out;have b6:p.heap.size+2<=C.heap.size:=Nat.le_trans b9.out s.out.size;obtain⟨i1,i7,d8,W⟩:=Zh4 l9 k7 l6 b6;clear l9 k7 l6 b6 b7 i8 a0 p5;have i5:=Zh (show Kv F qs m=false->Mi K c0 F qs w e p.heap.size T d (r++[m]) C from fun a=>⟨by rw [List.filter_append,List.filter_cons_of_neg (by rw [a];decide),List.filter_nil,List.append_nil];exact i1.out,i7.out,d8.out,W.out⟩);go_wp2;refine wpIn_block ?_
  gi_loop [17] (fun i=>∃ l:Nat,l<=M/\i=.int .i64 l/\R9 N l) (fun i=>M - (intOf i).toNat)
  case atStart=>exact⟨0,by omega,rfl,fun m b4=>by cases b4⟩
  case round=>
   obtain⟨l,r5,rfl,l0⟩:=hrel;have g5:=Zh l0;clear l0;by_cases m1:l<M
   ·have p9:(l:Int)<(M:Int):=by omega
    have r6:(0:Int)<=(l:Int):=by omega
    have d1:l<N.length:=by rw [g7.out];exact m1
    obtain⟨e6,r9,cap,m7,f8,R⟩:=Vx o8.out m1;simp only [zV,true_and] at m7;obtain⟨rfl,rfl⟩:=m7;have l8:(N.map Value.bool).getD l undef=.bool N[l]:=by rw [List.getD_eq_getElem?_getD,List.getElem?_map,List.getElem?_eq_getElem d1];rfl
    rw [l8] at R;have Z:=fun(a:N[l]=true)=>Q07 d1 g5.out a;have f9:=fun(a:N[l]=false)=>i5.out (show Kv F qs m=false by unfold Kv;rw [g8.out];exact Q0k d1 a);obtain⟨b,c⟩:=zE (N[l]);rw [c] at R Z f9;have b8:=Zh Z;have o6:=Zh f9;have r8:IntKind.i64.wrap ((l:Int)+1)=(l:Int)+1:=IntWalk.i64_in _ oz;clear Z f9 c l8 d1;cases b with
    | false=>
     gi_wp2;exact⟨s.out.of,o6.out uz⟩
    | true=>
     gi_wp2
     go_round
     case rel=>exact⟨l+1,by omega,by go_num,b8.out uz⟩
     case measure=>simp [intOf];omega
   ·obtain rfl:l=M:=by omega
    have p9:¬ (l:Int)<(l:Int):=by omega
    have Z:Kv F qs m=true:=by unfold Kv;rw [g8.out];exact Q0w (by rw [g7.out];exact Nat.le_refl _) g5.out
    have b8:=Zh Z;clear Z i5;gi_wp2;obtain⟨c1,c7⟩:=zE C.drew;have a5:Ext C c1:=by rw [<-c7];exact(Q1.refl _ C).drew
    have X:c1.heap[e]?=some (.cells #[.func (.yield T) #[] #[]] 233 (0,0)):=a5.keep d8.out;have g3:m∈Zn n (List.range n):=by rw [j0.out];simp
    have q4:d7=n:=by rw [Kq] at g3;rw [<-a3.out];exact(Gc n m g3).1
    have m8:d7<=1000000:=by omega
    clear g3 q4;have l5:=Dy (w:=c1) (ao:=n4) (n:=d7) (cap:=n3) (xs:=Qi m) (by have:=o7.out.ext (s.out.trans a5);rw [a3.out] at this;exact this) (fun u hu=>by obtain⟨_,_,rfl⟩:=List.mem_map.1 hu;rfl) m8;have n9:=Zh l5;clear l5 m8;refine La (S:=fun D=>D.heap[e]?=some (.cells #[.func (.yield T) #[] #[]] 233 (0,0))) [3,4] kz kz ?hLO (by rw [c7];exact X) ?_;case hLO=>rintro⟨_,_,a⟩;exact a
    intro _;rw [c7];clear c7;refine Li (i:=0) (v:=?_) rfl rfl kz kz kz kz kz (fun _ _ _ a=>a) (Or.inl ⟨by rfl,?_⟩) (X) ?_;rotate_left
    ·intro w a8;(try dsimp only at a8);have p3:=cell_of_one a8;go_simp;try with_reducible rfl
    change Xb _ _ _ _ _ _ _ _ _ _ (Act.put _ (some 24) _) _;try simp only [Act.put,pq]
    refine Li (i:=1) (v:=?_) rfl rfl kz kz kz kz kz (fun _ _ _ a=>a) (Or.inl ⟨by rfl,?_⟩) (X) ?_;rotate_left
    ·intro w a8;(try dsimp only at a8);have p3:=cell_of_one a8;go_simp;try with_reducible rfl
    change Xb _ _ _ _ _ _ _ _ _ _ (Act.put _ (some 25) _) _;try simp only [Act.put,pq]
    refine K3 (rs:=[2]) kz zy ?_;refine Zq.cons rfl rfl (fun K o=>?_) Zq.nil;refine iw rfl ?_;go_simp;refine n9.out.mono ?_;rintro a4 e3 ⟨j4,j3,rfl,k5,f2⟩;have f4:=f2.keep X;obtain⟨i6,J,i9⟩:=Zh3 k5 (a5.trans f2) a5.size;clear k5 f2 a5;refine o.out _ _ f4 (fun _=>?_);clear o K;try simp only [Act.put,pq]
    have n0:=J.out.size;have k8:=s.out.size;have b0:L.heap.size<=c1.heap.size:=by have:=W.out;have:=x.out;have:=a2.out;have:=i9.out;omega
    have m0:=a1.out _ (ExO e p.heap.size d) _ C e3 i1.out (Ext.of J.out) (Hc (fun b c=>⟨(E.out b c).1,Nat.lt_of_lt_of_le (E.out b c).2 k8⟩) W.out n0 (fun b c=>⟨.inl c,by have:=(E.out b c).2;omega⟩));have g2:Zg F qs n=(r.filter (Kv F qs))++m::n2.filter (Kv F qs):=by unfold Zg;rw [j0.out,List.filter_append,List.filter_cons_of_pos b8.out]
    have j6:Q5r L.heap.size (ExO e p.heap.size d) m e3 #[.slice j4 d7 j3]:=⟨j4,j3,by rw [a3.out],by rw [a3.out];exact Xh i6.out b0,fun e6 f8 a=>by
     rw [a3.out] at f8;have f:=(i6.out.lt e6 f8).1;have G:=i9.out;rcases a with a | a
     ·have:=(E.out e6 a).2;omega
     ·have:=W.out;omega⟩
    obtain⟨r4,s0,assign,body,m9,k9⟩:=p2.out _ _ m _ e3 _ g2 m0 j6;have e1:=Zh k9;have o9:=Zh g2;clear k9 g2 m0 j6 n0 k8 b0;refine K3 (rs:=[3]) kz zy ?_;refine Zq.late rfl rfl (fun K o=>?_) Zq.nil;refine iw rfl ?_;refine⟨fun _ _=>trivial,?_⟩;go_simp;refine e1.out.mono ?_;rintro a4 j2 (⟨rfl,a6,b3⟩ | ⟨rfl,a6,b3⟩)
    ·have d9:=Zh a6;have O:=Zh b3;clear a6 b3 e1 m9;refine o.out _ _ ?_;clear o K;try simp only [Act.put,pq]
     refine K3 (rs:=[4]) kz zy ?_;refine Zq.late rfl rfl (fun K o=>?_) Zq.nil;refine iw rfl ?_;refine⟨fun _ _=>trivial,?_⟩;go_simp;refine o.out _ _ ?_;clear o K;try simp only [Act.put,pq]
     refine Lj kz ?_ _;clear X f4;gi_wp2
     have f5:Q1 (fun b=>¬ ((b<w0.heap.size\/b=e+1\/b=e+1+1)\/d b\/b=p.heap.size\/b=p.heap.size+1)) g j2:=(Ext.of (s.out.trans J.out)).trans (O.out.mono fun b _ a=>by
      rintro((f | f | f) | f | f | f)
      ·exact a.1 (e0.out b f)
      ·exact a.2 (.inr (by have:=x.out;omega))
      ·exact a.2 (.inr (by have:=x.out;omega))
      ·exact a.2 (.inl f)
      ·exact a.2 (.inr (by have:=x.out;omega))
      ·exact a.2 (.inr (by have:=x.out;omega)))
     have q5:=O.out.size;have q6:=J.out.size;refine⟨f5,by rw [List.filter_append,List.filter_cons_of_pos b8.out];exact d9.out,(i7.out.trans (Ext.of J.out)).trans (O.out.mono fun b _ a=>a.1),O.out.heap (Ext.keep J.out d8.out) (fun a=>a.2 (.inr (by have:=x.out;omega))),by have:=W.out;omega⟩
    ·have d9:=Zh a6;have O:=Zh b3;clear a6 b3 e1 m9;refine o.out _ _ ?_;clear o K;try simp only [Act.put,pq]
     refine K3 (rs:=[4]) kz zy ?_;refine Zq.late rfl rfl (fun K o=>?_) Zq.nil;refine iw rfl ?_;refine⟨fun _ _=>trivial,?_⟩;go_simp;refine o.out _ _ ?_;clear o K;try simp only [Act.put,pq]
     refine Lj kz ?_ _;clear X f4;gi_wp2
     have f5:Q1 (fun b=>¬ ((b<w0.heap.size\/b=e+1\/b=e+1+1)\/d b\/b=p.heap.size\/b=p.heap.size+1)) g j2:=(Ext.of (s.out.trans J.out)).trans (O.out.mono fun b _ a=>by
      rintro((f | f | f) | f | f | f)
      ·exact a.1 (e0.out b f)
      ·exact a.2 (.inr (by have:=x.out;omega))
      ·exact a.2 (.inr (by have:=x.out;omega))
      ·exact a.2 (.inl f)
      ·exact a.2 (.inr (by have:=x.out;omega))
      ·exact a.2 (.inr (by have:=x.out;omega)))
     have q5:=O.out.size;have q6:=J.out.size;exact⟨f5,rfl,⟨_,m,_,o9.out,d9.out⟩,by have:=W.out;omega,fun b c=>by have:=(E.out b c).2;have:=s.out.size;omega⟩
theorem Kf(lo a:Option Addr)(n lc M pc:Nat)(w:World) :
  Calls Tryz.prog 90 #[.slice lo n lc,.slice a M pc] w fun e w'=>e=.returned (.func (.func 140) #[] #[.pointer (some ⟨w.heap.size,0,none⟩),.pointer (some ⟨w.heap.size+1,0,none⟩)])/\w'.heap[w.heap.size]?=some (.cells #[.slice lo n lc] 26 (0,0))/\w'.heap[w.heap.size+1]?=some (.cells #[.slice a M pc] 61 (0,0))/\Ext w w'/\w'.heap.size=w.heap.size+2:=by
 go_enter Tryz.func90,Tryz.ntmps90;go_wp2;go_ret;exact⟨rfl,Q6 (Q3 rfl),Q3 zy,((Q1.refl _ w).alloc _).alloc _,by simp⟩
theorem Ry{a:Func}{p q r:Tmp}(h:a.results=#[.cell p 48,.cell q 4,.cell r 40]){tmps:Array Value}{w:World}{b c d:Nat}{ao:Option Addr}{n k:Nat}{y z:Value}
  (m:tmps.getD p undef=.pointer (some ⟨b,0,none⟩)) (s:tmps.getD q undef=.pointer (some ⟨c,0,none⟩)) (u:tmps.getD r undef=.pointer (some ⟨d,0,none⟩))
  (i:w.heap[b]?=some (.cells #[.slice ao n k] 48 (0,0))) (j:w.heap[c]?=some (.cells #[y] 4 (0,0))) (l:w.heap[d]?=some (.cells #[z] 40 (0,0))) :
  (results a tmps).run Tryz.prog w=.ok (.tuple #[.slice ao n k,y,z]) w:=by
 have e:=cell_of_one i;have f:=cell_of_one j;have g:=cell_of_one l;have o:tmps[p]?.getD undef=.pointer (some ⟨b,0,none⟩):=by simpa using m
 have t:tmps[q]?.getD undef=.pointer (some ⟨c,0,none⟩):=by simpa using s
 have v:tmps[r]?.getD undef=.pointer (some ⟨d,0,none⟩):=by simpa using u
 simp [results,h,o,t,v,asAddr,loadVar,isAgg,run_underlying Tryz.underlying48,run_underlying Tryz.underlying4,run_underlying Tryz.underlying40,go_sem,e,f,g]
def Xx(LD:List Q7)(qs:Qa):List Nat:=if Qh LD (qs.map (·.1))=0 then(Zg LD qs LD.length).headD [] else []
def Vl(LD:List Q7)(qs:Qa):Bool:=if Qh LD (qs.map (·.1))=0 then !(Zg LD qs LD.length).isEmpty else false
def Q6h(N:Nat)(w:World)(_:Nat->Prop)(pre:List (List Nat)) (V:World):Prop:=pre=[]/\V.heap[N]?=some (.cells #[.slice none 0 0] 48 (0,0))/\V.heap[N+1]?=some (.cells #[.bool false] 4 (0,0))/\V.heap[N+1+1]?=some (.cells #[.int .i64 0] 40 (0,0))/\Ext w V
def Q1q(N D:Nat)(w:World)(O:Nat->Prop)(pre:List (List Nat)) (V:World):Prop:=∃ x ao c,pre=[x]/\V.heap[N]?=some (.cells #[.slice ao x.length c] 48 (0,0))/\V.heap[N+1]?=some (.cells #[.bool true] 4 (0,0))/\V.heap[N+1+1]?=some (.cells #[.int .i64 0] 40 (0,0))/\V.ownsRow (D+2) 3 1 (.slice ao x.length c) x.length (Qi x)/\(∀ g,(Value.slice ao x.length c).ownBlock=some g->¬ O g)/\Ext w V
theorem Fx{w:World}{N:Nat}{o p q u v x:Value}{f g i:TypeId}(l:w.heap[N]?=some (.cells #[o] f (0,0))) (m:w.heap[N+1]?=some (.cells #[p] g (0,0))) (n:w.heap[N+1+1]?=some (.cells #[q] i (0,0))) :
  (((w.setCell ⟨N,0,none⟩ u).setCell ⟨N+1,0,none⟩ v).setCell ⟨N+1+1,0,none⟩ x).heap[N]?=some (.cells #[u] f (0,0))/\(((w.setCell ⟨N,0,none⟩ u).setCell ⟨N+1,0,none⟩ v).setCell ⟨N+1+1,0,none⟩ x).heap[N+1]?=some (.cells #[v] g (0,0)) /\
   (((w.setCell ⟨N,0,none⟩ u).setCell ⟨N+1,0,none⟩ v).setCell ⟨N+1+1,0,none⟩ x).heap[N+1+1]?=some (.cells #[x] i (0,0))/\Q1 (fun b=>b=N\/b=N+1\/b=N+1+1) w (((w.setCell ⟨N,0,none⟩ u).setCell ⟨N+1,0,none⟩ v).setCell ⟨N+1+1,0,none⟩ x):=by
 have a:=Q1.set1 w N 0 u;have c:=Q1.set1 (w.setCell ⟨N,0,none⟩ u) (N+1) 0 v;have d:=Q1.set1 ((w.setCell ⟨N,0,none⟩ u).setCell ⟨N+1,0,none⟩ v) (N+1+1) 0 x;have j:=a.heap m oz;have k:=c.heap (a.heap n oz) oz;exact⟨d.heap (c.heap (J9 l) oz) oz,d.heap (J9 j) oz,J9 k,((a.mono fun b _ e=>.inl e).trans (c.mono fun b _ e=>.inr (.inl e))).trans (d.mono fun b _ e=>.inr (.inr e))⟩
theorem Ku{w:World}{ps:Qy}{qs:Qa}{lo:Option Addr}{n lc:Nat}{f9:Option Addr}{m pc:Nat}(d6:Z9 w (.slice lo n lc) ps) (P:ps.length=n) (d7:Qu w (.slice f9 m pc) qs) (b6:qs.length=m) (d3:Tab w) :
  Calls Tryz.prog 37 #[.slice lo n lc,.slice f9 m pc] w fun e w'=>∃ ao c,e=.returned (.tuple #[.slice ao (Xx (ps.map (·.1)) qs).length c,.bool (Vl (ps.map (·.1)) qs),.int .i64 (Qh (ps.map (·.1)) (qs.map (·.1)))])/\Rd w' (.slice ao (Xx (ps.map (·.1)) qs).length c) (Xx (ps.map (·.1)) qs).length 1 (Qi (Xx (ps.map (·.1)) qs))/\Ext w w':=by
 have b5:=fun(p:World) (l:Ext w p)=>Vj (d6.ext l) P (Zc d7 l) b6 (d3.keep l id);obtain⟨N,b1⟩:=zE (ps.map (·.1));have d2:N.length=n:=by rw [<-b1,List.length_map,P]
 have e1:Qh N (qs.map (·.1))=0->n<=6/\m<=1000:=fun d=>by have:=Jg d;rw [d2,List.length_map,b6] at this;omega
 have J:=fun(d:Qh N (qs.map (·.1))=0) (p:World) (B1 B2:Nat) (l:Ext w p) (i:p.heap[B1]?=_) (j:p.heap[B2]?=_)=>Dn l d6 P (e1 d).1 d7 b6 (e1 d).2 d3 i j;rw [b1];simp only [b1] at b5 J;obtain⟨j1,Y⟩:=zE (Xx N qs);obtain⟨a2,X⟩:=zE (Vl N qs);rw [Y,X];unfold Xx at Y;unfold Vl at X;rw [d2] at Y X;obtain⟨i0,d1⟩:=zE (Zg N qs n);obtain⟨a3,H⟩:=zE (Qh N (qs.map (·.1)));rw [d1,H] at Y X;rw [H] at J ⊢;simp only [d1] at J;simp only [H] at b5;obtain⟨e6,e7,c2,b8⟩:=Zh4 b5 J Y X;clear b5 J Y X d1 H e1 b1 d2 d6 P d7 b6 d3;refine Qv Tryz.func37 rfl ?_;simp only [Tryz.ntmps37,zS,Nat.reduceAdd,Nat.reduceSub];go_upto_region 1 with (fail)
 obtain⟨f,b2⟩:=zE w.heap.size;obtain⟨b7,Z⟩:=zE (((w.alloc (.cells #[.slice none 0 0] 48)).alloc (.cells #[.bool false] 4)).alloc (.cells #[.int .i64 0] 40));have f4:Ext w b7:=by rw [<-Z];exact(((Q1.refl _ w).alloc _).alloc _).alloc _
 have e8:b7.heap[f]?=some (.cells #[.slice none 0 0] 48 (0,0)):=by rw [<-Z];exact Q6 (Q6 (Q3 b2.symm))
 have e9:b7.heap[f+1]?=some (.cells #[.bool false] 4 (0,0)):=by rw [<-Z];exact Q6 (Q3 (by simp;omega))
 have f0:b7.heap[f+1+1]?=some (.cells #[.int .i64 0] 40 (0,0)):=by rw [<-Z];exact Q3 (by simp;omega)
 rw [b2,Z];obtain⟨c0,e3,e4,e5,M⟩:=Zh5 f4 e8 e9 f0 b2;clear f4 e8 e9 f0 Z b2;go_wp2_with fail;refine(e6.out _ c0.out).mono ?_;rintro e g0 ⟨rfl,a6⟩;have f1:=a6.keep e3.out;have f2:=a6.keep e4.out;have f3:=a6.keep e5.out;obtain⟨a8,a4,a5,T⟩:=Zh4 (c0.out.trans a6) f1 f2 f3;clear a6 c0 e3 e4 e5 e6 f1 f2 f3;have c4:=cell_of_one a4.out;have c7:=free_of_one a4.out;have c5:=cell_of_one a5.out;have c8:=free_of_one a5.out;have c6:=cell_of_one T.out;have c9:=free_of_one T.out;by_cases H:a3=0;case neg=>
  have j3:(a3 != 0)=true:=by simpa using H
  have q:=c2.out;have o:=b8.out;rw [if_neg H] at q o;subst q o;go_wp2;obtain⟨E,F,G,B⟩:=Fx a4.out a5.out T.out (u:=.slice none 0 0) (v:=.bool false) (x:=.int .i64 a3);have s:Ext w (((g0.setCell ⟨f,0,none⟩ (.slice none 0 0)).setCell ⟨f+1,0,none⟩ (.bool false)).setCell ⟨f+1+1,0,none⟩ (.int .i64 a3)):=Q1.after a8.out B (fun b o d=>by have:=M.out;omega);refine Zr (v:=.tuple #[.slice none 0 0,.bool false,.int .i64 a3]) (base:=f) _ _ trivial fun w' ht' d9=>⟨Ry rfl rfl rfl rfl (ht'.heap E (Go.Ab.Shut.not E rfl)) (ht'.heap F (Go.Ab.Shut.not F rfl)) (ht'.heap G (Go.Ab.Shut.not G rfl)),none,0,rfl,Rd.of_own (e:=3) (World.ownsRow_nil _ 0 _ _),Q1.after s ht' (fun b o d=>by have:=d.1;have:=M.out;omega)⟩
 subst H;have q:=c2.out;have o:=b8.out;rw [if_pos uz] at q o;have c3:=Zh q;have b9:=Zh o;clear q o c2 b8 c4 c7 c5 c8 c6 c9;go_wp2_with fail;refine(Kf _ _ _ _ _ _ _).mono ?_;rintro e S ⟨rfl,d5,O,s,e0⟩;obtain⟨A,d4⟩:=zE g0.heap.size;rw [d4] at d5 O e0 ⊢;have J:=e7.out uz S A (A+1) (a8.out.trans s) d5 O;have j2:f+1+1<A:=by rw [<-d4];exact(Array.getElem?_eq_some_iff.1 T.out).1
 obtain⟨c1,U,g6,g1,g2,g3⟩:=Zh6 (a8.out.trans s) e0 J (s.keep a4.out) (s.keep a5.out) (s.keep T.out);clear s e0 J d5 O d4 e7 a4 a5 T a8;go_wp2
 refine Xu (xs:=i0) (K:=fun b=>b<w.heap.size\/b=A\/b=A+1) rfl (fun args w=>by simp [go_sem]) g6.out (fun b d=>by have:=U.out;have:=M.out;rcases d with d | d | d <;> omega) (fun _ _ x a1 a0 d=>by obtain⟨_,_,rfl,_⟩:=d;rfl) ?hEs
  (Q6h f w) (fun c z L p=>c=.ret/\Q1q f S.heap.size w z L p) ?hI ?hIx ?h0 (fun a0 t=>(t.setIfInBounds 18 (a0.getD 0 undef)).setIfInBounds 8 (a0.getD 0 undef)) ?assign ?body ?done ?stop
 case hEs=>
  rintro j4 z x a1 a2 a0 ⟨R,Q,rfl,i,j⟩ y ⟨j5,i6,i7⟩;refine⟨R,Q,rfl,Qd i y (fun g r e=>?_),j⟩;subst e;obtain⟨i2,b4⟩:=Z3 i r;rw [i6] at b4;cases b4;cases i7
 case hI=>
  rintro z i1 L a1 a2 ⟨rfl,h0,i,j,l⟩ I y f5;have a7:=U.out;have C:Q1 (fun b=>S.heap.size+1<=b) a1 a2:=y.mono fun b _ d=>d.elim (fun d=>by have:=(I b d.1).1;omega) (fun d=>by omega);exact⟨rfl,C.heap h0 oz,C.heap i oz,C.heap j oz,l.after C fun b o d=>by have:=c1.out.size;omega⟩
 case hIx=>
  rintro c z i1 L a1 a2 ⟨rfl,x,ao,c,rfl,h0,i,j,V,d0,l⟩ I y f5;have a7:=U.out;have C:Q1 (fun b=>S.heap.size+1<=b) a1 a2:=y.mono fun b _ d=>d.elim (fun d=>by have:=(I b d.1).1;omega) (fun d=>by omega);refine⟨rfl,x,ao,c,rfl,C.heap h0 oz,C.heap i oz,C.heap j oz,Qd V y (fun g r d=>?_),fun g r d=>?_,l.after C fun b o d=>by have:=c1.out.size;omega⟩
  ·have:=(V.lt g r).1;rcases d with d | d
   ·exact d0 g r d.1
   ·omega
  ·rcases(f5 g d).1 with d | d
   ·exact d0 g r d
   ·have:=(V.lt g r).2;omega
 case h0=>
  intro p b3 d9;exact⟨rfl,b3.keep g1.out,b3.keep g2.out,b3.keep g3.out,Q1.trans c1.out b3⟩
 case assign=>
  rintro _ _ x a0 p j0 ⟨R,Q,rfl,_⟩ i3;gi_wp2;exact i3
 case done=>
  rintro z p ⟨i4,h0,i,j,l⟩ I y b0;have q:=c3.out;have o:=b9.out;rw [i4] at q o;subst q o;obtain⟨g7,g8,g9,g5,g4⟩:=Zh5 h0 i j l b0;have c4:=cell_of_one h0;have c7:=free_of_one h0;have c5:=cell_of_one i;have c8:=free_of_one i;have c6:=cell_of_one j;have c9:=free_of_one j;clear h0 i j l b0 I y c3 b9;go_wp2;obtain⟨E,F,G,B⟩:=Fx g7.out g8.out g9.out (u:=.slice none 0 0) (v:=.bool false) (x:=.int .i64 0);have s:Ext w (((p.setCell ⟨f,0,none⟩ (.slice none 0 0)).setCell ⟨f+1,0,none⟩ (.bool false)).setCell ⟨f+1+1,0,none⟩ (.int .i64 0)):=Q1.after g5.out B (fun b o d=>by have:=M.out;omega);have a7:=U.out;refine Zr (v:=.tuple #[.slice none 0 0,.bool false,.int .i64 0]) (base:=f) _ _ (Qs.cons (base:=f) trivial oz (B.heap g4.out oz) (fun e he=>by cases he)) fun w' ht' d9=>⟨Ry rfl rfl rfl rfl (ht'.heap E (Go.Ab.Shut.not E rfl)) (ht'.heap F (Go.Ab.Shut.not F rfl)) (ht'.heap G (Go.Ab.Shut.not G rfl)),none,0,rfl,Rd.of_own (e:=3) (World.ownsRow_nil _ 0 _ _),Q1.after s ht' (fun b o d=>by have:=d.1;have:=M.out;omega)⟩
 case stop=>
  rintro c z L x i8 p q ⟨rfl,i9,ao,c,f7,h0,i,j,V,d0,l⟩ b0;obtain⟨rfl,rfl⟩:L=[]/\x=i9:=by
   cases L with
   | nil=>simpa using f7
   | cons a L=>simp at f7
  have e2:=c3.out;have O:=b9.out;rw [q] at e2 O;simp only [List.nil_append,List.headD_cons,List.isEmpty_cons,Bool.not_false] at e2 O;subst e2 O;refine wp_ret ?_;have a7:=U.out;refine Zr (v:=.tuple #[.slice ao x.length c,.bool true,.int .i64 0]) (base:=f) _ _ (Qs.cons (base:=f) trivial oz b0 (fun e he=>by cases he)) fun w' ht' d9=>⟨Ry rfl rfl rfl rfl (ht'.heap h0 (Go.Ab.Shut.not h0 rfl)) (ht'.heap i (Go.Ab.Shut.not i rfl)) (ht'.heap j (Go.Ab.Shut.not j rfl)),ao,c,rfl,Rd.of_own (Qd V ht' (fun g r e=>by obtain⟨i2,b4⟩:=Z3 V r;exact Go.Ab.Shut.not b4 rfl e)),Q1.after l ht' (fun b o d=>by have:=d.1;have:=M.out;omega)⟩
 case body=>
  rintro z L x i8 a0 p q i5 I y ⟨rfl,h0,i,j,l⟩ ⟨R,Q,rfl,d8,r⟩;simp only [pq];obtain⟨E,F,G,B⟩:=Fx h0 i j (u:=.slice R x.length Q) (v:=.bool true) (x:=.int .i64 0);have a7:=U.out;have f6:Q1 (fun b=>¬ ((b<w.heap.size\/b=A\/b=A+1)\/z b\/b=S.heap.size\/b=S.heap.size+1)) p (((p.setCell ⟨f,0,none⟩ (.slice R x.length Q)).setCell ⟨f+1,0,none⟩ (.bool true)).setCell ⟨f+1+1,0,none⟩ (.int .i64 0))/\Q1q f S.heap.size w z ([]++[x]) (((p.setCell ⟨f,0,none⟩ (.slice R x.length Q)).setCell ⟨f+1,0,none⟩ (.bool true)).setCell ⟨f+1+1,0,none⟩ (.int .i64 0)):=by
   have P:=M.out;refine⟨B.mono fun b _ d P=>?_,x,R,Q,rfl,E,F,G,Qd d8 B (fun g' hg' e=>?_),r,Q1.after l B (fun b o d=>by omega)⟩
   ·rcases P with (W | W | W) | W | W | W
    ·omega
    ·omega
    ·omega
    ·have:=(I _ W).1;omega
    ·omega
    ·omega
   ·have:=(d8.lt g' hg').1;omega
  have c4:=cell_of_one h0;have c7:=free_of_one h0;have c5:=cell_of_one i;have c8:=free_of_one i;have c6:=cell_of_one j;have c9:=free_of_one j;have a9:=Zh f6;obtain⟨j6,f8⟩:=zE x.length;rw [f8] at a9 ⊢;clear f6 E F G B h0 i j l d8 r I y q i5 a7 f8;gi_wp2;exact⟨a9.out.1,by first | exact a9.out.2 | exact⟨rfl,a9.out.2⟩⟩
theorem Rq:∀ n,n<=6->(Z6 n).length<=720:=by
 have a:∀ n,(Z6 (n+1)).length=(n+1)*(Z6 n).length:=fun n=>by
  conv=>lhs;unfold Z6
  rw [List.length_flatMap];have b:(List.range (n+1)).map (fun f=>((Z6 n).map fun r=>f::r.map fun x=>if f<=x then x+1 else x).length)=List.replicate (n+1) (Z6 n).length:=by
   apply List.ext_getElem
   ·simp
   ·intro m c d;simp
  rw [b];simp
 have e:(Z6 0).length=1:=rfl;have c:(Z6 1).length=1*(Z6 0).length:=a 0;have d:(Z6 2).length=2*(Z6 1).length:=a 1;have g:(Z6 3).length=3*(Z6 2).length:=a 2;have i:(Z6 4).length=4*(Z6 3).length:=a 3;have j:(Z6 5).length=5*(Z6 4).length:=a 4;have k:(Z6 6).length=6*(Z6 5).length:=a 5;intro n l;have:n=0\/n=1\/n=2\/n=3\/n=4\/n=5\/n=6:=by omega
 rcases this with rfl | rfl | rfl | rfl | rfl | rfl | rfl <;> omega
theorem Bi(n:Nat)(a:n<=6):(Zn n (List.range n)).length<=720:=by rw [Kq];exact Rq n a
theorem Q7h:(Tryz.prog.info? 48).map (fun i=>(i.zero,i.size,i.bytes))=some (some (.slice none 0 0),1,24):=by kernel_rfl
def Ui(base:Nat)(O:Nat->Prop)(V:World)(vs:List Value)(ls:List (List Nat)):Prop:=
 vs.length=ls.length/\∀ i (h:i<ls.length),∃ ao c,vs.getD i undef=.slice ao ls[i].length c/\V.ownsRow base 3 1 (.slice ao ls[i].length c) ls[i].length (Qi ls[i])/\∀ g,(Value.slice ao ls[i].length c).ownBlock=some g->¬ O g
theorem Ui.keep{base:Nat}{O O' T:Nat->Prop}{A B:World}{vs:List Value}{ls:List (List Nat)} (h:Ui base O A vs ls) (m:Q1 T A B) (k:∀ g cur,A.heap[g]?=some (.cells cur 3 (0,0))->base<=g->¬ O g->¬ T g) (j:∀ g,g<A.heap.size->O' g->O g):Ui base O' B vs ls:=by
 refine⟨h.1,fun i hi=>?_⟩;obtain⟨c,d,f,a,b⟩:=h.2 i hi;refine⟨c,d,f,Qd a m (fun g hg e=>?_),fun g hg e=>b g hg (j g (a.lt g hg).2 e)⟩;obtain⟨cur,l⟩:=Z3 a hg;exact k g cur l (a.lt g hg).1 (b g hg) e
theorem Ui.push{base:Nat}{O:Nat->Prop}{A:World}{vs:List Value}{ls:List (List Nat)} {x:List Nat} {ao:Option Addr} {c:Nat} (h:Ui base O A vs ls) (f:A.ownsRow base 3 1 (.slice ao x.length c) x.length (Qi x)) (j:∀ g,(Value.slice ao x.length c).ownBlock=some g->¬ O g) :
  Ui base O A (vs++[.slice ao x.length c]) (ls++[x]):=by
 refine⟨by simp [h.1],fun i hi=>?_⟩;by_cases a:i<ls.length
 ·obtain⟨d,e,l,m,n⟩:=h.2 i a;refine⟨d,e,?_,?_,?_⟩
  ·rw [List.getD_eq_getElem?_getD,List.getElem?_append_left (by rw [h.1];exact a),<-List.getD_eq_getElem?_getD,l,List.getElem_append_left a]
  ·rw [List.getElem_append_left a];exact m
  ·rw [List.getElem_append_left a];exact n
 ·have k:i=ls.length:=by simp at hi;omega
  subst k;have b:(ls++[x])[ls.length]'hi=x:=by simp
  refine⟨ao,c,?_,?_,?_⟩
  ·rw [b,List.getD_eq_getElem?_getD,<-h.1,List.getElem?_append_right (Nat.le_refl _)];simp
  ·rw [b];exact f
  ·rw [b];exact j
def Xv(w:World)(v:Value)(ls:List (List Nat)):Prop:=∃ vs,Rd w v ls.length 1 vs/\∀ i (h:i<ls.length),∃ ao c,vs.getD i undef=.slice ao ls[i].length c/\Rd w (.slice ao ls[i].length c) ls[i].length 1 (Qi ls[i])
theorem Xv.ext{A B:World}{v:Value}{ls:List (List Nat)} (h:Xv A v ls) (a:Ext A B):Xv B v ls:=by
 obtain⟨j,d,e⟩:=h;refine⟨j,d.ext a,fun i hi=>?_⟩;obtain⟨b,c,f,g⟩:=e i hi;exact⟨b,c,f,g.ext a⟩
theorem Sw(w:World):Xv w (.slice none 0 0) []:=⟨[],Rd.of_own (e:=3) (World.ownsRow_nil _ 0 _ _),fun i hi=>by cases hi⟩
def Jw(LD:List Q7)(qs:Qa)(most:Int):List (List Nat):=if Qh LD (qs.map (·.1))=0 then(Zg LD qs LD.length).take most.toNat else []
def W1(BX BM base:Nat)(most:Int)(w:World)(O:Nat->Prop)(pre:List (List Nat)) (V:World):Prop:=
 ∃ ao c vs,V.heap[BX]?=some (.cells #[.slice ao pre.length c] 27 (0,0))/\V.heap[BM]?=some (.cells #[.int .i64 most] 3 (0,0))/\V.ownsRow base 48 1 (.slice ao pre.length c) pre.length vs/\(∀ g,(Value.slice ao pre.length c).ownBlock=some g->¬ O g)/\Ui base O V vs pre/\Ext w V
theorem W1.step{BX BM base D:Nat}{most:Int}{w A B:World}{O O':Nat->Prop}{j:List (List Nat)} (h:W1 BX BM base most w O j A) (t:w.heap.size<=D) (s:BX<D/\BM<D) (f:base=D+2) (d:∀ b,O b->D+2<=b/\b<A.heap.size) (a:Q1 (fun b=>O b\/b=D+1) A B)
  (q:∀ b,O' b->(O b\/A.heap.size<=b)/\b<B.heap.size):W1 BX BM base most w O' j B:=by
 subst f;obtain⟨k,l,r,m,n,c,e,o,p⟩:=h;have i:∀ g,g<A.heap.size->O' g->O g:=fun g hg hh=>(q g hh).1.elim id (fun h=>by omega);refine⟨k,l,r,a.heap m (fun h=>?_),a.heap n (fun h=>?_),Qd c a (fun g hg h=>?_),fun g hg h=>e g hg (i g (c.lt g hg).2 h),o.keep a (fun g cur hc hg hn h=>?_) i,p.after a fun b f h=>?_⟩
 ·rcases h with h | h
  ·have:=(d _ h).1;omega
  ·omega
 ·rcases h with h | h
  ·have:=(d _ h).1;omega
  ·omega
 ·have:=(c.lt g hg).1;rcases h with h | h
  ·exact e g hg h
  ·omega
 ·rcases h with h | h
  ·exact hn h
  ·omega
 ·rcases h with h | h
  ·have:=(d _ h).1;omega
  ·omega
theorem W1.push{BX BM base:Nat}{most:Int}{w V j:World}{O:Nat->Prop}{a:List (List Nat)} {x:List Nat} {ao f vo:Option Addr} {c i vc:Nat} {vs:List Value} (N:w.heap.size<=BX) (L:BX<base) (K:BM<base) (M:BX≠BM) (_hwb:w.heap.size<=base)
  (z:V.heap[BX]?=some (.cells #[.slice ao a.length c] 27 (0,0))) (A:V.heap[BM]?=some (.cells #[.int .i64 most] 3 (0,0))) (q:V.ownsRow base 48 1 (.slice ao a.length c) a.length vs) (r:∀ g,(Value.slice ao a.length c).ownBlock=some g->¬ O g) (B:Ui base O V vs a) (D:Ext w V) (E:∀ b,O b->b<V.heap.size)
  (G:V.ownsRow base 3 1 (.slice vo x.length vc) x.length (Qi x)) (n:∀ g,(Value.slice vo x.length vc).ownBlock=some g->¬ O g)
  (s:j.ownsRow base 48 1 (.slice f (a.length+1) i) (a.length+1) (vs++[.slice vo x.length vc])) (l:Q1 (fun b=>(Value.slice ao a.length c).ownBlock=some b) V j) (C:(Value.slice f (a.length+1) i).ownBlock=(Value.slice ao a.length c).ownBlock\/∃ g,V.heap.size<=g/\(Value.slice f (a.length+1) i).ownBlock=some g) :
  W1 BX BM base most w O (a++[x]) (j.setCell ⟨BX,0,none⟩ (.slice f (a.length+1) i))/\Q1 (fun b=>b=BX\/(base<=b/\¬ O b)) V (j.setCell ⟨BX,0,none⟩ (.slice f (a.length+1) i)):=by
 have p:=Q1.set1 j BX 0 (.slice f (a.length+1) i);have k:∀ g,(Value.slice ao a.length c).ownBlock=some g->base<=g:=fun g n=>(q.lt g n).1;have v:=l.heap z (fun d=>by have:=k _ d;omega)
 have u:∀ g,(Value.slice f (a.length+1) i).ownBlock=some g->base<=g/\¬ O g:=fun g hgg=>by
  refine⟨(s.lt g hgg).1,fun ho=>?_⟩;rcases C with d | ⟨J,I,y⟩
  ·rw [d] at hgg;exact r g hgg ho
  ·rw [y] at hgg;cases hgg;have:=E g ho;omega
 have m:Q1 (fun b=>b=BX\/(Value.slice ao a.length c).ownBlock=some b) V (j.setCell ⟨BX,0,none⟩ (.slice f (a.length+1) i)):=(l.mono fun b _ d=>.inr d).trans (p.mono fun b _ d=>.inl d)
 have F:∀ g cur,V.heap[g]?=some (.cells cur 3 (0,0))->base<=g->¬ O g->¬ (g=BX\/(Value.slice ao a.length c).ownBlock=some g):=fun g cur hc hb _ e=>by
  rcases e with e | e
  ·omega
  ·obtain⟨H,t⟩:=Z3 q e;rw [hc] at t;cases t
 have o:(a++[x]).length=a.length+1:=by simp
 refine⟨⟨f,i,vs++[.slice vo x.length vc],?_,p.heap (l.heap A (fun d=>by have:=k _ d;omega)) oz,?_,fun g hgg=>(u g (by rw [<-o];exact hgg)).2,?_,?_⟩,m.mono fun b _ e=>?_⟩
 ·rw [o];exact J9 v
 ·rw [o];exact Qd s p (fun g hgg d=>by have:=(u g hgg).1;omega)
 ·exact(B.push G n).keep m F (fun g _ e=>e)
 ·exact D.after m fun b hb e=>by
   rcases e with e | e
   ·omega
   ·have:=k b e;omega
 ·exact e.imp id fun d=>⟨k b d,r b d⟩
def upN(f:Nat)(r:List Nat):List Nat:=r.map fun x=>if f<=x then x+1 else x
def Ra(RS:List (List Nat)) (f i:Nat):List (List Nat):=((List.range f).flatMap fun f=>RS.map fun r=>f::upN f r)++(RS.take i).map fun r=>f::upN f r
def Q8u(f:Nat)(r:List Nat)(k:Nat):List Nat:=f::upN f (r.take k)
def Q75(L:List (List Nat)) (base:Nat) (v:Value) (w':World):Prop:=∃ ao c vs,v=.slice ao L.length c/\w'.ownsRow base 48 1 (.slice ao L.length c) L.length vs/\Ui base (fun _=>False) w' vs L
def Q9v(n:Nat):Prop:=∀ w,Calls Tryz.prog 102 #[.int .i64 (n:Int)] w fun e w'=>∃ v,e=.returned v/\Q75 (Z6 n) w.heap.size v w'/\Ext w w'
def Uh(X:Nat)(K:Nat->Prop)(W:World)(ao:Option Addr)(c:Nat)(L:List (List Nat)):Prop:=∃ vs,W.ownsRow X 48 1 (.slice ao L.length c) L.length vs/\(∀ g,(Value.slice ao L.length c).ownBlock=some g->¬ K g)/\Ui X K W vs L
def Fl(K:Nat->Prop)(W:World)(v:Value)(RS:List (List Nat)):Prop:=∃ rs,Rd W v RS.length 1 rs/\Qr K v/\∀ i (h:i<RS.length),∃ eo ec,rs.getD i undef=.slice eo RS[i].length ec/\Rd W (.slice eo RS[i].length ec) RS[i].length 1 (Qi RS[i])/\Qr K (.slice eo RS[i].length ec)
theorem Fl.keep{K:Nat->Prop}{A B:World}{v:Value}{a:List (List Nat)} (h:Fl K A v a) (d:Q1 (fun b=>¬ K b) A B):Fl K B v a:=by
 obtain⟨n,j,c,k⟩:=h;exact⟨n,Hp j d c,c,fun i hi=>by obtain⟨g,f,l,m,e⟩:=k i hi;exact⟨g,f,l,Hp m d e,e⟩⟩
theorem Fl.made{A:Nat}{W:World}{k:Option Addr}{j:Nat}{rs:List Value}{a:List (List Nat)} (d:W.ownsRow A 48 1 (.slice k a.length j) a.length rs) (p:Ui A (fun _=>False) W rs a):Fl (fun b=>A<=b/\b<W.heap.size) W (.slice k a.length j) a:=by
 refine⟨rs,Rd.of_own d,fun g o n c e h=>d.lt g (by rw [e];simp [Value.ownBlock]),fun i hi=>?_⟩;obtain⟨m,l,q,f,_⟩:=p.2 i hi;exact⟨m,l,q,Rd.of_own f,fun g o n c e h=>f.lt g (by rw [e];simp [Value.ownBlock])⟩
theorem Uh.keep{X A:Nat}{K:Nat->Prop}{W a:World}{ao:Option Addr}{c:Nat}{L:List (List Nat)} (h:Uh X (fun _=>False) W ao c L) (k:A=W.heap.size) (f:Ext W a) (e:∀ b,K b->A<=b):Uh X K a ao c L:=by
 obtain⟨j,d,_,i⟩:=h;refine⟨j,Qf d f,fun g hg hk=>?_,i.keep f (fun _ _ _ _ _ h=>h) fun g hg hk=>?_⟩
 ·have:=(d.lt g hg).2;have:=e g hk;omega
 ·have:=e g hk;omega
theorem Uh.free{X:Nat}{K:Nat->Prop}{W:World}{ao:Option Addr}{c:Nat}{L:List (List Nat)} (h:Uh X K W ao c L):Uh X (fun _=>False) W ao c L:=by
 obtain⟨d,a,_,b⟩:=h;exact⟨d,a,fun _ _ h=>h,b.keep (Q1.refl (fun _=>False) W) (fun _ _ _ _ _ h=>h) fun _ _ h=>h.elim⟩
theorem Uh.ext{X:Nat}{K:Nat->Prop}{W a:World}{ao:Option Addr}{c:Nat}{L:List (List Nat)} (h:Uh X K W ao c L) (b:Ext W a):Uh X K a ao c L:=by
 obtain⟨g,d,e,f⟩:=h;exact⟨g,Qf d b,e,f.keep b (fun _ _ _ _ _ h=>h) fun _ _ h=>h⟩
theorem Uh.push{X:Nat}{K:Nat->Prop}{V i:World}{ao d vo:Option Addr}{c e vc:Nat}{L:List (List Nat)} {x:List Nat} {vs:List Value} (j:V.ownsRow X 48 1 (.slice ao L.length c) L.length vs) (k:∀ g,(Value.slice ao L.length c).ownBlock=some g->¬ K g) (l:Ui X K V vs L)
  (t:V.ownsRow X 3 1 (.slice vo x.length vc) x.length (Qi x)) (r:∀ g,(Value.slice vo x.length vc).ownBlock=some g->¬ K g) (n:∀ b,K b->b<V.heap.size)
  (o:i.ownsRow X 48 1 (.slice d (L.length+1) e) (L.length+1) (vs++[.slice vo x.length vc])) (p:Q1 (fun b=>(Value.slice ao L.length c).ownBlock=some b) V i) (m:(Value.slice d (L.length+1) e).ownBlock=(Value.slice ao L.length c).ownBlock\/(Value.slice d (L.length+1) e).ownBlock=some V.heap.size) :
  Uh X K i d e (L++[x]):=by
 have s:∀ g cur,V.heap[g]?=some (.cells cur 3 (0,0))->¬ (Value.slice ao L.length c).ownBlock=some g:=fun g cur hc f=>by
  obtain⟨u,q⟩:=Z3 j f;rw [q] at hc;simp only [Option.some.injEq,Obj.cells.injEq] at hc;exact absurd hc.2.1 zd
 refine⟨vs++[.slice vo x.length vc],by rw [List.length_append];exact o,fun g a hk=>?_,?_⟩
 ·have a:(Value.slice d (L.length+1) e).ownBlock=some g:=by simpa [Value.ownBlock] using a
  rcases m with f | f
  ·rw [f] at a;exact k g a hk
  ·rw [f] at a;cases a;have:=n _ hk;omega
 ·exact(l.push t r).keep p (fun g cur hc _ _=>s g cur hc) fun _ _ h=>h
def Q9y(M X:Nat)(RS:List (List Nat)) (w:World) (a:Act) (W:World):Prop:=∃(f:Nat) (ao:Option Addr) (c:Nat),f<=M/\a.defers=[]/\gS a [0,3,4]=(57,[.int .i64 (M:Int),.slice ao (Ra RS f 0).length c,.int .i64 f])/\Uh X (fun _=>False) W ao c (Ra RS f 0)/\Ext w W
def Q9n(M X f Z:Nat)(K:Nat->Prop)(rv:Value)(RS:List (List Nat)) (w W2:World) (a:Act) (V:World):Prop:=∃(i:Nat) (ao:Option Addr) (c:Nat),i<=Z/\a.defers=[]/\gS a [0,3,4,5,6]=(57,[.int .i64 (M:Int),.slice ao (Ra RS f i).length c,.int .i64 f,rv,.int .i64 i])/\Uh X K V ao c (Ra RS f i)/\Q1 (fun b=>¬ K b) W2 V/\Ext w V
def Qap(M N f i D:Nat)(ov rv:Value)(r:List Nat)(V:World)(a:Act)(U:World):Prop:=∃(k:Nat) (bo:Option Addr) (bc:Nat),k<=N/\a.defers=[]/\gS a [0,3,4,5,6,7,8]=(57,[.int .i64 (M:Int),ov,.int .i64 f,rv,.int .i64 i,.slice bo (k+1) bc,.int .i64 k])/\U.ownsRow D 3 1 (.slice bo (k+1) bc) (k+1) (Qi (Q8u f r k))/\Ext V U
def M3(ps:Qy)(qs:Qa)(L:List (List Nat)):List (List Nat):=L.filter fun x=>decide (Wh ps x qs=qs.length)
def Md(W:World)(vs:List Value)(L:List (List Nat)):Prop:=vs.length=L.length/\∀ i (h:i<L.length),∃ eo ec,vs.getD i undef=.slice eo L[i].length ec/\Rd W (.slice eo L[i].length ec) L[i].length 1 (Qi L[i])
theorem Md.push{W:World}{vs:List Value}{L:List (List Nat)} {x:List Nat} {c:Option Addr} {b:Nat} (h:Md W vs L) (j:Rd W (.slice c x.length b) x.length 1 (Qi x)):Md W (vs++[.slice c x.length b]) (L++[x]):=by
 refine⟨by simp [h.1],fun i hi=>?_⟩;by_cases a:i<L.length
 ·obtain⟨e,f,k,l⟩:=h.2 i a;refine⟨e,f,?_,?_⟩
  ·rw [List.getD_eq_getElem?_getD,List.getElem?_append_left (by rw [h.1];exact a),<-List.getD_eq_getElem?_getD,k,List.getElem_append_left a]
  ·rw [List.getElem_append_left a];exact l
 ·have g:i=L.length:=by simp at hi;omega
  subst g;have d:(L++[x])[L.length]'hi=x:=by simp
  refine⟨c,b,?_,?_⟩
  ·rw [d,List.getD_eq_getElem?_getD,<-h.1,List.getElem?_append_right (Nat.le_refl _)];simp
  ·rw [d];exact j
def Qae(v:Value):Prop:=∀ ao n c,v=.slice ao n c->n<=c
def Qaa(ps:Qy)(qs:Qa)(RS:List (List Nat)) (l0 l1 av:Value) (B Z:Nat) (_w W2:World) (a:Act) (W:World):Prop:=∃(k:Nat) (ao:Option Addr) (c:Nat) (vs:List Value),k<=Z/\a.defers=[]/\gS a [0,1,5,6,7]=(35,[l0,l1,.slice ao (M3 ps qs (RS.take k)).length c,av,.int .i64 k])/\W.ownsRow B 48 1 (.slice ao (M3 ps qs (RS.take k)).length c) (M3 ps qs (RS.take k)).length vs/\Md W2 vs (M3 ps qs (RS.take k))/\Ext W2 W
def Qaf(ps:Qy)(qs:Qa):List Nat:=if Qh (ps.map (·.1)) (qs.map (·.1))=0 then(M3 ps qs (Z6 ps.length)).headD [] else []
def Qa7(ps:Qy)(qs:Qa):Bool:=if Qh (ps.map (·.1)) (qs.map (·.1))=0 then !(M3 ps qs (Z6 ps.length)).isEmpty else false
def Qas(ps:Qy)(qs:Qa)(most:Int):List (List Nat):=if Qh (ps.map (·.1)) (qs.map (·.1))=0 then(M3 ps qs (Z6 ps.length)).take most.toNat else []
def Q89(ps:Qy)(qs:Qa)(x:List Nat):Nat:=(Q32 ps x qs).countP id
def Q1n(ps:Qy)(qs:Qa)(s:List Nat × Int)(x:List Nat):List Nat × Int:=if s.2<(Q89 ps qs x:Int) then(x,(Q89 ps qs x:Int)) else s
def Qab(ps:Qy)(qs:Qa)(l:List (List Nat)):List Nat × Int:=l.foldl (Q1n ps qs) ([],-1)
theorem Wq{a:Func}{t u:Tmp}(h:a.results=#[.tmp t,.tmp u]){tmps:Array Value}{P:Program}{w:World}{x y:Value}(b:tmps.getD t undef=x)(c:tmps.getD u undef=y):(results a tmps).run P w=.ok (.tuple #[x,y]) w:=by
 subst b c;simp [results,h,go_sem]
theorem Q5u{a:Func}{t u q:Tmp}(h:a.results=#[.tmp t,.tmp u,.tmp q]){tmps:Array Value}{P:Program}{w:World}{x y z:Value}(b:tmps.getD t undef=x)(c:tmps.getD u undef=y)(d:tmps.getD q undef=z):(results a tmps).run P w=.ok (.tuple #[x,y,z]) w:=by
 subst b c d;simp [results,h,go_sem]
theorem Sk(LD:List Q7)(qs:Qa)(n:Nat):(Zg LD qs n).length<=(Zn n (List.range n)).length:=List.length_filter_le _ _
theorem Pb{V w':World}{base base':Nat}{O:Nat->Prop}{v:Value}{vs:List Value}{L:List (List Nat)} (h3:V.ownsRow base 48 1 v L.length vs) (h5:Ui base O V vs L) (ht:Q1 (Go.Ab.Shut base' V) V w'):Xv w' v L:=
 ⟨vs,Rd.of_own (Qd h3 ht (fun g hg e=>by obtain⟨cur,hc⟩:=Z3 h3 hg;exact Go.Ab.Shut.not hc rfl e)),fun i hi=>by
  obtain⟨a1,c1,q1,q2,_⟩:=h5.2 i hi;exact⟨a1,c1,q1,Rd.of_own (Qd q2 ht (fun g hg e=>by obtain⟨cur,hc⟩:=Z3 q2 hg;exact Go.Ab.Shut.not hc rfl e))⟩⟩
theorem Q6i{w:World}{ps:Qy}{qs:Qa}{lo:Option Addr}{n lc:Nat}{j6:Option Addr}{m pc:Nat}{most:Int}(e6:Z9 w (.slice lo n lc) ps) (P:ps.length=n) (e7:Qu w (.slice j6 m pc) qs) (a7:qs.length=m) (e0:Tab w) :
  Calls Tryz.prog 39 #[.slice lo n lc,.slice j6 m pc,.int .i64 most] w fun e w'=>∃ ao c,e=.returned (.tuple #[.slice ao (Jw (ps.map (·.1)) qs most).length c,.int .i64 (Qh (ps.map (·.1)) (qs.map (·.1)))])/\(Xv w' (.slice ao (Jw (ps.map (·.1)) qs most).length c) (Jw (ps.map (·.1)) qs most)/\(Jw (ps.map (·.1)) qs most).length<=c)/\Ext w w':=by
 have a6:=fun(j:World) (q:Ext w j)=>Vj (e6.ext q) P (Zc e7 q) a7 (e0.keep q id);obtain⟨B,a4⟩:=zE (ps.map (·.1));have d6:B.length=n:=by rw [<-a4,List.length_map,P]
 have a9:Qh B (qs.map (·.1))=0->n<=6/\m<=1000:=fun a=>by have:=Jg a;rw [d6,List.length_map,a7] at this;omega
 have J:=fun(a:Qh B (qs.map (·.1))=0) (j:World) (B1 B2:Nat) (q:Ext w j) (l:j.heap[B1]?=_) (s:j.heap[B2]?=_)=>Dn q e6 P (a9 a).1 e7 a7 (a9 a).2 e0 l s
 have N:Qh B (qs.map (·.1))=0->(Zg B qs n).length<=720:=fun a=>by
  have l:=Sk B qs n;have s:=Bi n (a9 a).1;omega
 rw [a4];simp only [a4] at a6 J;obtain⟨m2,S⟩:=zE (Jw B qs most);rw [S];unfold Jw at S;rw [d6] at S;obtain⟨a3,d5⟩:=zE (Zg B qs n);obtain⟨b5,H⟩:=zE (Qh B (qs.map (·.1)));rw [d5,H] at S N;rw [H] at J ⊢;simp only [d5] at J;simp only [H] at a6;obtain⟨g3,g6,c8,g7⟩:=Zh4 a6 J S N;clear a6 J S N d5 H a9 a4 d6 e6 P e7 a7 e0;refine Qv Tryz.func39 rfl ?_;simp only [Tryz.ntmps39,zS,Nat.reduceAdd,Nat.reduceSub];go_upto_region 1 with (fail)
 obtain⟨r,a5⟩:=zE w.heap.size;obtain⟨j7,b0⟩:=zE (w.alloc (.cells #[.int .i64 most] 3));have i4:Ext w j7:=by rw [<-b0];exact(Q1.refl _ w).alloc _
 have i2:j7.heap[r]?=some (.cells #[.int .i64 most] 3 (0,0)):=by rw [<-b0];exact Q3 a5.symm
 rw [a5,b0];obtain⟨c1,g0,x⟩:=Zh3 i4 i2 a5;clear i4 i2 b0 a5;go_wp2_with fail;refine(g3.out _ c1.out).mono ?_;rintro e V ⟨rfl,d7⟩;have b7:=Zh (d7.keep g0.out);have c6:=Zh (c1.out.trans d7);clear d7 c1 g0 g3;by_cases H:b5=0;case neg=>
  have m9:(b5 != 0)=true:=by simpa using H
  have p:=c8.out;rw [if_neg H] at p;subst p;go_wp2;refine Zr (v:=.tuple #[.slice none 0 0,.int .i64 b5]) (base:=r) _ _ trivial fun w' ht' a8=>⟨Wq rfl rfl rfl,none,0,rfl,⟨Sw _,Nat.le_refl _⟩,Q1.after c6.out ht' (fun b hb a=>by have:=a.1;have:=x.out;omega)⟩
 subst H;have p:=c8.out;rw [if_pos uz] at p;have Y:=Zh p;have k5:=Zh (g7.out uz);clear p c8 g7;go_upto_region 5 with (fail)
 obtain⟨f9,b1⟩:=zE (V.alloc (.cells #[.slice none 0 0] 27));have d8:Ext V f9:=by rw [<-b1];exact(Q1.refl _ V).alloc _
 have d3:f9.heap[V.heap.size]?=some (.cells #[.slice none 0 0] 27 (0,0)):=by rw [<-b1];exact Q3 rfl
 have l4:r<V.heap.size:=(Array.getElem?_eq_some_iff.1 b7.out).1;obtain⟨BX,d4⟩:=zE V.heap.size;rw [b1,d4];rw [d4] at d3 l4;obtain⟨b8,b9,a2⟩:=Zh3 (d8.keep b7.out) d3 (c6.out.trans d8);clear b1 d4 d8 d3 b7 c6;have l1:=cell_of_one b8.out;by_cases m8:most<1
 ·have U:=Y.out;rw [show most.toNat=0 by omega,List.take_zero] at U;subst U;go_wp2;refine Zr (v:=.tuple #[.slice none 0 0,.int .i64 0]) (base:=r) _ _ trivial fun w' ht' a8=>⟨Wq rfl rfl rfl,none,0,rfl,⟨Sw _,Nat.le_refl _⟩,Q1.after a2.out ht' (fun b hb a=>by have:=a.1;have:=x.out;omega)⟩
 go_upto_region 7 with (fail)
 clear l1;go_wp2_with fail;refine(Kf _ _ _ _ _ _ _).mono ?_;rintro e E ⟨rfl,e4,e5,a0,e9⟩;obtain⟨z,e3⟩:=zE f9.heap.size;rw [e3] at e4 e5 e9 ⊢;have J:=g6.out uz E z (z+1) (a2.out.trans a0) e4 e5;have m7:BX<z:=by rw [<-e3];exact(Array.getElem?_eq_some_iff.1 b9.out).1
 obtain⟨k3,F,k4,k1,k2⟩:=Zh5 (a2.out.trans a0) e9 J (a0.keep b8.out) (a0.keep b9.out);clear a0 e9 J e4 e5 e3 g6 b8 b9 a2;go_wp2
 refine Xu (xs:=a3) (K:=fun b=>b<w.heap.size\/b=z\/b=z+1) rfl (fun args w=>by simp [go_sem]) k4.out (fun b a=>by have:=F.out;have:=x.out;rcases a with a | a | a <;> omega) (fun _ _ o b4 W a=>by obtain⟨_,_,rfl,_⟩:=a;rfl) ?hEs
  (fun y f j=>(f.length:Int)<most/\W1 BX r (E.heap.size+2) most w y f j) (fun c y f j=>c=.exit 0/\(f.length:Int)=most/\W1 BX r (E.heap.size+2) most w y f j) ?hI ?hIx ?h0 (fun W t=>(t.setIfInBounds 22 (W.getD 0 undef)).setIfInBounds 10 (W.getD 0 undef)) ?assign ?body ?done ?stop
 case hEs=>
  rintro n1 y o b4 a1 W ⟨b3,b2,rfl,l,s⟩ C ⟨n2,f5,f6⟩;refine⟨b3,b2,rfl,Qd l C (fun g T e=>?_),s⟩;subst e;obtain⟨m5,i9⟩:=Z3 l T;rw [f5] at i9;cases i9;cases f6
 case hI=>
  rintro y k9 f b4 a1 ⟨L,a⟩ I C d9;exact⟨L,a.step (D:=E.heap.size) (by rw [F.out];have:=x.out;omega) (by rw [F.out];omega) rfl I (C.mono fun b _ a=>a.imp (fun a=>a.1) id) d9⟩
 case hIx=>
  rintro c y k9 f b4 a1 ⟨rfl,L,a⟩ I C d9;exact⟨rfl,L,a.step (D:=E.heap.size) (by rw [F.out];have:=x.out;omega) (by rw [F.out];omega) rfl I (C.mono fun b _ a=>a.imp (fun a=>a.1) id) d9⟩
 case h0=>
  intro j e2 a8;exact⟨by simp;omega,none,0,[],e2.keep k2.out,e2.keep k1.out,World.ownsRow_nil _ _ _ _,(fun g T=>by cases T),⟨rfl,fun i hi=>by cases hi⟩,Q1.trans k3.out e2⟩
 case assign=>
  rintro _ _ o W j m1 ⟨b3,b2,rfl,_⟩ l3;gi_wp2;exact l3
 case done=>
  rintro y j ⟨L,ao,c,f8,l,s,u,M,d,q⟩ I C Z;have p:=Y.out;rw [List.take_of_length_le oz] at p;subst p;have l5:Xv j (.slice ao a3.length c) a3:=⟨f8,Rd.of_own u,fun i hi=>by obtain⟨l0,G,f5,f6,_⟩:=d.2 i hi;exact⟨l0,G,f5,Rd.of_own f6⟩⟩;obtain⟨A,Q,R,c0⟩:=Zh4 u d q Z;have G:=cell_of_one l;obtain⟨f4,O⟩:=zE a3.length;have X:=Zh O;rw [O] at G;clear l s u M d q Z I C l5 O Y;go_wp2;have j5:=F.out;refine Zr (v:=.tuple #[.slice ao f4 c,.int .i64 0]) (base:=r) _ _ (Qs.cons (base:=r) trivial oz c0.out (fun e he=>by cases he)) fun w' ht' a8=>⟨Wq rfl rfl rfl,ao,c,by rw [X.out],⟨Pb A.out Q.out ht',by have:=(Kd A.out).1;first | exact this | (rw [X.out];exact this)⟩,Q1.after R.out ht' (fun b hb a=>by have:=a.1;have:=x.out;omega)⟩
 case stop=>
  rintro c y f o f7 j p ⟨rfl,L,ao,c,f8,l,s,u,M,d,q⟩ Z;have U:=Y.out;have e8:(f++[o]).length=most.toNat:=by omega
  rw [p,show f++o::f7=(f++[o])++f7 by simp,<-e8,List.take_left] at U;obtain⟨c9,i6⟩:=zE (f++[o]);rw [i6] at U L l u M d;subst U;obtain⟨A,Q,R,c0⟩:=Zh4 u d q Z;have G:=cell_of_one l;obtain⟨f4,O⟩:=zE c9.length;have X:=Zh O;rw [O] at G;clear l s u M d q Z O p e8 i6 L Y;refine wp_exit ?_;go_wp2;have j5:=F.out;refine Zr (v:=.tuple #[.slice ao f4 c,.int .i64 0]) (base:=r) _ _ (Qs.cons (base:=r) trivial oz c0.out (fun e he=>by cases he)) fun w' ht' a8=>⟨Wq rfl rfl rfl,ao,c,by rw [X.out],⟨Pb A.out Q.out ht',by have:=(Kd A.out).1;first | exact this | (rw [X.out];exact this)⟩,Q1.after R.out ht' (fun b hb a=>by have:=a.1;have:=x.out;omega)⟩
 case body=>
  rintro y f o f7 W j p n0 I C ⟨L,ao,c,f8,l,s,u,M,d,q⟩ ⟨b3,b2,rfl,j2,T⟩;simp only [pq];have e8:f.length<720:=by
   have l:=congrArg List.length p;have s:=k5.out;simp at l;omega
  obtain⟨k7,c7,b6,g1,g2,Q,R,g9⟩:=Zh8 p I l s M d q j2;have g5:=Zh T;have A:=Zh u;have G:=cell_of_one l;have l2:=free_of_one l;have c2:=cell_of_one s;clear p I l s M d q j2 T C;refine wpIn_block ?_;refine wpIn_seq ?_;refine Xc kz ?hLO ?_;case hLO=>rintro⟨_,_,a⟩;exact a
  have j5:z+2<=E.heap.size:=Nat.le_of_eq F.out.symm;obtain⟨m0,f3⟩:=zE o.length;have k8:=Zh f3;rw [f3];clear f3
  go_wp2_with (at_builtin;refine Zz rfl (.tmp 23) (.tmp 25) 27 rfl (E.heap.size+2) 48 _ 1 24 Tryz.underlying27 @Q7h rfl zd _ _ _ rfl (Qf u ((Q1.refl _ j).alloc _)) ⟨j.heap.size,0,none⟩ 1 1 [.slice b3 m0 b2] rfl rfl (Y5 rfl) ?c2 ?c3 ?c4 ?c5 ?_)
  case c2=>first | rfl | (intro n3 j4;simp at j4;rcases j4 with rfl;rfl)
  case c3=>unfold maxLen;omega
  case c4=>omega
  case c5=>simp;omega
  intro d0 d1 j8 i5 i7 i3;have e1:Q1 (fun b=>(Value.slice ao f.length c).ownBlock=some b) j j8:=Q1.trans (Q1.alloc (Q1.refl _ j) _) i7;have i8:(Value.slice d0 (f.length+1) d1).ownBlock=(Value.slice ao f.length c).ownBlock\/∃ g,j.heap.size<=g/\(Value.slice d0 (f.length+1) d1).ownBlock=some g:=i3.imp id fun e=>⟨_,by simp,e⟩;have j1:=W1.push (BX:=BX) (BM:=r) (by have:=x.out;omega) oz oz oz (by have:=x.out;omega) b6.out g1.out A.out g2.out Q.out R.out (fun b hb=>(c7.out b hb).2) (Xh g9.out (Nat.le_refl _)) g5.out (by rw [k8.out];exact i5) e1 i8;obtain⟨l9,f2⟩:=zE (j8.setCell ⟨BX,0,none⟩ (.slice d0 (f.length+1) d1));rw [f2] at j1;obtain⟨f0,j3⟩:=j1;have f1:=e1.heap b6.out (fun e=>by have:=(A.out.lt _ e).1;omega);have c5:=cell_of_one f1;have m6:=free_of_one f1;have N:(f++[o]).length=f.length+1:=by simp
  have j0:Q1 (fun b=>¬ ((b<w.heap.size\/b=z\/b=z+1)\/y b\/b=E.heap.size\/b=E.heap.size+1)) j l9:=j3.mono fun b _ a P=>by
   have:=x.out;rcases a with a | ⟨a,l7⟩
   ·rcases P with (d | d | d) | d | d | d
    ·omega
    ·omega
    ·omega
    ·have:=(c7.out b d).1;omega
    ·omega
    ·omega
   ·rcases P with (d | d | d) | d | d | d
    ·omega
    ·omega
    ·omega
    ·exact l7 d
    ·omega
    ·omega
  have l8:=f0;obtain⟨m3,m4,n4,d2,i1,_⟩:=l8;rw [N] at d2;obtain⟨i0,g4,k6,j9,k0,g8⟩:=Zh6 f0 j0 f2 d2 i1 N;clear f0 j3 j0 f2 d2 i1 e1 i8 i7 i3 i5 f1 u G l2 N b6 g1 A g2 Q R g9 g5 k7 c7;go_wp2;rw [k6.out];have G:=cell_of_one j9.out;have c2:=cell_of_one k0.out;by_cases l6:((f.length:Int)+1)=most
  ·gi_wp2;exact⟨g4.out,rfl,by rw [g8.out];simpa using l6,i0.out⟩
  ·gi_wp2;exact⟨g4.out,by rw [g8.out];simp;omega,i0.out⟩
theorem Lq{w:World}{ps:Qy}{qs:Qa}{lo:Option Addr}{n lc:Nat}{po:Option Addr}{m pc:Nat}{most:Int}(hl:Z9 w (.slice lo n lc) ps) (hn:ps.length=n) (hp:Qu w (.slice po m pc) qs) (hm:qs.length=m) (hT:Tab w) :
  Calls Tryz.prog 39 #[.slice lo n lc,.slice po m pc,.int .i64 most] w fun e w'=>∃ ao c,e=.returned (.tuple #[.slice ao (Jw (ps.map (·.1)) qs most).length c,.int .i64 (Qh (ps.map (·.1)) (qs.map (·.1)))])/\Xv w' (.slice ao (Jw (ps.map (·.1)) qs most).length c) (Jw (ps.map (·.1)) qs most)/\Ext w w':=
 (Q6i hl hn hp hm hT).mono fun _ _ ⟨ao,c,h1,h2,h3⟩=>⟨ao,c,h1,h2.1,h3⟩
def Jj(x:List Nat)(i:Nat):List (Nat × Nat):=(List.range i).flatMap fun i'=>(x.drop (i'+1)).map fun b=>(x.getD i' 0,b)
def Hh(x:List Nat):List (Nat × Nat):=Jj x x.length
theorem Sl(x:List Nat)(i:Nat):Jj x (i+1)=Jj x i++(x.drop (i+1)).map fun b=>(x.getD i 0,b):=by
 unfold Jj;rw [List.range_succ,List.flatMap_append];simp
def inP(P:List (Nat × Nat)) (a b:Nat):Bool:=P.contains (a,b)
def Ug(V:World)(BB:Nat)(P:List (Nat × Nat)):Prop:=∃ cs:Array Value,V.heap[BB]?=some (.cells cs 164 (0,0))/\cs.size=36/\∀ a b,a<6->b<6->cs[a*6+b]?=some (.bool (inP P a b))
theorem Ug.cell{V:World}{c:Nat}{P:List (Nat × Nat)} (h:Ug V c P) {a b:Nat} (g:a<6) (i:b<6):V.cell? ⟨c,a*6+b,none⟩=some (.bool (inP P a b))/\V.frozen? ⟨c,a*6+b,none⟩=false:=by
 obtain⟨j,d,k,e⟩:=h;have f:=e a b g i;constructor
 ·simp [World.cell?,d,f]
 ·simp [World.frozen?,d]
theorem Ug.ext{A B:World}{a:Nat}{P:List (Nat × Nat)} {T:Nat->Prop} (h:Ug A a P) (g:Q1 T A B) (f:¬ T a):Ug B a P:=by
 obtain⟨b,c,d,e⟩:=h;exact⟨b,g.heap c f,d,e⟩
theorem Ug.set{V:World}{c:Nat}{P:List (Nat × Nat)} (h:Ug V c P) {a b:Nat} (k:a<6) (l:b<6):Ug (V.setCell ⟨c,a*6+b,none⟩ (.bool true)) c (P++[(a,b)]):=by
 obtain⟨g,d,e,i⟩:=h;refine⟨g.setIfInBounds (a*6+b) (.bool true),?_,by simp [e],fun x y hx hy=>?_⟩
 ·simp only [World.setCell,Array.getElem?_modify,d];simp
 ·rw [Array.getElem?_setIfInBounds];by_cases f:a*6+b=x*6+y
  ·obtain⟨rfl,rfl⟩:a=x/\b=y:=by omega
   rw [if_pos rfl,if_pos oz];unfold inP;simp
  ·rw [if_neg f,i x y hx hy]
   congr 2
   unfold inP;have j:¬ ((x,y)=(a,b)):=fun h=>by cases h;exact f rfl
   simp;intro d e;exact absurd (by rw [d,e]) j
def Hx(P:List (Nat × Nat)) (a b:Nat):Bool:=inP P a b && !inP P b a
def Zs(L:List (List Nat)):List (Nat × Nat):=L.flatMap Hh
theorem Se(L:List (List Nat)) (x:List Nat):Zs (L++[x])=Zs L++Hh x:=by
 unfold Zs;rw [List.flatMap_append];simp
def Yg(LD:List Q7)(qs:Qa):Int:=if Qh LD (qs.map (·.1))=0 then(if (Zg LD qs LD.length).isEmpty=true then 5 else 0) else Qh LD (qs.map (·.1))
def X4(LD:List Q7)(qs:Qa):List (Int × Int):=if Yg LD qs=0 then Ju LD.length (Hx (Zs (Zg LD qs LD.length))) else []
def V3(R:Nat->Nat->Bool)(a j:Nat):List (Int × Int):=((List.range j).filter (R a)).map fun(b:Nat)=>((a:Int),(b:Int))
theorem Q1d(R:Nat->Nat->Bool)(a j:Nat):V3 R a (j+1)=V3 R a j++if R a j=true then [((a:Int),(j:Int))] else []:=by
 unfold V3;rw [List.range_succ,List.filter_append,List.map_append];cases h:R a j <;> simp [h]
def U9(n:Nat)(R:Nat->Nat->Bool)(i:Nat):List (Int × Int):=(List.range i).flatMap fun a=>V3 R a n
theorem Mf(n:Nat)(R:Nat->Nat->Bool)(i:Nat):U9 n R (i+1)=U9 n R i++V3 R i n:=by
 unfold U9;rw [List.range_succ,List.flatMap_append];simp
theorem Pz(n:Nat)(R:Nat->Nat->Bool):U9 n R n=Ju n R:=rfl
theorem Bw(R:Nat->Nat->Bool)(a j:Nat):(V3 R a j).length<=j:=by
 unfold V3;rw [List.length_map];exact Nat.le_trans (List.length_filter_le _ _) zy
theorem T1(n:Nat)(R:Nat->Nat->Bool):∀ i,(U9 n R i).length<=i*n
 | 0=>by simp [U9]
 | i+1=>by
  rw [Mf,List.length_append,Nat.add_mul,Nat.one_mul];have:=T1 n R i;have:=Bw R i n;omega
theorem Tx{x:List Nat}{i a b:Nat}:(a,b)∈Jj x i↔∃ j,j<i/\x.getD j 0=a/\b∈x.drop (j+1):=by
 unfold Jj;rw [List.mem_flatMap];constructor
 ·rintro⟨j,c,e⟩;obtain⟨k,g,d⟩:=List.mem_map.1 e;cases d;exact⟨j,List.mem_range.1 c,rfl,g⟩
 ·rintro⟨j,c,rfl,f⟩;exact⟨j,List.mem_range.2 c,List.mem_map.2 ⟨b,f,rfl⟩⟩
theorem Fg{x:List Nat}(g:x.Nodup){a b:Nat}:(a,b)∈Hh x↔b∈x/\x.idxOf a<x.idxOf b:=by
 unfold Hh;rw [Tx];constructor
 ·rintro⟨i,f,rfl,d⟩;obtain⟨m,l,rfl⟩:=List.mem_iff_getElem.1 d;rw [List.length_drop] at l;rw [List.getElem_drop];have e:i+1+m<x.length:=by omega
  refine⟨List.getElem_mem e,?_⟩;rw [List.getD_eq_getElem?_getD,List.getElem?_eq_getElem f,Option.getD_some,g.idxOf_getElem i f,g.idxOf_getElem _ e];omega
 ·rintro⟨d,n⟩;have k:x.idxOf b<x.length:=List.idxOf_lt_length_of_mem d;have c:x.idxOf a<x.length:=by omega
  refine⟨x.idxOf a,c,?_,?_⟩
  ·rw [List.getD_eq_getElem?_getD,List.getElem?_eq_getElem c,Option.getD_some];exact List.getElem_idxOf c
  ·rw [List.mem_iff_getElem];refine⟨x.idxOf b - (x.idxOf a+1),by rw [List.length_drop];omega,?_⟩;rw [List.getElem_drop];have j:x.idxOf a+1+(x.idxOf b - (x.idxOf a+1))=x.idxOf b:=by omega
   simp only [j];exact List.getElem_idxOf k
def R4(n:Nat)(L:List (List Nat)):Prop:=∀ x∈L,x.Nodup/\∀ a,a∈x↔a<n
theorem Cb{n:Nat}{L:List (List Nat)} (d:R4 n L) {a b:Nat}:inP (Zs L) a b=true↔∃ x∈L,b<n/\x.idxOf a<x.idxOf b:=by
 unfold inP Zs;rw [List.contains_iff_mem,List.mem_flatMap];constructor
 ·rintro⟨x,c,e⟩;have:=(Fg (d x c).1).1 e;exact⟨x,c,((d x c).2 b).1 this.1,this.2⟩
 ·rintro⟨x,c,f,e⟩;exact⟨x,c,(Fg (d x c).1).2 ⟨((d x c).2 b).2 f,e⟩⟩
theorem Vg{n:Nat}{L:List (List Nat)} (c:R4 n L) (t:L≠[]) {a b:Nat}:Hx (Zs L) a b=true↔a<n/\b<n/\∀ x∈L,x.idxOf a<x.idxOf b:=by
 unfold Hx;rw [Bool.and_eq_true,Bool.not_eq_true',Cb c];have r:inP (Zs L) b a=false↔¬ ∃ x∈L,a<n/\x.idxOf b<x.idxOf a:=by
  rw [<-Cb c,Bool.not_eq_true]
 rw [r];constructor
 ·rintro⟨⟨x,f,d,s⟩,u⟩;have p:b∈x:=((c x f).2 b).2 d;have m:x.idxOf a<x.length:=Nat.lt_trans s (List.idxOf_lt_length_of_mem p);have l:a∈x:=List.idxOf_lt_length_iff.1 m;have g:a<n:=((c x f).2 a).1 l;refine⟨g,d,fun y hy=>?_⟩;have o:=((c y hy).2 a).2 g;have q:=((c y hy).2 b).2 d
  have v:y.idxOf a≠y.idxOf b:=fun e=>by
   have i:=List.getElem_idxOf (List.idxOf_lt_length_of_mem o);have k:=List.getElem_idxOf (List.idxOf_lt_length_of_mem q);simp only [e] at i;have:a=b:=i.symm.trans k;subst this;omega
  have w:¬ y.idxOf b<y.idxOf a:=fun h=>u ⟨y,hy,g,h⟩;omega
 ·rintro⟨g,d,j⟩;obtain⟨x,f⟩:=List.exists_mem_of_ne_nil L t;exact⟨⟨x,f,d,j x f⟩,fun⟨y,hy,_,h⟩=>by have:=j y hy;omega⟩
theorem Q0y{n:Nat}{L:List (List Nat)} (hL:R4 n L) (hne:L≠[]):Rel n (Hx (Zs L)) where
 dom:=fun a b h=>⟨((Vg hL hne).1 h).1,((Vg hL hne).1 h).2.1⟩
 irr:=fun a=>by
  cases h:Hx (Zs L) a a with
  | false=>rfl
  | true=>
   obtain⟨x,hx⟩:=List.exists_mem_of_ne_nil L hne;have:=((Vg hL hne).1 h).2.2 x hx;omega
 tr:=fun a b c h1 h2=>by
  have p:=(Vg hL hne).1 h1;have q:=(Vg hL hne).1 h2;exact(Vg hL hne).2 ⟨p.1,q.2.1,fun x hx=>Nat.lt_trans (p.2.2 x hx) (q.2.2 x hx)⟩
theorem Ty:∀(n:Nat),∀ x∈Zn n (List.range n),x.Nodup/\∀ a,a∈x↔a<n:=by
 have q:∀(n:Nat) (b:List Nat),b.Nodup->b.length=n->∀ x∈Zn n b,x.Nodup/\∀ a,a∈x↔a∈b:=by
  intro n
  induction n with
  | zero=>
   intro b _ k x c;obtain rfl:b=[]:=List.eq_nil_of_length_eq_zero k;simp [Zn] at c;subst c;exact⟨List.nodup_nil,fun a=>Iff.rfl⟩
  | succ n ih=>
   intro b l k x c;unfold Zn at c;obtain⟨f,j,d⟩:=List.mem_flatMap.1 c;obtain⟨r,p,rfl⟩:=List.mem_map.1 d;have o:(b.filter (· != f)).length=n:=by
    obtain⟨s,i,e⟩:=List.mem_iff_getElem.1 j;have:=Ft l i;rw [e] at this;rw [this,List.length_eraseIdx_of_lt i];omega
   obtain⟨m,g⟩:=ih (b.filter (· != f)) (l.filter _) o r p;refine⟨List.nodup_cons.2 ⟨fun hm=>?_,m⟩,fun a=>?_⟩
   ·have:=(g f).1 hm;simp at this
   ·rw [List.mem_cons,g a,List.mem_filter];constructor
    ·rintro(rfl | d)
     ·exact j
     ·exact d.1
    ·intro d;by_cases e:a=f
     ·exact .inl e
     ·exact .inr ⟨d,by simpa using e⟩
 intro n x c;have:=q n (List.range n) List.nodup_range zy x c;exact⟨this.1,fun a=>by rw [this.2 a,List.mem_range]⟩
theorem Cr(LD:List Q7)(qs:Qa)(n:Nat):R4 n (Zg LD qs n):=fun x hx=>Ty n x (List.mem_filter.1 hx).1
structure Und (n:Nat) (R Rk:Nat->Nat->Bool) (l:List (Int × Int)):Prop where
 rel:Rel n Rk
 le:∀ a b,Rk a b=true->R a b=true
 all:∀ a b:Nat,((a:Int),(b:Int))∈l->Rk a b=true
theorem Und.start{n:Nat}{R:Nat->Nat->Bool}:Und n R (fun _ _=>false) []:=⟨Rel.empty n,(fun _ _ h=>by cases h),(fun _ _ h=>by cases h)⟩
theorem Dg{n a:Nat}(h:a<n):Zl n (a:Int)=true:=by unfold Zl;simp;omega
theorem Und.step{n:Nat}{R g:Nat->Nat->Bool}{l:List (Int × Int)} {a b:Nat} (f:Rel n R) (h:Und n R g l) (d:R a b=true):W9 n g (a:Int) (b:Int)=0/\Und n R (Fq n g (a:Int) (b:Int)) (l++[((a:Int),(b:Int))]):=by
 obtain⟨p,q⟩:=f.dom a b d;have u:a≠b:=fun e=>by subst e;rw [f.irr] at d;cases d
 have t:g b a=false:=by
  cases e:g b a with
  | false=>rfl
  | true=>have:=f.asym d;rw [h.le b a e] at this;cases this
 have o:W9 n g (a:Int) (b:Int)=0:=by
  rw [Fz];refine⟨Dg p,Dg q,by omega,?_⟩;unfold isR;rw [Dg p,Dg q]
  simpa using t
 refine⟨o,⟨Q3t h.rel _ _,fun i k c=>?_,fun i k c=>?_⟩⟩
 ·unfold Fq at c;rw [if_pos o] at c;unfold Vr at c;simp only [Int.toNat_natCast,Bool.or_eq_true,Bool.and_eq_true,beq_iff_eq] at c;rcases c with c | ⟨r,s⟩
  ·exact h.le _ _ c
  ·have m:i=a\/R i a=true:=r.imp id (h.le _ _);have j:k=b\/R b k=true:=s.imp id (h.le _ _);rcases m with rfl | m
   ·rcases j with rfl | j
    ·exact d
    ·exact f.tr _ _ _ d j
   ·rcases j with rfl | j
    ·exact f.tr _ _ _ m d
    ·exact f.tr _ _ _ m (f.tr _ _ _ d j)
 ·unfold Fq;rw [if_pos o];unfold Vr;simp only [Int.toNat_natCast,Bool.or_eq_true,Bool.and_eq_true,beq_iff_eq];rcases List.mem_append.1 c with c | c
  ·exact .inl (h.all _ _ c)
  ·rw [List.mem_singleton,Prod.mk.injEq] at c;exact .inr ⟨.inl oz,.inl oz⟩
theorem Und.done{n:Nat}{R c:Nat->Nat->Bool}(d:Rel n R)(h:Und n R c (Ju n R)):c=R:=by
 funext a b
 rw [Bool.eq_iff_iff];exact⟨h.le a b,fun e=>h.all a b (Mb.2 ⟨a,b,rfl,(d.dom a b e).1,(d.dom a b e).2,e⟩)⟩
theorem T4(l:List Nat):Nw (l.map fun(i:Nat)=>(i:Int))=Qi l:=by simp [Nw,Qi]
theorem Ts(ao a:Option Addr)(n m b c:Nat)(w:World)(h:n≠m) :
  Calls Tryz.prog 36 #[.slice ao n b,.slice a m c] w fun e w'=>e=.returned (.bool false)/\w=w':=by
 have d:((n:Int) !=(m:Int))=true:=by simp;omega
 go_enter Tryz.func36,Tryz.ntmps36;go_wp2;go_ret;exact⟨rfl,rfl⟩
theorem Bp(v x:Value)(a lb:List Int)(w:World)(c:Rd w v a.length 1 (Nw a)) (d:Rd w x lb.length 1 (Nw lb)) :
  Calls Tryz.prog 36 #[v,x] w fun e w'=>e=.returned (.bool (decide (a=lb)))/\∃ m,w'=w.drewN m:=by
 obtain⟨_,D,G,I,rfl,c⟩:=c;obtain⟨_,E,H,J,rfl,d⟩:=d;unfold maxLen at D E;by_cases f:a.length=lb.length
 ·by_cases B:a.length=0
  ·have:a=[]:=by simpa using B
   subst this;have:lb=[]:=by simpa using f.symm
   subst this;go_enter Tryz.func36,Tryz.ntmps36;go_wp2;refine wp_loop_rounds 1 ?_;rw [rounds_succ];go_wp2;go_ret;exact⟨rfl,0,rfl⟩
  ·obtain⟨K,P,rfl,_,c⟩:=c oz;obtain⟨L,Q,rfl,_,d⟩:=d oz;have M:((a.length:Int) !=(lb.length:Int))=false:=by simp [f]
   have g:=Zh f;clear f;go_enter Tryz.func36,Tryz.ntmps36;go_wp2
   go_loopw [5] (fun i wr=>∃ b m:Nat,b<=a.length/\i=.int .i64 b/\(∀ j,j<b->a.getD j 0=lb.getD j 0)/\wr=w.drewN m) (fun i _=>a.length - (intOf i).toNat)
   case atStart=>exact⟨0,0,Nat.zero_le _,rfl,fun _ h=>by omega,rfl⟩
   case round=>
    obtain⟨b,m,N,rfl,k,rfl⟩:=hrel;by_cases C:b<a.length
    ·obtain⟨n,q⟩:=zE (a.getD b 0);obtain⟨o,r⟩:=zE (lb.getD b 0);have z:=c b oz;have A:=d b (by have:=g.out;omega);rw [Pl _ _ C,q] at z;rw [Pl _ _ (by have:=g.out;omega),r] at A;have O:(b:Int)<(lb.length:Int):=by have:=g.out;omega
     obtain⟨s,t,p⟩:=Zh3 q r k;clear k c d q r;go_wp2
     go_quiet (fail)
     go_wp2
     ·have l:(n != o)=true:=by assumption
      go_ret;refine⟨Yk (decide_eq_false fun e=>?_).symm,m+nq,by simp⟩;subst e;rw [s.out.symm.trans t.out] at l;simp at l
     ·have F:(n != o)=false:=by assumption
      go_roundw
      case rel=>
       refine⟨b+1,m+nq,by omega,by go_num,fun j hj=>?_,by simp⟩;by_cases e:j=b
       ·subst e;rw [s.out,t.out];simpa using F
       ·exact p.out j oz
      case measure=>simp [intOf];omega
    ·have u:b=a.length:=by omega
     have y:=Zh u;have p:=Zh k;clear u k c d;go_wp2;go_ret;refine⟨Yk (decide_eq_true (List.ext_getElem g.out fun j h1 h2=>?_)).symm,m,rfl⟩;have:=p.out j (by have:=y.out;omega)
     simpa [List.getD_eq_getElem?_getD,h1,h2] using this
 ·have l:a≠lb:=fun h=>f (by rw [h]);exact(Ts _ _ _ _ _ _ w f).mono fun e w' ⟨h1,h2⟩=>⟨by rw [h1];simp [l],0,h2.symm⟩
theorem Q4s(ao a:Option Addr)(n m b c:Nat)(w:World)(h:n≠m) :
  Calls Tryz.prog 47 #[.slice ao n b,.slice a m c] w fun e w'=>e=.returned (.bool false)/\w=w':=by
 have d:((n:Int) !=(m:Int))=true:=by simp;omega
 go_enter Tryz.func47,Tryz.ntmps47;go_wp2;go_ret;exact⟨rfl,rfl⟩
theorem Q3w(C D:Value)(b lb:List (Int × Int)) (w:World) (c:Rd w C b.length 2 (prs b)) (d:Rd w D lb.length 2 (prs lb)) :
  Calls Tryz.prog 47 #[C,D] w fun e w'=>e=.returned (.bool (decide (b=lb)))/\∃ m,w'=w.drewN m:=by
 obtain⟨_,K,N,Q,rfl,c⟩:=c;obtain⟨_,L,O,R,rfl,d⟩:=d;unfold maxLen at K L;by_cases f:b.length=lb.length
 ·by_cases J:b.length=0
  ·have:b=[]:=by simpa using J
   subst this;have:lb=[]:=by simpa using f.symm
   subst this;go_enter Tryz.func47,Tryz.ntmps47;go_wp2;refine wp_loop_rounds 1 ?_;rw [rounds_succ];go_wp2;go_ret;exact⟨rfl,0,rfl⟩
  ·obtain⟨S,Z,rfl,_,c⟩:=c oz;obtain⟨T,a0,rfl,_,d⟩:=d oz;have U:((b.length:Int) !=(lb.length:Int))=false:=by simp [f]
   have t:=Zh f;clear f;have Y:=fun W n o p q=>Ly (P:=Tryz.prog) W 9998 73 3 .i64 n o p q Tryz.underlying73 Tryz.underlying3 kz;go_enter Tryz.func47,Tryz.ntmps47;go_wp2
   go_loopw [5] (fun i wr=>∃ a m:Nat,a<=b.length/\i=.int .i64 a/\(∀ j,j<a->b.getD j (0,0)=lb.getD j (0,0))/\wr=w.drewN m) (fun i _=>b.length - (intOf i).toNat)
   case atStart=>exact⟨0,0,Nat.zero_le _,rfl,fun _ h=>by omega,rfl⟩
   case round=>
    obtain⟨a,m,V,rfl,g,rfl⟩:=hrel;by_cases B:a<b.length
    ·obtain⟨⟨n,o⟩,k⟩:=zE (b.getD a (0,0));obtain⟨⟨p,q⟩,l⟩:=zE (lb.getD a (0,0));have A:a<lb.length:=by have:=t.out;omega
     have F:=c (a*2) oz;have G:=c (a*2+1) oz;have H:=d (a*2) oz;have I:=d (a*2+1) oz;rw [L2 _ _ B,k] at F;rw [L3 _ _ B,k,<-Nat.add_assoc] at G;rw [L2 _ _ A,l] at H;rw [L3 _ _ A,l,<-Nat.add_assoc] at I;have X:(a:Int)<(lb.length:Int):=by omega
     obtain⟨u,v,r⟩:=Zh3 k l g;clear g c d k l;go_wp2
     go_quiet (fail)
     go_wp2
     ·have s:(!n == p)=true\/(!o == q)=true:=by assumption
      go_ret;refine⟨Yk (decide_eq_false fun e=>?_).symm,m+nq,by simp⟩;subst e;have:=u.out.symm.trans v.out;simp at this;simp [this] at s
     ·have M:(!n == p)=false/\(!o == q)=false:=by assumption
      go_roundw
      case rel=>
       refine⟨a+1,m+nq,by omega,by go_num,fun j hj=>?_,by simp⟩;by_cases e:j=a
       ·subst e;rw [u.out,v.out];simpa using M
       ·exact r.out j oz
      case measure=>simp [intOf];omega
    ·have z:a=b.length:=by omega
     have E:=Zh z;have r:=Zh g;clear z g c d;go_wp2;go_ret;refine⟨Yk (decide_eq_true (List.ext_getElem t.out fun j h1 h2=>?_)).symm,m,rfl⟩;have:=r.out j (by have:=E.out;omega)
     simpa [List.getD_eq_getElem?_getD,h1,h2] using this
 ·have s:b≠lb:=fun h=>f (by rw [h]);exact(Q4s _ _ _ _ _ _ w f).mono fun e w' ⟨h1,h2⟩=>⟨by rw [h1];simp [s],0,h2.symm⟩
theorem Un(d g:Value)(c lb:List Nat)(w:World)(k:Rd w d c.length 1 (Qi c)) (l:Rd w g lb.length 1 (Qi lb)) :
  Calls Tryz.prog 36 #[d,g] w fun e w'=>e=.returned (.bool (decide (c=lb)))/\∃ m,w'=w.drewN m:=by
 have j:=Bp d g (c.map fun(i:Nat)=>(i:Int)) (lb.map fun(i:Nat)=>(i:Int)) w (by rw [T4,List.length_map];exact k) (by rw [T4,List.length_map];exact l);have n:decide ((c.map fun(i:Nat)=>(i:Int))=(lb.map fun(i:Nat)=>(i:Int)))=decide (c=lb):=by
  by_cases e:c=lb
  ·subst e;simp
  ·rw [decide_eq_false e,decide_eq_false];intro o;exact e ((List.map_inj_right (f:=fun(i:Nat)=>(i:Int)) (fun a b (hab:(a:Int)=(b:Int))=>by omega)).1 o)
 rwa [n] at j
theorem Q16(ao a:Option Addr)(n m b c:Nat)(w:World)(h:n≠m) :
  Calls Tryz.prog 41 #[.slice ao n b,.slice a m c] w fun e w'=>e=.returned (.bool false)/\w=w':=by
 have d:((n:Int) !=(m:Int))=true:=by simp;omega
 go_enter Tryz.func41,Tryz.ntmps41;go_wp2;go_ret;exact⟨rfl,rfl⟩
theorem Q2a(T U:Value)(b lb:List (List Nat)) (w:World) (k:Xv w T b) (l:Xv w U lb) :
  Calls Tryz.prog 41 #[T,U] w fun e w'=>e=.returned (.bool (decide (b=lb)))/\∃ m,w'=w.drewN m:=by
 obtain⟨b3,⟨_,a1,a6,a8,rfl,k⟩,R⟩:=k;obtain⟨b4,⟨_,a2,a7,a9,rfl,l⟩,S⟩:=l;unfold maxLen at a1 a2;by_cases p:b.length=lb.length
 ·by_cases a0:b.length=0
  ·have:b=[]:=by simpa using a0
   subst this;have:lb=[]:=by simpa using p.symm
   subst this;go_enter Tryz.func41,Tryz.ntmps41;go_wp2;refine wp_loop_rounds 1 ?_;rw [rounds_succ];go_wp2;go_ret;exact⟨rfl,0,rfl⟩
  ·obtain⟨Y,a4,rfl,_,k⟩:=k oz;obtain⟨Z,a5,rfl,_,l⟩:=l oz;have b0:((b.length:Int) !=(lb.length:Int))=false:=by simp [p]
   obtain⟨A,W,X⟩:=Zh3 p R S;clear p R S;go_enter Tryz.func41,Tryz.ntmps41;go_wp2
   go_loopw [5] (fun i wr=>∃ a m:Nat,a<=b.length/\i=.int .i64 a/\(∀ j,j<a->b.getD j []=lb.getD j [])/\wr=w.drewN m) (fun i _=>b.length - (intOf i).toNat)
   case atStart=>exact⟨0,0,Nat.zero_le _,rfl,fun _ h=>by omega,rfl⟩
   case round=>
    obtain⟨a,m,b1,rfl,t,rfl⟩:=hrel;by_cases Q:a<b.length
    ·have P:a<lb.length:=by have:=A.out;omega
     obtain⟨J,L,F,q⟩:=W.out a Q;obtain⟨K,M,G,r⟩:=X.out a P;have x:=k a oz;have y:=l a oz;rw [F] at x;rw [G] at y;have u:b.getD a []=b[a]:=by simp [List.getD_eq_getElem?_getD,Q]
     have v:lb.getD a []=lb[a]:=by simp [List.getD_eq_getElem?_getD,P]
     obtain⟨c,H⟩:=zE (b[a]);obtain⟨f,I⟩:=zE (lb[a]);rw [H] at x q u;rw [I] at y r v;have b2:(a:Int)<(lb.length:Int):=by have:=A.out;omega
     obtain⟨g,n⟩:=zE (w.drewN m);have x:g.cell? ⟨Y,a4+a,none⟩=some (.slice J c.length L):=by rw [<-n];simpa using x
     have y:g.cell? ⟨Z,a5+a,none⟩=some (.slice K f.length M):=by rw [<-n];simpa using y
     have q:Rd g (.slice J c.length L) c.length 1 (Qi c):=by rw [<-n];exact q.drewN m
     have r:Rd g (.slice K f.length M) f.length 1 (Qi f):=by rw [<-n];exact r.drewN m
     have o:∀ d,Calls Tryz.prog 36 #[.slice J c.length L,.slice K f.length M] (g.drewN d) fun e w'=>e=.returned (.bool (decide (c=f)))/\∃ m,w'=(g.drewN d).drewN m:=fun d=>Un _ _ c f _ (q.drewN d) (r.drewN d);have N:=Zh n;rw [n];clear n;by_cases s:c=f
     ·rw [decide_eq_true s] at o;obtain⟨z,D,C,E,B⟩:=Zh5 o s u v t;clear t k l u v H I F G q r o s;go_wp2
      go_quiet ((go_at_call 36;exact Calls.quiet_of (z.out _)))
      go_wp2
      go_roundw
      case rel=>
       refine⟨a+1,m+nq,by omega,by go_num,fun j hj=>?_,by rw [<-N.out];simp⟩;by_cases e:j=a
       ·subst e;rw [C.out,E.out];exact D.out
       ·exact B.out j oz
      case measure=>simp [intOf];omega
     ·rw [decide_eq_false s] at o;obtain⟨z,D,C,E⟩:=Zh4 o s u v;clear t k l u v H I F G q r o s;go_wp2
      go_quiet ((go_at_call 36;exact Calls.quiet_of (z.out _)))
      go_wp2;go_ret;refine⟨Yk (decide_eq_false fun e=>?_).symm,m+nq,by rw [<-N.out];simp⟩;subst e;exact D.out (C.out.symm.trans E.out)
    ·have O:a=b.length:=by omega
     have V:=Zh O;have B:=Zh t;clear O t k l;go_wp2;go_ret;refine⟨Yk (decide_eq_true (List.ext_getElem A.out fun j h1 h2=>?_)).symm,m,rfl⟩;have:=B.out j (by have:=V.out;omega)
     simpa [List.getD_eq_getElem?_getD,h1,h2] using this
 ·have a3:b≠lb:=fun h=>p (by rw [h]);exact(Q16 _ _ _ _ _ _ w p).mono fun e w' ⟨h1,h2⟩=>⟨by rw [h1];simp [a3],0,h2.symm⟩
theorem Q56(D:World):(sizeOf (Tryz.prog.elem 48)).run Tryz.prog D=.ok 1 D:=by
 have a:Tryz.prog.elem 48=3:=by kernel_rfl
 rw [a];obtain⟨d,b,_,c,_⟩:=info_parts @Q0j;simp [sizeOf,typeInfo,b,c]
theorem Q2v:Tryz.prog.underlying 48=some (.slice (Tryz.prog.elem 48)):=by kernel_rfl
theorem Q71{w:World}{A:Option Addr}{n c:Nat}{xs:List Value}(h:Rd w (.slice A n c) n 1 xs) {a:Nat} (q:a<=n) (r:n<=c):Rd w (sliced A a n c 1) (n - a) 1 (xs.drop a):=by
 obtain⟨b,p,m,o,d,f⟩:=h;simp only [zV,true_and] at d;obtain⟨rfl,rfl⟩:=d;rw [Nat.mul_one] at b;refine⟨by rw [List.length_drop,b,Nat.mul_one],by omega,_,_,by unfold sliced;rfl,fun h0=>?_⟩;obtain⟨e,l,rfl,k,g⟩:=f oz;by_cases i:c=a
 ·omega
 ·refine⟨e,l+a,by rw [if_neg i];simp [Q12],k,fun j hj=>?_⟩;rw [Nat.add_assoc,g (a+j) oz]
  congr 1
  rw [List.getD_eq_getElem?_getD,List.getD_eq_getElem?_getD,List.getElem?_drop]
theorem Q70{V:World}{c:Nat}(h:V.heap[c]?=some (.cells #[.bool false,.bool false,.bool false,.bool false,.bool false,.bool false,.bool false,.bool false,.bool false,.bool false,.bool false,.bool false,.bool false,.bool false,.bool false,.bool false,.bool false,.bool false,.bool false,.bool false,.bool false,.bool false,.bool false,.bool false,.bool false,.bool false,.bool false,.bool false,.bool false,.bool false,.bool false,.bool false,.bool false,.bool false,.bool false,.bool false] 164 (0,0))):Ug V c (Zs []):=by
 have d:(#[.bool false,.bool false,.bool false,.bool false,.bool false,.bool false,.bool false,.bool false,.bool false,.bool false,.bool false,.bool false,.bool false,.bool false,.bool false,.bool false,.bool false,.bool false,.bool false,.bool false,.bool false,.bool false,.bool false,.bool false,.bool false,.bool false,.bool false,.bool false,.bool false,.bool false,.bool false,.bool false,.bool false,.bool false,.bool false,.bool false]:Array Value)=(List.replicate 36 (Value.bool false)).toArray:=rfl;rw [d] at h;refine⟨_,h,by simp,fun a b ha hb=>?_⟩;have e:a*6+b<36:=by omega
 simp only [List.getElem?_toArray,List.getElem?_replicate,e,if_true];rfl
def Q13(BB _base:Nat)(w:World)(pre:List (List Nat)) (V:World):Prop:=Ug V BB (Zs pre)/\V.heap[BB+1]?=some (.cells #[.bool (!pre.isEmpty)] 4 (0,0))/\Ext w V
theorem Gt{w:World}{ps:Qy}{qs:Qa}{lo:Option Addr}{n lc:Nat}{q6:Option Addr}{m pc:Nat}(e6:Z9 w (.slice lo n lc) ps) (Z:ps.length=n) (j2:Qu w (.slice q6 m pc) qs) (e7:qs.length=m) (i4:Tab w) :
  Calls Tryz.prog 31 #[.slice lo n lc,.slice q6 m pc] w fun e w'=>∃ ao c,e=.returned (.tuple #[.slice ao (X4 (ps.map (·.1)) qs).length c,.int .i64 (Yg (ps.map (·.1)) qs)])/\Rd w' (.slice ao (X4 (ps.map (·.1)) qs).length c) (X4 (ps.map (·.1)) qs).length 2 (prs (X4 (ps.map (·.1)) qs))/\Ext w w':=by
 have e3:=fun(o:World) (z:Ext w o)=>Vj (e6.ext z) Z (Zc j2 z) e7 (i4.keep z id);obtain⟨M,d9⟩:=zE (ps.map (·.1));have i1:M.length=n:=by rw [<-d9,List.length_map,Z]
 have u6:n<=maxLen:=by rw [<-Z];exact e6.1.2.1
 have f2:Qh M (qs.map (·.1))=0->n<=6/\m<=1000:=fun g=>by have:=Jg g;rw [i1,List.length_map,e7] at this;omega
 have Y:=fun(g:Qh M (qs.map (·.1))=0) (o:World) (B1 B2:Nat) (z:Ext w o) (N:o.heap[B1]?=_) (E:o.heap[B2]?=_)=>Dn z e6 Z (f2 g).1 j2 e7 (f2 g).2 i4 N E
 have a6:Qh M (qs.map (·.1))=0->∀ d∈Zg M qs n,d.length=n/\∀ a∈d,a<n:=fun g d j=>by
  unfold Zg at j;have j:=(List.mem_filter.1 j).1;rw [Kq] at j;exact Gc n d j
 rw [d9];simp only [d9] at e3 Y;obtain⟨l9,a3⟩:=zE (X4 M qs);obtain⟨v8,a2⟩:=zE (Yg M qs);rw [a3,a2];unfold X4 at a3;rw [a2] at a3;unfold Yg at a2;rw [i1] at a3 a2;obtain⟨T,d8⟩:=zE (Zg M qs n);obtain⟨c8,H⟩:=zE (Qh M (qs.map (·.1)));rw [d8] at a3;rw [d8,H] at a2 a6;have b0:=fun(g:c8=0)=>(f2 (by rw [H];exact g)).1;rw [H] at Y;simp only [d8] at Y;simp only [H] at e3;obtain⟨l0,l3,b7,g4,l7,l4⟩:=Zh6 e3 Y a3 a2 a6 b0;clear e3 Y a3 a2 a6 d8 H f2 d9 i1 e6 Z j2 e7 i4 b0;unfold maxLen at u6;refine Qv Tryz.func31 rfl ?_;simp only [Tryz.ntmps31,zS,Nat.reduceAdd,Nat.reduceSub];obtain⟨V,n2⟩:=zE w.heap.size;have S:=Zh n2;clear n2;go_wp2_with fail;refine(l0.out _ (Q1.refl _ _)).mono ?_;rintro e f9 ⟨rfl,n3⟩;have B:=Zh n3;clear n3 l0;by_cases H:c8=0;case neg=>
  have x4:(c8 != 0)=true:=by simpa using H
  have u:=g4.out;rw [if_neg H] at u;have j:=b7.out;rw [<-u,if_neg H] at j;subst j u;go_wp2;refine Zr (v:=.tuple #[.slice none 0 0,.int .i64 c8]) (base:=V) _ _ trivial fun w' ht' j6=>⟨Wq rfl rfl rfl,none,0,rfl,Rd.of_own (e:=3) (World.ownsRow_nil _ 0 _ _),Q1.after B.out ht' (fun b s g=>by have:=g.1;have:=S.out;omega)⟩
 subst H;have u:=g4.out;rw [if_pos uz] at u;have d1:=Zh u;have b0:=l4.out uz;have t5:=Zh (l7.out uz);clear u g4 l7 l4;go_upto_region 6 with (fail)
 obtain⟨g0,c1⟩:=zE ((f9.alloc (.cells #[.bool false,.bool false,.bool false,.bool false,.bool false,.bool false,.bool false,.bool false,.bool false,.bool false,.bool false,.bool false,.bool false,.bool false,.bool false,.bool false,.bool false,.bool false,.bool false,.bool false,.bool false,.bool false,.bool false,.bool false,.bool false,.bool false,.bool false,.bool false,.bool false,.bool false,.bool false,.bool false,.bool false,.bool false,.bool false,.bool false] 164)).alloc (.cells #[.bool false] 4));have n4:Ext f9 g0:=by rw [<-c1];exact((Q1.refl _ f9).alloc _).alloc _
 obtain⟨q,d7⟩:=zE f9.heap.size;have m5:Ug g0 q (Zs []):=Q70 (by rw [<-c1];exact Q6 (Q3 d7.symm));have m6:g0.heap[q+1]?=some (.cells #[.bool false] 4 (0,0)):=by rw [<-c1];exact Q3 (by simp;omega)
 have w2:V<=q:=by rw [<-d7,<-S.out];exact B.out.size
 rw [d7,c1];obtain⟨k7,g1,g2⟩:=Zh3 m5 m6 (B.out.trans n4);clear c1 d7 n4 m5 m6 B;go_wp2_with fail;refine(Kf _ _ _ _ _ _ _).mono ?_;rintro e Q ⟨rfl,X,i8,b8,j9⟩;obtain⟨C,i7⟩:=zE g0.heap.size;rw [i7] at X i8 j9 ⊢;have Y:=l3.out uz Q C (C+1) (g2.out.trans b8) X i8;have w4:q+1<C:=by rw [<-i7];exact(Array.getElem?_eq_some_iff.1 g1.out).1
 obtain⟨r4,d4,r8,q8,q9⟩:=Zh5 (g2.out.trans b8) j9 Y (k7.out.ext b8 id) (b8.keep g1.out);clear b8 j9 Y X i8 i7 l3 k7 g1 g2;go_wp2
 refine Xu (xs:=T) (K:=fun b=>b<w.heap.size\/b=C\/b=C+1) rfl (fun args w=>by simp [go_sem]) r8.out (fun b g=>by have:=d4.out;have:=S.out;rcases g with g | g | g <;> omega) (fun _ _ d A b5 g=>by obtain⟨_,_,rfl,_⟩:=g;rfl) ?hEs
  (fun a8 a0 o=>Q13 q (Q.heap.size+2) w a0 o) (fun c a8 a0 o=>False) ?hI ?hIx ?h0 (fun b5 t=>(t.setIfInBounds 26 (b5.getD 0 undef)).setIfInBounds 9 (b5.getD 0 undef)) ?assign ?body ?done ?stop
 case hEs=>
  rintro y1 a8 d A R b5 ⟨c7,L,rfl,N,E⟩ a5 ⟨y2,k3,k4⟩;refine⟨c7,L,rfl,Qd N a5 (fun x I e=>?_),E⟩;subst e;obtain⟨m3,a4⟩:=Z3 N I;rw [k3] at a4;cases a4;cases k4
 case hI=>
  rintro a8 v9 a0 A R ⟨N,E,F⟩ O a5 w3;have q5:=d4.out;have Z:=S.out;have k1:Q1 (fun b=>Q.heap.size+1<=b) A R:=a5.mono fun b _ g=>g.elim (fun g=>by have:=(O b g.1).1;omega) (fun g=>by omega);exact⟨N.ext k1 oz,k1.heap E oz,F.after k1 (fun b s g=>by omega)⟩
 case hIx=>exact fun _ _ _ _ _ _ g _ _ _=>g
 case h0=>
  intro o i5 j6;exact⟨q8.out.ext i5 id,i5.keep q9.out,Q1.trans r4.out i5⟩
 case assign=>
  rintro _ _ d b5 o v7 ⟨c7,L,rfl,_⟩ u1;gi_wp2;exact u1
 case stop=>exact fun _ _ _ _ _ _ _ g=>g.elim
 case body=>
  rintro a8 a0 d y4 b5 o j x7 O a5 ⟨N,E,z⟩ ⟨c7,L,rfl,f1,I⟩;simp only [pq];have q3:=t5.out d (by rw [j];simp);have q5:C+2<=Q.heap.size:=Nat.le_of_eq d4.out.symm;have P:∀ x,(Value.slice c7 d.length L).ownBlock=some x->Q.heap.size+2<=x:=fun x I=>(f1.lt x I).1;have J:∀ R,Q1 (fun b=>b=q\/b=q+1) o R->Rd R (.slice c7 d.length L) d.length 1 (Qi d):=fun R hB=>Rd.of_own (Qd f1 hB (fun x I e=>by have:=P x I;omega));have o1:d.length<=L:=by
   rcases f1.2 with ⟨e,_⟩ | ⟨x,t8,m3,e,_,_,u5,_⟩
   ·simp only [zV] at e;omega
   ·cases e;exact u5
  obtain⟨G,f3⟩:=zE d.length;have g8:=Zh f3;rw [f3] at J o1;have y0:G<=6:=by omega
  rw [f3];obtain⟨l8,s1,q7,v5,d0,l5⟩:=Zh6 q3.2 O N E z J;have c2:=cell_of_one E;have t9:=free_of_one E;clear q3 P J j O N z f1 I a5 f3;refine wpIn_block ?_;gi_wp2;have f7:=Q1.set1 o (q+1) 0 (.bool true);obtain⟨g9,i6⟩:=zE (o.setCell ⟨q+1,0,none⟩ (.bool true));have o3:g9.heap[q+1]?=some (.cells #[.bool true] 4 (0,0)):=by rw [<-i6];exact J9 E
  rw [i6] at f7 ⊢;have X:=q7.out.ext f7 oz;obtain⟨r7,t1,r2⟩:=Zh3 o3 f7 X;clear i6 o3 f7 X c2 t9 E;have o9:∀ W,Q1 (fun b=>b=q) g9 W->Q1 (fun b=>b=q\/b=q+1) o W:=fun W hW=>(t1.out.mono fun b _ e=>.inr e).trans (hW.mono fun b _ e=>.inl e);have g5:=Zh o9;clear o9
  gi_loopw [29] (fun i wr=>∃ f:Nat,f<=G/\i=.int .i64 f/\Ug wr q (Zs a0++Jj d f)/\Q1 (fun b=>b=q) g9 wr) (fun i _=>G - (intOf i).toNat)
  case atStart=>exact⟨0,by omega,rfl,by rw [show Jj d 0=[] from rfl,List.append_nil];exact r2.out,Q1.refl _ _⟩
  case round=>
   obtain⟨f,x3,rfl,n8,b2⟩:=hrel;have k9:=Zh n8;have b6:=Zh b2;clear n8 b2;by_cases j1:f<G
   ·have j0:(f:Int)<(G:Int):=by omega
    have c0:(0:Int)<=(f:Int):=by omega
    have e5:f<d.length:=by rw [g8.out];exact j1
    have J:=l5.out wr (g5.out wr b6.out);obtain⟨x,f4,t8,j3,I,a4⟩:=Vx J j1;simp only [zV,true_and] at j3;obtain⟨rfl,rfl⟩:=j3;have b9:(Qi d).getD f undef=.int .i64 (d[f]:Int):=by unfold Qi;rw [List.getD_eq_getElem?_getD,List.getElem?_map,List.getElem?_eq_getElem e5];rfl
    rw [b9] at a4;have e1:d[f]<6:=Nat.lt_of_lt_of_le (l8.out _ (List.getElem_mem e5)) b0;have e8:=Sl d f;rw [List.getD_eq_getElem?_getD,List.getElem?_eq_getElem e5,Option.getD_some] at e8;obtain⟨a,q1⟩:=zE (d[f]);rw [q1] at a4 e1 e8;have s3:=Zh e8;have v0:IntKind.i64.wrap ((f:Int)+1)=(f:Int)+1:=IntWalk.i64_in _ oz;have o5:((f:Int)+1)=((f+1:Nat):Int):=by omega
    have f6:=fun D=>Nn (A:=some ⟨x,f4,none⟩) (n:=G) (c:=L) Q2v Q56 (f+1) oz D;rw [<-o5] at f6;obtain⟨v4,q4⟩:=zE (if L=f+1 then some (⟨x,f4,none⟩:Addr) else(some (⟨x,f4,none⟩:Addr)).map (·.add ((f+1)*1)));have k0:sliced (some ⟨x,f4,none⟩) (f+1) G L 1=.slice v4 (G - (f+1)) (L - (f+1)):=by unfold sliced;rw [q4]
    rw [k0] at f6;have j4:=fun W (hW:Q1 (fun b=>b=q) wr W)=>Q71 (l5.out W (g5.out W (b6.out.trans hW))) (a:=f+1) oz o1;rw [k0] at j4;have s5:=Zh j4;have o8:∀ b∈d.drop (f+1),b<6:=fun b s=>Nat.lt_of_lt_of_le (l8.out _ (List.mem_of_mem_drop s)) b0;have o2:(d.drop (f+1)).length=G - (f+1):=by rw [List.length_drop,g8.out]
    have s0:=Zh o8;have l2:=Zh o2;clear e8 q1 b9 e5 J o5 q4 k0 j4 o8 o2;obtain⟨b4,j5⟩:=zE (G - (f+1));have g7:=Zh j5;have x6:b4<=6:=by omega
    rw [j5] at f6;clear j5;gi_wp2;clear f6
    gi_loopw [39] (fun i wq=>∃ p:Nat,p<=b4/\i=.int .i64 p/\Ug wq q (Zs a0++Jj d f++((d.drop (f+1)).take p).map fun b=>(a,b))/\Q1 (fun b=>b=q) wr wq) (fun i _=>b4 - (intOf i).toNat)
    case atStart=>exact⟨0,by omega,rfl,by rw [List.take_zero,List.map_nil,List.append_nil];exact k9.out,Q1.refl _ _⟩
    case round=>
     obtain⟨p,j3,rfl,n9,p6⟩:=hrel;have c9:=Zh n9;have d5:=Zh p6;clear n9 p6;by_cases p0:p<b4
     ·have u7:(p:Int)<(b4:Int):=by omega
      have x5:(0:Int)<=(p:Int):=by omega
      have f0:p<(d.drop (f+1)).length:=by rw [l2.out,g7.out];exact p0
      have J:=s5.out _ d5.out;rw [g7.out] at J;obtain⟨w1,y3,w0,e9,x2,o0⟩:=Vx J p0;simp only [zV,true_and] at e9;obtain⟨rfl,e9⟩:=e9;have b9:((Qi d).drop (f+1)).getD p undef=.int .i64 ((d.drop (f+1))[p]:Int):=by
       unfold Qi;rw [List.getD_eq_getElem?_getD,<-List.map_drop,List.getElem?_map,List.getElem?_eq_getElem f0];rfl
      rw [b9] at o0;have e2:(d.drop (f+1))[p]<6:=s0.out _ (List.getElem_mem f0);have b2:(d.drop (f+1)).take (p+1)=(d.drop (f+1)).take p++[(d.drop (f+1))[p]]:=List.take_succ_eq_append_getElem f0;obtain⟨b,q2⟩:=zE ((d.drop (f+1))[p]);rw [q2] at o0 e2 b2;obtain⟨x0,x1⟩:=c9.out.cell e1 e2;have p2:=c9.out.set e1 e2;have p7:=d5.out.trans (Q1.set1 wr q (a*6+b) (.bool true));have x9:IntKind.i64.wrap ((p:Int)+1)=(p:Int)+1:=IntWalk.i64_in _ oz;have u2:(0:Int)<=(a:Int):=by omega
      have u3:(0:Int)<=(b:Int):=by omega
      have w6:(a:Int)<6:=by omega
      have w7:(b:Int)<6:=by omega
      obtain⟨s8,t4,t2⟩:=Zh3 p2 p7 b2;clear p2 p7 b2 q2 f0 e9 b9 J;gi_wp2
      go_round
      case rel=>exact⟨p+1,by omega,by go_num,by rw [t2.out,List.map_append,<-List.append_assoc];exact s8.out,t4.out⟩
      case measure=>simp [intOf];omega
     ·obtain rfl:p=b4:=by omega
      have u7:¬ (p:Int)<(p:Int):=by omega
      have s:=c9.out;rw [List.take_of_length_le (by rw [l2.out,g7.out];exact Nat.le_refl _),List.append_assoc,<-s3.out] at s;have r3:=Zh s;have t3:=Zh (b6.out.trans d5.out);clear s c9 d5;gi_wp2
      go_round
      case rel=>exact⟨f+1,by omega,by go_num,r3.out,t3.out⟩
      case measure=>simp [intOf];omega
   ·obtain rfl:f=G:=by omega
    have j0:¬ (f:Int)<(f:Int):=by omega
    have s:=k9.out;rw [<-g8.out,show Jj d d.length=Hh d from rfl,<-Se] at s;have k2:=g5.out wr b6.out;have p3:Q13 q (Q.heap.size+2) w (a0++[d]) wr:=⟨s,by rw [show (!(a0++[d]).isEmpty)=true by simp];exact b6.out.heap r7.out oz,d0.out.after k2 (fun b s g=>by have:=S.out;omega)⟩
    have o6:Q1 (fun b=>¬ ((b<w.heap.size\/b=C\/b=C+1)\/a8 b\/b=Q.heap.size\/b=Q.heap.size+1)) o wr:=k2.mono fun b _ g Z=>by
     have:=S.out;rcases Z with (a9 | a9 | a9) | a9 | a9 | a9
     ·omega
     ·omega
     ·omega
     ·have:=(s1.out b a9).1;omega
     ·omega
     ·omega
    have s9:=Zh p3;have r9:=Zh o6;clear s k2 p3 o6;gi_wp2;exact⟨r9.out,s9.out⟩
 case done=>
  rintro a8 o ⟨s,i9,z⟩ O a5 m9;obtain⟨r1,d0,l1,v6⟩:=Zh4 s z m9 i9;have m2:=cell_of_one i9;have q5:C+2<=Q.heap.size:=Nat.le_of_eq d4.out.symm;clear s i9 z m9 O a5;by_cases e4:T.isEmpty=true
  ·rw [e4] at m2;have u:=d1.out;rw [if_pos e4] at u;have j:=b7.out;rw [<-u,if_neg zd] at j;subst j u;clear d1 b7;go_wp2;refine Zr (v:=.tuple #[.slice none 0 0,.int .i64 5]) (base:=V) _ _ (Qs.cons (base:=V) trivial oz l1.out (fun e he=>by cases he)) fun w' ht' j6=>⟨Wq rfl rfl rfl,none,0,rfl,Rd.of_own (e:=3) (World.ownsRow_nil _ 0 _ _),Q1.after d0.out ht' (fun b s g=>by have:=g.1;have:=S.out;omega)⟩
  ·have u4:T.isEmpty=false:=by simpa using e4
   rw [u4] at m2;have u:=d1.out;rw [if_neg e4] at u;have j:=b7.out;rw [<-u,if_pos rfl] at j;subst u;obtain⟨k,i3⟩:=zE (Hx (Zs T));rw [i3] at j;have t7:=Zh j;have s6:=Zh i3;clear j i3 d1 b7;go_wp2;obtain⟨a1,m8⟩:=zE o.heap.size;have k8:=Zh m8;clear m8
   go_loopw [14,53] (fun v i W=>∃(a:Nat) (ao:Option Addr) (c:Nat),a<=n/\i=.int .i64 a/\v=.slice ao (U9 n k a).length c/\W.ownsRow a1 73 2 (.slice ao (U9 n k a).length c) (U9 n k a).length (prs (U9 n k a))/\Ext o W) (fun _ i _=>n - (intOf i).toNat)
   case atStart=>exact⟨0,none,0,by omega,rfl,rfl,World.ownsRow_nil _ _ _ _,Q1.refl _ _⟩
   case round=>
    obtain⟨a,ao,c,w5,rfl,rfl,O,z⟩:=hrel;have d3:=Zh O;have g3:=Zh z;clear O z;by_cases j1:a<n
    ·have j0:(a:Int)<(n:Int):=by omega
     have v0:IntKind.i64.wrap ((a:Int)+1)=(a:Int)+1:=IntWalk.i64_in _ oz;have o7:=T1 n k a;have u9:(U9 n k a).length<=36:=Nat.le_trans o7 (Nat.le_trans (Nat.mul_le_mul oz b0) (by decide:6*6<=36));have j7:=Mf n k a;obtain⟨b3,c0⟩:=zE (U9 n k a);rw [c0] at j7 u9;have g6:=d3.out;rw [c0] at g6;rw [c0];have s2:=Zh g6;have s7:=Zh j7;clear g6 d3 o7 j7 c0;go_wp2
     go_loopw [14,58] (fun v i U=>∃(b:Nat) (ao:Option Addr) (c:Nat),b<=n/\i=.int .i64 b/\v=.slice ao (b3++V3 k a b).length c/\U.ownsRow a1 73 2 (.slice ao (b3++V3 k a b).length c) (b3++V3 k a b).length (prs (b3++V3 k a b))/\Ext o U) (fun _ i _=>n - (intOf i).toNat)
     case atStart=>exact⟨0,ao,c,by omega,rfl,by simp [V3],by simpa [V3] using s2.out,g3.out⟩
     case round=>
      obtain⟨b,d6,c2,s,rfl,rfl,i2,n0⟩:=hrel;have P:=Bw k a b;have p4:=Q1d k a b;obtain⟨c6,b1⟩:=zE (b3++V3 k a b);have u8:c6.length<=42:=by rw [<-b1,List.length_append];omega
      have p5:b3++V3 k a (b+1)=c6++if k a b=true then [((a:Int),(b:Int))] else []:=by rw [p4,<-List.append_assoc,b1]
      rw [b1] at i2;rw [b1];obtain⟨t0,d2,B,s4⟩:=Zh4 p5 i2 n0 b1;clear p4 p5 i2 n0 b1 P;by_cases w8:b<n
      ·have X:(b:Int)<(n:Int):=by omega
       have x8:IntKind.i64.wrap ((b:Int)+1)=(b:Int)+1:=IntWalk.i64_in _ oz;have u2:(0:Int)<=(a:Int):=by omega
       have u3:(0:Int)<=(b:Int):=by omega
       have e1:(a:Int)<6:=by omega
       have e2:(b:Int)<6:=by omega
       have i0:=r1.out.ext B.out id;obtain⟨k3,_⟩:=i0.cell (a:=a) (b:=b) oz oz;obtain⟨k4,_⟩:=i0.cell (a:=b) (b:=a) oz oz;have e0:k a b=(inP (Zs T) a b && !inP (Zs T) b a):=by rw [<-s6.out];rfl
       obtain⟨v1,p9⟩:=zE (inP (Zs T) a b);obtain⟨v2,q0⟩:=zE (inP (Zs T) b a);rw [p9] at k3 e0;rw [q0] at k4 e0;have j8:=t0.out;rw [e0] at j8;have a7:=Zh j8;clear j8 e0 p9 q0 i0;cases v1 with
       | false=>
        go_wp2
        go_round
        case rel=>exact⟨b+1,d6,c2,by omega,by go_num,by rw [a7.out];simp,by rw [a7.out];simpa using d2.out,B.out⟩
        case measure=>simp [intOf];omega
       | true=>
        cases v2 with
        | true=>
         go_wp2
         go_round
         case rel=>exact⟨b+1,d6,c2,by omega,by go_num,by rw [a7.out];simp,by rw [a7.out];simpa using d2.out,B.out⟩
         case measure=>simp [intOf];omega
        | false=>
         have F:=d2.out;obtain⟨f5,P⟩:=zE c6.length;have l6:=Zh P;rw [P] at F u8;rw [P];clear P;have w9:a1<=wr.heap.size:=by have:=B.out.size;have:=k8.out;omega
         go_wp2_with (at_builtin;refine Zz rfl (.tmp 74) (.tmp 78) 70 rfl a1 73 _ 2 16 Tryz.underlying70 Tryz.infoPair rfl zd _ _ _ rfl (Qf F ((Q1.refl _ wr).alloc _)) ⟨wr.heap.size,0,none⟩ 1 1 [.int .i64 (a:Int),.int .i64 (b:Int)] rfl rfl (Y5 rfl) ?c2 ?c3 ?c4 ?c5 ?_)
         case c2=>intro f8 p8;simp at p8;rcases p8 with rfl | rfl <;> rfl
         case c3=>unfold maxLen;omega
         case c4=>omega
         case c5=>simp;omega
         intro m0 m1 k5 n5 n6 u0;have n7:Q1 (fun b=>(Value.slice d6 f5 c2).ownBlock=some b) wr k5:=Q1.trans (Q1.alloc (Q1.refl _ wr) _) n6;have n1:Ext o k5:=B.out.after n7 (fun b s e=>by have:=(F.lt _ e).1;have:=k8.out;omega);have m4:(c6++[((a:Int),(b:Int))]).length=f5+1:=by rw [List.length_append,l6.out];rfl
         have m7:k5.ownsRow a1 73 2 (.slice m0 (f5+1) m1) (f5+1) (prs (c6++[((a:Int),(b:Int))])):=by rw [Q03];exact n5
         obtain⟨r0,r5,r6⟩:=Zh3 m7 n1 m4;clear m7 n1 m4 n7 n6 u0 n5 F;go_wp2
         go_round
         case rel=>exact⟨b+1,m0,m1,by omega,by go_num,by rw [a7.out];simp [l6.out],by rw [a7.out];simp only [Bool.not_false,Bool.and_true,if_true];rw [r6.out];exact r0.out,r5.out⟩
         case measure=>simp [intOf];omega
      ·obtain rfl:b=n:=by omega
       have X:¬ (b:Int)<(b:Int):=by omega
       have o4:=s4.out;rw [<-s7.out] at o4;subst o4;go_wp2
       go_round
       case rel=>exact⟨a+1,d6,c2,by omega,by go_num,rfl,d2.out,B.out⟩
       case measure=>simp [intOf];omega
    ·obtain rfl:a=n:=by omega
     have j0:¬ (a:Int)<(a:Int):=by omega
     have j:=t7.out;have F:=d3.out;rw [Pz] at F;have p1:U9 a k a=l9:=by rw [Pz];exact j
     rw [j] at F;rw [p1];obtain⟨v3,a6⟩:=zE l9.length;have t6:=Zh a6;have k6:=Zh F;rw [a6];clear j F p1 a6 d3;go_wp2;refine Zr (v:=.tuple #[.slice ao v3 c,.int .i64 0]) (base:=V) _ _ (Qs.cons (base:=V) trivial oz (g3.out.keep l1.out) (fun e he=>by cases he)) fun w' ht' j6=>⟨Wq rfl rfl rfl,ao,c,by rw [t6.out],Rd.of_own (Qd k6.out ht' (fun x I e=>by obtain⟨m3,a4⟩:=Z3 k6.out I;exact Go.Ab.Shut.not a4 rfl e)),Q1.after (d0.out.trans g3.out) ht' (fun b s g=>by have:=g.1;have:=S.out;omega)⟩
def Hm(LD:List Q7)(qs:Qa):Nat->Nat->Bool:=Hx (Zs (Zg LD qs LD.length))
theorem Q0z{LD:List Q7}{qs:Qa}(h:Yg LD qs=0):Rel LD.length (Hm LD qs)/\X4 LD qs=Ju LD.length (Hm LD qs)/\LD.length<=6:=by
 have b:X4 LD qs=Ju LD.length (Hm LD qs):=by unfold X4;rw [if_pos h];rfl
 unfold Yg at h;by_cases a:Qh LD (qs.map (·.1))=0
 ·rw [if_pos a] at h;refine⟨Q0y (Cr LD qs _) (fun e=>?_),b,(Jg a).1⟩;rw [e] at h;cases h
 ·rw [if_neg a] at h;exact absurd h a
def Q7n(E:Int)(n base:Nat)(R:Nat->Nat->Bool)(v:Option Addr)(W:World):Prop:=(E≠0->v=none)/\(E=0->∃ b,v=some ⟨b,0,none⟩/\base<=b/\Da W b n R)
theorem Q7p{w:World}{v:Value}{n sz:Nat}{xs:List Value}(h:Rd w v n sz xs):Qr (fun g=>g<w.heap.size) v:=by
 intro g m l i b c;subst b;obtain⟨_,_,f,j,a,d⟩:=h;simp only [zV] at a;obtain⟨rfl,rfl,rfl⟩:=a;obtain⟨k,o,a,e,_⟩:=d c;cases a;exact e
theorem Q65{X:List (Int × Int)} {k:Nat} (a:k<X.length):(prs X).getD (k*2) undef=.int .i64 X[k].1/\(prs X).getD (k*2+1) undef=.int .i64 X[k].2:=by
 rw [L2 X k a,L3 X k a,List.getD_eq_getElem?_getD,List.getElem?_eq_getElem a];exact⟨rfl,rfl⟩
theorem Q10{w:World}{ps:Qy}{qs:Qa}{lo:Option Addr}{n lc:Nat}{d4:Option Addr}{m pc:Nat}(Z:Z9 w (.slice lo n lc) ps) (H:ps.length=n) (c5:Qu w (.slice d4 m pc) qs) (c1:qs.length=m) (E:Tab w) :
  Calls Tryz.prog 46 #[.slice lo n lc,.slice d4 m pc] w fun e w'=>∃ v,e=.returned (.tuple #[.pointer v,.int .i64 (Yg (ps.map (·.1)) qs)])/\Q7n (Yg (ps.map (·.1)) qs) n w.heap.size (Hm (ps.map (·.1)) qs) v w'/\Ext w w':=by
 have I:=Gt Z H c5 c1 E;have f2:n<=maxLen:=by rw [<-H];exact Z.1.2.1
 have c8:0<w.heap.size:=by
  obtain⟨i1,f6,_⟩:=Gv (E 0 zd);exact(Array.getElem?_eq_some_iff.1 f6).1
 obtain⟨d,Q⟩:=zE (ps.map (·.1));have b1:d.length=n:=by rw [<-Q,List.length_map,H]
 rw [Q] at I ⊢;have r:Yg d qs=0->Rel n (Hm d qs)/\X4 d qs=Ju n (Hm d qs)/\n<=6:=fun h=>by have:=Q0z h;rw [b1] at this;exact this
 have c3:Yg d qs≠0->X4 d qs=[]:=fun h=>by unfold X4;rw [if_neg h]
 obtain⟨u,R⟩:=zE (Hm d qs);obtain⟨s,l⟩:=zE (Yg d qs);obtain⟨p,S⟩:=zE (X4 d qs);rw [R,l,S] at r;rw [l,S] at I c3;rw [R,l];obtain⟨a4,a7,e1,e3⟩:=Zh4 I r E c8;clear I r c3 l S R b1 Q Z H c5 c1 E c8;unfold maxLen at f2;go_enter Tryz.func46,Tryz.ntmps46;go_wp2_with fail;refine a4.out.mono ?_;rintro e i ⟨f8,f7,rfl,b7,b0⟩;have M:=Zh b7;have o:=Zh b0;clear b7 b0 a4;by_cases O:s=0;case neg=>
  have g9:(s != 0)=true:=by simpa using O
  go_wp2;go_ret2;exact⟨none,rfl,⟨fun _=>rfl,fun h=>absurd h O⟩,o.out⟩
 subst O;obtain⟨r,d1,g8⟩:=a7.out uz;have a6:=Zh r;have a9:=Zh d1;clear r d1 a7;go_wp2_with fail;refine(Q8z n oz i).mono ?_;rintro e i5 ⟨rfl,P,q⟩;obtain⟨f,C⟩:=zE i.heap.size;rw [C] at q ⊢;have f4:w.heap.size<=f:=by rw [<-C];exact o.out.size
 obtain⟨k,K⟩:=zE p.length;have J:=M.out.ext P;rw [K] at J ⊢;have f5:k<=maxLen:=J.2.1;unfold maxLen at f5;obtain⟨a8,f9,d8,d9⟩:=Zh4 K J P q;have W:=fun b (hW:Q1 (fun c=>¬ c<i.heap.size) i b)=>Hp M.out hW (Q7p M.out);rw [K] at W;have d7:=Zh W;have d6:=Zh C;clear W C K J P q;go_wp2
 refine wp_loop (fun g b=>∃(a:Nat) (y:Nat->Nat->Bool),a<=k/\g.defers=[]/\gS g [8,30,31,32]=(47,[.pointer (some ⟨f,0,none⟩),.slice f8 k f7,.int .i64 k,.int .i64 a])/\Da b f n y/\Und n u y (p.take a)/\Q1 (fun c=>¬ c<i.heap.size) i b)
  (fun g _=>((k:Int) - intOf (g.tmps.getD 32 undef)).toNat) ?_ ?_
 ·exact⟨0,_,by omega,rfl,rfl,d9.out,Und.start,Ext.of d8.out⟩
 rintro⟨i3,_⟩ b ⟨a,y,g7,e9,c7,c4,c9,b4⟩;subst e9;obtain⟨i4,rfl⟩:=Y6 c7;clear c7;obtain⟨a5,L,t⟩:=Zh3 c4 c9 b4;clear c4 c9 b4;by_cases f1:a<k;case neg=>
  obtain rfl:a=k:=by omega
  have e8:¬ (a:Int)<(a:Int):=by omega
  have Y:=L.out;rw [List.take_of_length_le (by rw [a8.out];exact Nat.le_refl _),a9.out] at Y;have f0:=Und.done a6.out Y;subst f0;clear Y;go_wp2;go_ret2;exact⟨some ⟨f,0,none⟩,rfl,⟨fun h=>absurd rfl h,fun _=>⟨f,rfl,f4,a5.out⟩⟩,Q1.after o.out t.out (fun c b9 h=>by have:=o.out.size;omega)⟩
 have e8:(a:Int)<(k:Int):=by omega
 have g4:(0:Int)<=(a:Int):=by omega
 have G:a<p.length:=by rw [a8.out];exact f1
 have f3:=d7.out b t.out;obtain⟨_,_,g1,g2,c6,d5⟩:=f3;simp only [zV,true_and] at c6;obtain⟨rfl,rfl⟩:=c6;obtain⟨g3,i2,rfl,g6,X⟩:=d5 oz;have A:=X (a*2) oz;have B:=X (a*2+1) oz;obtain⟨d2,d3⟩:=Q65 G;rw [d2] at A;rw [d3,<-Nat.add_assoc] at B;have c2:p[a]∈Ju n u:=by rw [<-a9.out];exact List.getElem_mem G
 obtain⟨g,c,b8,g5,b9,b3⟩:=Mb.1 c2;have a0:=List.take_succ_eq_append_getElem G;rw [b8] at A B a0;dsimp only at A B;obtain⟨c0,d0⟩:=Und.step a6.out L.out b3;have U:=fun(V:World) (l:Ext b V)=>Q37 f n y oz L.out.rel V (a5.out.keep l id) (e1.out.keep (Q1.after o.out (t.out.trans l.of) (fun c b9 h=>by have:=o.out.size;omega):Ext w V) id) (by have:=e3.out;omega) (g:Int) (c:Int);rw [c0] at U;obtain⟨e5,a2,e4⟩:=Zh3 d0 U a0;have i0:IntKind.i64.wrap ((a:Int)+1)=(a:Int)+1:=IntWalk.i64_in _ oz;clear d0 U a0 c0 d2 d3 b8 c2 b3 X d5 G;go_upto_region 10 with (fail)
 obtain⟨N,F⟩:=zE (b.alloc (.cells #[.int .i64 (g:Int),.int .i64 (c:Int)] 73));have b2:Ext b N:=by rw [<-F];exact(Q1.refl _ b).alloc _
 have a1:N.heap[b.heap.size]?=some (.cells #[.int .i64 (g:Int),.int .i64 (c:Int)] 73 (0,0)):=by rw [<-F];exact Q3 rfl
 obtain⟨g0,T⟩:=zE b.heap.size;rw [T] at a1;rw [F,T];have e7:=zR a1;have a3:=Zh b2;clear F b2 a1 T A B;go_wp2_with fail;refine(a2.out N a3.out).mono ?_;rintro e e6 ⟨rfl,b5,q⟩;have b6:Q1 (fun c=>¬ c<i.heap.size) i e6:=(t.out.trans a3.out.of).trans (b5.mono fun c _ e h=>by have:=d6.out;omega);have e0:=Zh q;have e2:=Zh b6;clear q b6 b5 a2 e7;go_wp2;exact⟨⟨a+1,_,by omega,tz,rfl,e0.out,by rw [e4.out];exact e5.out,e2.out⟩,mz⟩
end Go.Proofs.YtfdlhlghcbeblaaGreatDoor
