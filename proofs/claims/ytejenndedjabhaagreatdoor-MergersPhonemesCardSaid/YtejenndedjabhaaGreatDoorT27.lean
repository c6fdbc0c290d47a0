/- The document's become and unite. -/
import Derived.Test.YtejenndedjabhaaGreatDoorT22
import Derived.Test.YtejenndedjabhaaGreatDoorT20
set_option maxRecDepth 100000
set_option maxHeartbeats 16000000
namespace Go.Proofs.YtejenndedjabhaaGreatDoor
open Go.RowKit Go.Ab
attribute [local go_sem] Oper.semAt_some Y5 Z9
attribute [local go_sem high] Fd
theorem Qb5{w:World}{v:Value}{u:Wd}(h:Qy w v u):Qd w v u:=by obtain⟨a,b,rfl,h,_⟩:=h;exact h
theorem Qkr{ls:List Qg}{u v:Wd}(a:Zw ls u=0)(b:Zw ls v=0):(decide (Yp ls u=Yp ls v) && decide (Yv ls u=Yv ls v))=Hr ls u v:=by
 unfold Hr;cases e1:Y2 ls u with
 | none=>
  cases e2:Y2 ls v with
  | none=>rw [(Uq a e1).1,(Uq a e1).2,(Uq b e2).1,(Uq b e2).2];simp
  | some y=>rw [(Uq a e1).1,(Jy b e2).1];simp
 | some x=>
  cases e2:Y2 ls v with
  | none=>rw [(Jy a e1).1,(Uq b e2).1];simp
  | some y=>rw [(Jy a e1).1,(Jy a e1).2,(Jy b e2).1,(Jy b e2).2];simp
theorem Q8v{w:World}{ps:Zl}{lo:Option Addr}{n lc:Nat}{R:Option Addr}{Q:Nat}{u:Wd}{vo:Option Addr}{vc:Nat}{v:Wd}(r:Zk w (.slice lo n lc) ps) (x:ps.length=n) (M:Qd w (.slice R u.length Q) u) (O:Qd w (.slice vo v.length vc) v) (G:Zw (ps.map (·.1)) u=0) (H:Zw (ps.map (·.1)) v=0) :
  Calls Tryz.prog 129 #[.slice lo n lc,.slice R u.length Q,.slice vo v.length vc] w fun e w'=>e=.returned (.bool (Hr (ps.map (·.1)) u v))/\Ext w w':=by
 rw [<-Qkr G H];have d:=Zh (Ey r x M);have f:=Zh (fun(V:World) (hE:Ext w V)=>Ey (r.ext hE) x (O.ext hE));obtain⟨g,l⟩:=zE (Yp (ps.map (·.1)) u);obtain⟨i,m⟩:=zE (Yp (ps.map (·.1)) v);obtain⟨D,y⟩:=zE (Yv (ps.map (·.1)) u);obtain⟨F,z⟩:=zE (Yv (ps.map (·.1)) v);rw [l,y] at d;simp only [m,z] at f;rw [l,m,y,z];obtain⟨a6,N⟩:=zE u.length;obtain⟨a7,P⟩:=zE v.length;rw [N] at d ⊢;rw [P] at f ⊢;clear r x M O G H l m y z N P;go_enter Tryz.func129,Tryz.ntmps129;go_wp2_with fail;refine d.out.mono ?_;rintro e U ⟨a1,a0,rfl,J,p⟩;obtain⟨B,A,C⟩:=Zh3 J p (f.out U p);clear d f J p;go_wp2_with fail;refine C.out.mono ?_;rintro e Y ⟨a3,a2,rfl,K,q⟩;have L:=Qlr (Qb5 (B.out.ext q)) (Qb5 K);have c:=Zh L;have k:=Zh (A.out.trans q);obtain⟨X,o⟩:=zE (decide (D=F));rw [o] at c;have S:=Zh o;obtain⟨a4,s⟩:=zE D.length;obtain⟨a5,t⟩:=zE F.length;rw [s,t] at c;rw [s,t];clear C B K q L A o s t;by_cases a:g=i
 ·have W:(g == i)=true:=by simpa using a
  have j:=Zh (decide_eq_true a);clear a;go_wp2_with fail;refine c.out.mono ?_;rintro e Z ⟨rfl,I⟩;have T:=Zh (k.out.trans I);clear I c k;go_wp2;go_ret;exact⟨by rw [j.out,S.out];rfl,T.out⟩
 ·have W:(g == i)=false:=by simpa using a
  have j:=Zh (decide_eq_false a);clear a c;go_wp2;go_ret;exact⟨by rw [j.out];rfl,k.out⟩
theorem Qfe{L:List Nat}{k:Nat}(h:k<L.length)(p q:Nat):Vq (L.take (k+1)) p q=Vq (L.take k) p q++[if L[k]=p\/L[k]=q then min p q else L[k]]:=by
 unfold Vq;rw [List.take_succ_eq_append_getElem h,List.map_append];rfl
theorem Pq(L:List Nat)(x:Nat):Z5 (L++[x])=Z5 L++[.int .i64 (x:Int)]:=by simp [Z5]
theorem Qel(l:List Nat){k:Nat}(h:k<l.length):(Z5 l).getD k undef=.int .i64 (l[k]:Nat):=by rw [List.getD_eq_getElem?_getD];simp [Z5,h]
theorem Qem{w:World}{ao:Option Addr}{N cap:Nat}{L:List Nat}(a0:Rd w (.slice ao N cap) N 1 (Z5 L)) (U:L.length=N) (b7:N<=64) (p q:Nat) (_:p<=1000) (_:q<=1000) :
  Calls Tryz.prog 99 #[.slice ao N cap,.int .i64 (p:Int),.int .i64 (q:Int)] w fun e w'=>∃ vo vc,e=.returned (.slice vo N vc)/\w'.ownsRow w.heap.size 3 1 (.slice vo N vc) N (Z5 (Vq L p q))/\Ext w w':=by
 have a7:=Zh a0;have R:=Zh U;clear a0 U;obtain⟨i,W⟩:=zE w.heap.size;have y:=Zh W;clear W;obtain⟨K,T⟩:=zE (min p q);have b9:min (p:Int) (q:Int)=(K:Int):=by omega
 have a8:=Zh T;clear T;go_enter Tryz.func99,Tryz.ntmps99;go_wp2
 refine wp_loop (fun a g=>∃(c:Nat) (I:Option Addr) (H:Nat),c<=N/\a.defers=[]/\gS a [0,1,2,7,8]=(43,[.slice ao N cap,.int .i64 (p:Int),.int .i64 (q:Int),.slice I c H,.int .i64 c])/\g.ownsRow i 3 1 (.slice I c H) c (Z5 (Vq (L.take c) p q))/\Ext w g)
  (fun a _=>N - (intOf (a.tmps.getD 8 undef)).toNat) ?_ ?_
 ·exact⟨0,none,0,by omega,rfl,rfl,World.ownsRow_nil _ _ _ _,Qa.refl _ _⟩
 rintro⟨c2,_⟩ g ⟨c,I,H,b8,b2,a4,V,S⟩;subst b2;obtain⟨Q,rfl⟩:=Qo a4;clear a4;have r:=Zh V;have n:=Zh S;clear V S;by_cases Z:c<N;case neg=>
  obtain rfl:c=N:=by omega
  have b0:¬ (c:Int)<(c:Int):=by omega
  have P:=r.out;rw [List.take_of_length_le (by rw [R.out];exact Nat.le_refl _)] at P;have a9:=Zh P;clear P r;go_wp2;go_ret;exact⟨I,H,rfl,by rw [y.out];exact a9.out,n.out⟩
 have b0:(c:Int)<(N:Int):=by omega
 have b6:(0:Int)<=(c:Int):=by omega
 have O:c<L.length:=by rw [R.out];exact Z
 obtain⟨b5,c1,b4,a2,b3,A⟩:=Zb (a7.out.ext n.out) Z;simp only [zV,true_and] at a2;obtain⟨rfl,rfl⟩:=a2;rw [Qel L O] at A;have G:=Qfe O p q;have c0:IntKind.i64.wrap ((c:Int)+1)=(c:Int)+1:=IntWalk.i64_in _ oz;obtain⟨d,a6⟩:=zE (L[c]);rw [a6] at A G;have X:i<=g.heap.size:=by have:=n.out.size;rw [y.out] at this;exact this
 obtain⟨E,B⟩:=zE (if d=p\/d=q then min p q else d);rw [B] at G;have F:Ext g (g.alloc (.cells #[.int .i64 (E:Int)] 3)):=(Qa.refl _ g).alloc _;have a3:=Rd.of_own (World.ownsRow_lit (base:=i) (e:=3) (size:=1) g #[.int .i64 (E:Int)] 1 X zd rfl);have a1:=Qe r.out F;have a5:i<=(g.alloc (.cells #[.int .i64 (E:Int)] 3)).heap.size:=by have:=F.size;omega
 obtain⟨J,s,f,o,t⟩:=Zh5 G a3 a1 (n.out.trans F) a5;clear G a3 a1 F a5 X a6 O b3;by_cases u:d=p\/d=q
 ·rw [if_pos u,a8.out] at B;subst B;by_cases M:d=p
  ·have Y:((d:Int) ==(p:Int))=true:=by simp;omega
   clear u M
   go_wp2_with (at_builtin;refine Xi rfl (.tmp 29) (.tmp 33) 36 rfl i 3 _ 1 8 Tryz.underlying36 En rfl zd _ _ _ rfl f.out _ 1 _ _ rfl s.out (by intro Q m;simp at m;subst m;rfl) ?c3 ?c4 t.out ?_)
   case c3=>unfold maxLen;omega
   case c4=>omega
   intro D C z k l _;have j:Ext w z:=o.out.after l (fun b hb e=>by have:=(f.out.lt b e).1;have:=y.out;omega);have x:=Zh k;have v:=Zh j;clear k j l r f o s t n A;go_wp2;exact⟨⟨c+1,D,C,by omega,by first | trivial | rfl,rfl,by have:=x.out;rw [J.out,Pq];simpa using this,v.out⟩,nz⟩
  ·have Y:((d:Int) ==(p:Int))=false:=by simp;omega
   have b1:((d:Int) ==(q:Int))=true:=by have:=u.resolve_left M;simp;omega
   clear u M
   go_wp2_with (at_builtin;refine Xi rfl (.tmp 29) (.tmp 33) 36 rfl i 3 _ 1 8 Tryz.underlying36 En rfl zd _ _ _ rfl f.out _ 1 _ _ rfl s.out (by intro Q m;simp at m;subst m;rfl) ?c3 ?c4 t.out ?_)
   case c3=>unfold maxLen;omega
   case c4=>omega
   intro D C z k l _;have j:Ext w z:=o.out.after l (fun b hb e=>by have:=(f.out.lt b e).1;have:=y.out;omega);have x:=Zh k;have v:=Zh j;clear k j l r f o s t n A;go_wp2;exact⟨⟨c+1,D,C,by omega,by first | trivial | rfl,rfl,by have:=x.out;rw [J.out,Pq];simpa using this,v.out⟩,nz⟩
 ·rw [if_neg u] at B;subst B;have Y:((d:Int) ==(p:Int))=false:=by simp;omega
  have b1:((d:Int) ==(q:Int))=false:=by simp;omega
  clear u
  go_wp2_with (at_builtin;refine Xi rfl (.tmp 35) (.tmp 40) 36 rfl i 3 _ 1 8 Tryz.underlying36 En rfl zd _ _ _ rfl f.out _ 1 _ _ rfl s.out (by intro Q m;simp at m;subst m;rfl) ?c3 ?c4 t.out ?_)
  case c3=>unfold maxLen;omega
  case c4=>omega
  intro D C z k l _;have j:Ext w z:=o.out.after l (fun b hb e=>by have:=(f.out.lt b e).1;have:=y.out;omega);have x:=Zh k;have v:=Zh j;clear k j l r f o s t n A;go_wp2;exact⟨⟨c+1,D,C,by omega,by first | trivial | rfl,rfl,by have:=x.out;rw [J.out,Pq];simpa using this,v.out⟩,nz⟩
theorem Ca{w:World}{base n:Nat}{e:TypeId}{ao:Option Addr}{cap:Nat}{ws:Wd}(h:w.ownsRow base e 2 (.slice ao n cap) n (Z3 ws)) (a:ws.length=n) (b:Zs ws):Qd w (.slice ao n cap) ws:=by subst a;exact Ln h b
def Q5y(ls:List Qg)(u:Wd)(s t:Nat × Nat)(i:Nat):Prop:=(List.range i).any (Lp ls u s t)=false
theorem Q5y.succ{ls:List Qg}{u:Wd}{s t:Nat × Nat}{i:Nat}(h:Q5y ls u s t i)(a:Lp ls u s t i=false):Q5y ls u s t (i+1):=by
 unfold Q5y at h ⊢;rw [Ts,h,a];rfl
theorem Q7f{u:Wd}{i:Nat}{x:Nat × Nat}(h:i<u.length):(u.set i x).getD i (0,0)=x:=by rw [List.getD_eq_getElem?_getD];simp [h]
theorem Qdf{w:World}{ps:Zl}{lo:Option Addr}{n lc:Nat}(l4:Zk w (.slice lo n lc) ps) (l5:ps.length=n) {k:Wd} {f7:Option Addr} {I f6:Nat} (d3:Qd w (.slice f7 I f6) k) (f2:k.length=I) (b6:Zw (ps.map (·.1)) k=0) {t u y z:Nat} (l8:Qm (t,u)) (m2:Qm (y,z)) (m0:okS (t,u)=true) (m3:okS (y,z)=true) (l9:(t,u)≠(y,z)) :
  Calls Tryz.prog 98 #[.slice lo n lc,.slice f7 I f6,.agg #[.int .u32 (t:Int),.int .u32 (u:Int)],.agg #[.int .u32 (y:Int),.int .u32 (z:Int)]] w fun e w'=>e=.returned (.bool (apB (ps.map (·.1)) k (t,u) (y,z)))/\Ext w w':=by
 have m4:wE k=0:=by
  unfold Zw at b6
  split at b6
  ·exact b6
  ·contradiction
 have o7:I<=32:=by rw [<-f2];exact Vx m4
 have g5:=fun(R:World) (e2:Ext w R) {v:Wd} {vo:Option Addr} {vc:Nat} (hv:Qd R (.slice vo v.length vc) v) (b5:Zw (ps.map (·.1)) v=0)=>Q8v (l4.ext e2) l5 (show Qd R (.slice f7 k.length f6) k by rw [f2];exact d3.ext e2) hv b6 b5;simp only [f2] at g5;obtain⟨T,i4⟩:=zE (ps.map (·.1));rw [i4] at b6 ⊢;simp only [i4] at g5;obtain⟨R,e4⟩:=zE ((w.alloc (.cells #[.int .u32 (t:Int),.int .u32 (u:Int)] 26)).alloc (.cells #[.int .u32 (y:Int),.int .u32 (z:Int)] 26));have k3:Ext w R:=by rw [<-e4];exact((Qa.refl _ w).alloc _).alloc _
 obtain⟨M,g4⟩:=zE w.heap.size;have c9:R.heap[M]?=some (.cells #[.int .u32 (t:Int),.int .u32 (u:Int)] 26 (0,0)):=by rw [<-e4,<-g4];exact Qi (new_at rfl)
 have d0:R.heap[M+1]?=some (.cells #[.int .u32 (y:Int),.int .u32 (z:Int)] 26 (0,0)):=by rw [<-e4,<-g4];exact new_at zy
 obtain⟨k0,k2,c5,m7,j1,j4,e0,a5⟩:=Zh8 e4 g4 k3 c9 d0 g5 d3 f2;obtain⟨j7,m9,n1,n0,n2,f8⟩:=Zh6 b6 l8 m2 m0 m3 l9;have l6:=Vp k;have n3:=Zh l6;clear l4 l5 d3 f2 b6 l8 m2 m0 m3 l9 m4 g5 i4 e4 g4 k3 c9 d0 l6;go_enter Tryz.func98,Tryz.ntmps98;go_upto_region 1 with (fail)
 try rw [k2.out]
 try rw [k0.out]
 clear k0;go_wp2
 refine wp_loop (fun a Q=>∃(i:Nat),i<=I/\a.defers=[]/\(a.tmps.size=56/\a.tmps.getD 0 undef=.slice lo n lc/\a.tmps.getD 1 undef=.slice f7 I f6/\a.tmps.getD 6 undef=.pointer (some ⟨M,0,none⟩)/\a.tmps.getD 7 undef=.pointer (some ⟨M+1,0,none⟩)/\a.tmps.getD 9 undef=.int .i64 i)/\Q5y T k (t,u) (y,z) i/\Ext R Q)
  (fun a _=>I - (intOf (a.tmps.getD 9 undef)).toNat) ?_ ?_
 ·exact⟨0,by omega,rfl,⟨rfl,rfl,rfl,rfl,rfl,rfl⟩,rfl,Qa.refl _ _⟩
 rintro⟨o2,_⟩ Q ⟨i,o6,n7,⟨m1,g9,i0,i1,i2,i3⟩,k7,e2⟩;subst n7;obtain⟨o3,d3⟩:=Qq m1;obtain⟨c,rfl⟩:∃ x,x=o3:=⟨_,rfl⟩;have o0:o2=#[c 0,c 1,c 2,c 3,c 4,c 5,c 6,c 7,c 8,c 9,c 10,c 11,c 12,c 13,c 14,c 15,c 16,c 17,c 18,c 19,c 20,c 21,c 22,c 23,c 24,c 25,c 26,c 27,c 28,c 29,c 30,c 31,c 32,c 33,c 34,c 35,c 36,c 37,c 38,c 39,c 40,c 41,c 42,c 43,c 44,c 45,c 46,c 47,c 48,c 49,c 50,c 51,c 52,c 53,c 54,c 55]:=d3;clear d3;subst o0;change c 0=_ at g9;change c 1=_ at i0;change c 6=_ at i1;change c 7=_ at i2;change c 9=_ at i3;rw [g9,i0,i1,i2,i3];clear g9 i0 i1 i2 i3 m1;have d7:=Zh k7;have c7:=Zh e2;clear k7 e2;by_cases b4:i<I;case neg=>
  obtain rfl:i=I:=by omega
  have n5:¬ (i:Int)<(i:Int):=by omega
  have a1:(List.range i).any (Lp T k (t,u) (y,z))=false:=d7.out;rw [<-a5.out] at a1;have d1:apB T k (t,u) (y,z)=false:=a1;have m8:=Zh d1;clear a1 d1;go_wp2;go_ret;exact⟨by rw [m8.out];rfl,c5.out.trans c7.out⟩
 have n5:(i:Int)<(I:Int):=by omega
 have o5:(0:Int)<=(i:Int):=by omega
 have d2:i<k.length:=by rw [a5.out];exact b4
 have g7:=Zh (c5.out.trans c7.out);have k6:M<=Q.heap.size:=by have:=g7.out.size;have:=k2.out;omega
 have k4:(Q.alloc (.cells #[] 26)).ownsRow M 26 2 (.slice (some ⟨Q.heap.size,0,none⟩) 0 0) 0 []:=World.ownsRow_lit Q #[] 0 k6 (by unfold maxLen;omega) rfl;have j2:=Zh k4;have l1:M<=(Q.alloc (.cells #[] 26)).heap.size:=by simp;omega
 have j9:=Zh ((e0.out.ext (g7.out.alloc (.cells #[] 26))).1);have i6:Lp T k (t,u) (y,z) i=if k.getD i (0,0)=(t,u) then !Hr T k (k.set i (y,z)) else if k.getD i (0,0)=(y,z) then !Hr T k (k.set i (t,u)) else false:=rfl
 obtain⟨⟨m5,m6⟩,i9⟩:=zE (k.getD i (0,0));have k1:=Zh i9;rw [i9] at i6;have j3:=Zh i6;have l7:Rd (Q.alloc (.cells #[] 26)) (.slice f7 I f6) I 2 (Z3 k):=by have:=j9.out;rw [a5.out] at this;exact this
 have j8:=Zh l7;clear k4 i6 i9 l7 j9;go_upto_region 5 with (at_builtin;refine Xi rfl (.tmp 17) (.tmp 18) 23 rfl M 26 _ 2 8 Tryz.underlying23 @Xu rfl zd _ 0 [] rfl j2.out _ I _ (Z3 k) rfl j8.out n3.out (by unfold maxLen;omega) oz l1 ?_)
 intro o9 a9 J i5 k5 l0;obtain⟨L,n8⟩:=Dh (n:=I - 1) (by rw [show I - 1+1=I by omega];exact i5);subst n8;have l3:Q.heap.size<=L:=by simp only [Value.ownBlock,Option.some.injEq] at l0;omega
 have g2:Ext Q J:=((show Ext Q (Q.alloc (.cells #[] 26)) from(Qa.refl _ Q).alloc _)).after k5 (fun b hb e=>by simp only [Value.ownBlock,Option.some.injEq] at e;omega);have o1:=(e0.out.ext g7.out).at d2;obtain⟨n4,o8,o4,V,n9,g0,g1⟩:=o1;simp only [zV] at V;obtain⟨rfl,b8,rfl⟩:=V;clear b8;rw [k1.out] at g0 g1;dsimp only at g0 g1;have p:=g2.cell_some g0 id;have q:=g2.cell_some g1 id;have g3:Ext R J:=c7.out.trans g2;have c9:=g3.keep m7.out;have d0:=g3.keep j1.out;have G:J.cell? ⟨M,0,none⟩=some (.int .u32 (t:Int)):=by rw [cell_of_row _ _ _ _ _ _ c9];rfl
 have H:J.cell? ⟨M,1,none⟩=some (.int .u32 (u:Int)):=by rw [cell_of_row _ _ _ _ _ _ c9];rfl
 have E:J.cell? ⟨M+1,0,none⟩=some (.int .u32 (y:Int)):=by rw [cell_of_row _ _ _ _ _ _ d0];rfl
 have F:J.cell? ⟨M+1,1,none⟩=some (.int .u32 (z:Int)):=by rw [cell_of_row _ _ _ _ _ _ d0];rfl
 have n6:M+1<Q.heap.size:=by have:=(Array.getElem?_eq_some_iff.1 j1.out).1;have:=c7.out.size;omega
 have l2:n4≠L/\M≠L/\M+1≠L:=by omega
 obtain⟨r,l,j5,j6⟩:=Zh4 i5 g3 l2 l3;clear i5 k5 l0 g2 g3 c9 d0 g0 g1 n6 l2 l3 j2 l1 j8 k6 n9;by_cases d4:(m5,m6)=(t,u)
 ·have V:=d4;simp only [Prod.mk.injEq] at V;have a3:=V.1.symm;have j0:=V.2.symm;subst a3 j0;clear V d4;have i7:=j3.out;rw [if_pos rfl] at i7;have c6:=Zh i7;clear i7;go_upto_region 5 with (fail)
  go_quiet (fail)
  have j:Ext J (J.drewN nq):=(Qa.refl _ J).drewN _;have p:=j.cell_some p id;have q:=j.cell_some q id;have G:=j.cell_some G id;have H:=j.cell_some H id;have E:=j.cell_some E id;have F:=j.cell_some F id;have B:=Zh (Qe r.out j);have A:=Zh (l.out.trans j);obtain⟨U,D⟩:=zE (J.drewN nq);rw [D] at p q G H E F B A ⊢;clear j D r l;have r:=B;have l:=A;clear B A;have f1:=Gr r.out (o:=i*2) (m:=2) oz;have b7:=Tt (cs:=Q37 (y,z)) r.out b4 rfl;rw [Sy d2] at b7;have N:=Qa.setCells U L (#[.int .u32 (y:Int),.int .u32 (z:Int)]:Array Value).toList (i*2);have b3:Ext R _:=l.out.after N (fun b hb e=>by have:=j6.out;have:=c7.out.size;omega);have i8:=j5.out;have b9:=N.cell_some p (by dsimp only;omega);have c0:=N.cell_some q (by dsimp only;omega);have c1:=N.cell_some G (by dsimp only;omega);have c2:=N.cell_some H (by dsimp only;omega);have c3:=N.cell_some E (by dsimp only;omega);have c4:=N.cell_some F (by dsimp only;omega);obtain⟨Z,D⟩:=zE (U.setCells L (i*2) (#[.int .u32 (y:Int),.int .u32 (z:Int)]:Array Value).toList);have f0:Z.ownsRow M 26 2 (.slice (some ⟨L,0,none⟩) I a9) I (Z3 (k.set i (y,z))):=by rw [<-D];exact b7
  rw [D] at b3 b9 c0 c1 c2 c3 c4;obtain⟨d9,e1,A,B⟩:=Zh4 f1 D b3 f0;clear f1 b7 N b3 D f0 i8;go_upto_region 7 with (refine wpList_store_mid rfl 26 (.tmp 29) (.tmp 28) rfl L (i*2) #[.int .u32 (y:Int),.int .u32 (z:Int)] (by first | rfl | (simp;done)) rfl d9.out kz kz ?_;rw [e1.out])
  clear p q G H E F r l d9 e1;have p:=b9;have q:=c0;have G:=c1;have H:=c2;have E:=c3;have F:=c4;have r:=B;have l:=A;clear b9 c0 c1 c2 c3 c4 B A;have e8:=Ha f8.out;have e9:=Ha (fun e=>f8.out e.symm);rcases e8 with e6 | ⟨e6,k8⟩
  all_goals
   go_quiet (fail)
   have j:Ext Z (Z.drewN nq):=(Qa.refl _ Z).drewN _;have p:=j.cell_some p id;have q:=j.cell_some q id;have G:=j.cell_some G id;have H:=j.cell_some H id;have E:=j.cell_some E id;have F:=j.cell_some F id;have B:=Zh (Qe r.out j);have A:=Zh (l.out.trans j);obtain⟨c8,D⟩:=zE (Z.drewN nq);rw [D] at p q G H E F B A ⊢;clear j D r l;have r:=B;have l:=A;clear B A;have f3:Zs (k.set i (y,z)):=Ed e0.out.2 n1.out i;have b5:=Ep j7.out n2.out i;have Y:(k.set i (y,z)).length=I:=by rw [List.length_set];exact a5.out
   have a0:Qd c8 (.slice (some ⟨L,0,none⟩) I a9) (k.set i (y,z)):=Ca r.out Y f3;obtain⟨_,_,_,a8,_,O,P⟩:=a0.at (show i<(k.set i (y,z)).length by rw [Y];exact b4);simp only [zV,Option.some.injEq,Addr.mk.injEq,and_true] at a8;obtain⟨⟨rfl,rfl⟩,b8,rfl⟩:=a8;clear b8;rw [Q7f d2,Nat.zero_add] at O P;dsimp only at O P;have a2:=fun(g:World) (C:Ext w g) (hv:Qd g (.slice (some ⟨L,0,none⟩) I a9) (k.set i (y,z)))=>j4.out g C (v:=k.set i (y,z)) (vo:=some ⟨L,0,none⟩) (vc:=a9) (by rw [Y];exact hv) b5;simp only [Y] at a2;obtain⟨d5,b1⟩:=zE (Hr T k (k.set i (y,z)));simp only [b1] at a2;have g6:=Zh a2;have d8:=Zh a0;have e5:Lp T k (t,u) (y,z) i=!d5:=by rw [<-b1];exact c6.out
   have d6:=Zh e5;obtain⟨s,a7⟩:=zE c8;rw [a7] at d8 l p q O P ⊢;have b0:=l;clear f3 b5 Y a0 a2 b1 e5 a7 G H E F r l;rcases e9 with e7 | ⟨e7,k9⟩
   all_goals
    go_upto_region 9 with (fail)
    have f:Ext s s.drew:=(Qa.refl _ s).drew;refine Z7 (S:=fun g=>Ext s g) [] kz f ?_;intro _;obtain⟨f9,a6⟩:=zE s.drew;rw [a6] at f ⊢;clear a6;refine tE 0 40 f ?_;refine tE 1 41 f ?_;refine tE 2 42 f ?_;refine tkE (i:=3) (d:=43) (v:=?_) rfl (Or.inl ⟨by rfl,?_⟩) f ?_;rotate_left
    ·intro g C;have f5:=(show Ext s g from C).cell_some O id;have a3:=(show Ext s g from C).cell_some P id;(try dsimp only at C);go_simp;try with_reducible rfl
    try simp only [Act.put,pq]
    refine tE 4 44 f ?_;refine tE 5 45 f ?_;refine tE 6 46 f ?_;refine tkE (i:=7) (d:=47) (v:=?_) rfl (Or.inl ⟨by rfl,?_⟩) f ?_;rotate_left
    ·intro g C;have f5:=(show Ext s g from C).cell_some p id;have a3:=(show Ext s g from C).cell_some q id;(try dsimp only at C);go_simp;try with_reducible rfl
    try simp only [Act.put,pq]
    refine tE 8 48 f ?_;refine tE 9 49 f ?_;refine tE 10 50 f ?_;refine tE 11 51 f ?_;refine tE 12 52 f ?_;refine rE [13] ?_;refine Qb.cons rfl (fun K hK=>?_) Qb.nil;refine iw rfl ?_;go_simp;refine(g6.out f9 (c5.out.trans (b0.out.trans f)) (d8.out.ext f)).mono ?_;rintro e g8 ⟨rfl,e3⟩;have W:Ext s g8:=f.trans e3;refine hK _ _ W (fun _=>?_);clear hK K f e3;try simp only [Act.put,pq]
    refine tE 14 54 W ?_;refine tE 15 55 W ?_;refine Z1 kz ?_ _;have a4:=Zh (b0.out.trans W);clear W O P p q;cases d5
    ·go_wp2;go_ret;have a1:=Q1q b4 d6.out;rw [<-a5.out] at a1;have d1:apB T k (t,u) (y,z)=true:=a1;exact⟨by rw [d1];rfl,c5.out.trans a4.out⟩
    ·go_wp2;exact⟨⟨i+1,by omega,by simp,d7.out.succ d6.out,a4.out⟩,nz⟩
 have b2:=j3.out;rw [if_neg d4] at b2;by_cases f4:(m5,m6)=(y,z)
 ·have V:=f4;simp only [Prod.mk.injEq] at V;have a3:=V.1.symm;have j0:=V.2.symm;subst a3 j0;clear V f4;rw [if_pos rfl] at b2;have c6:=Zh b2;clear b2 d4;have e8:=Ha f8.out;have e9:=Ha (fun e=>f8.out e.symm);rcases e9 with e6 | ⟨e6,k8⟩
  all_goals
   go_upto_region 5 with (fail)
   go_quiet (fail)
   have j:Ext J (J.drewN nq):=(Qa.refl _ J).drewN _;have p:=j.cell_some p id;have q:=j.cell_some q id;have G:=j.cell_some G id;have H:=j.cell_some H id;have E:=j.cell_some E id;have F:=j.cell_some F id;have B:=Zh (Qe r.out j);have A:=Zh (l.out.trans j);obtain⟨U,D⟩:=zE (J.drewN nq);rw [D] at p q G H E F B A ⊢;clear j D r l;have r:=B;have l:=A;clear B A;go_upto_region 7 with (fail)
   go_quiet (fail)
   have j:Ext U (U.drewN nq):=(Qa.refl _ U).drewN _;have p:=j.cell_some p id;have q:=j.cell_some q id;have G:=j.cell_some G id;have H:=j.cell_some H id;have E:=j.cell_some E id;have F:=j.cell_some F id;have B:=Zh (Qe r.out j);have A:=Zh (l.out.trans j);obtain⟨Z,D⟩:=zE (U.drewN nq);rw [D] at p q G H E F B A ⊢;clear j D r l;have r:=B;have l:=A;clear B A;have f1:=Gr r.out (o:=i*2) (m:=2) oz;have b7:=Tt (cs:=Q37 (t,u)) r.out b4 rfl;rw [Sy d2] at b7;have N:=Qa.setCells Z L (#[.int .u32 (t:Int),.int .u32 (u:Int)]:Array Value).toList (i*2);have b3:Ext R _:=l.out.after N (fun b hb e=>by have:=j6.out;have:=c7.out.size;omega);have i8:=j5.out;have b9:=N.cell_some p (by dsimp only;omega);have c0:=N.cell_some q (by dsimp only;omega);have c1:=N.cell_some G (by dsimp only;omega);have c2:=N.cell_some H (by dsimp only;omega);have c3:=N.cell_some E (by dsimp only;omega);have c4:=N.cell_some F (by dsimp only;omega);obtain⟨c8,D⟩:=zE (Z.setCells L (i*2) (#[.int .u32 (t:Int),.int .u32 (u:Int)]:Array Value).toList);have f0:c8.ownsRow M 26 2 (.slice (some ⟨L,0,none⟩) I a9) I (Z3 (k.set i (t,u))):=by rw [<-D];exact b7
   rw [D] at b3 b9 c0 c1 c2 c3 c4;obtain⟨d9,e1,A,B⟩:=Zh4 f1 D b3 f0;clear f1 b7 N b3 D f0 i8;go_upto_region 9 with (refine wpList_store_mid rfl 26 (.tmp 39) (.tmp 38) rfl L (i*2) #[.int .u32 (t:Int),.int .u32 (u:Int)] (by first | rfl | (simp;done)) rfl d9.out kz kz ?_;rw [e1.out])
   clear p q G H E F r l d9 e1;have p:=b9;have q:=c0;have G:=c1;have H:=c2;have E:=c3;have F:=c4;have r:=B;have l:=A;clear b9 c0 c1 c2 c3 c4 B A;have f3:Zs (k.set i (t,u)):=Ed e0.out.2 m9.out i;have b5:=Ep j7.out n0.out i;have Y:(k.set i (t,u)).length=I:=by rw [List.length_set];exact a5.out
   have a0:Qd c8 (.slice (some ⟨L,0,none⟩) I a9) (k.set i (t,u)):=Ca r.out Y f3;obtain⟨_,_,_,a8,_,O,P⟩:=a0.at (show i<(k.set i (t,u)).length by rw [Y];exact b4);simp only [zV,Option.some.injEq,Addr.mk.injEq,and_true] at a8;obtain⟨⟨rfl,rfl⟩,b8,rfl⟩:=a8;clear b8;rw [Q7f d2,Nat.zero_add] at O P;dsimp only at O P;have a2:=fun(g:World) (C:Ext w g) (hv:Qd g (.slice (some ⟨L,0,none⟩) I a9) (k.set i (t,u)))=>j4.out g C (v:=k.set i (t,u)) (vo:=some ⟨L,0,none⟩) (vc:=a9) (by rw [Y];exact hv) b5;simp only [Y] at a2;obtain⟨d5,b1⟩:=zE (Hr T k (k.set i (t,u)));simp only [b1] at a2;have g6:=Zh a2;have d8:=Zh a0;have e5:Lp T k (t,u) (y,z) i=!d5:=by rw [<-b1];exact c6.out
   have d6:=Zh e5;obtain⟨s,a7⟩:=zE c8;rw [a7] at d8 l p q O P ⊢;have b0:=l;clear f3 b5 Y a0 a2 b1 e5 a7 G H E F r l;rcases e8 with e7 | ⟨e7,k9⟩
   all_goals
    go_upto_region 9 with (fail)
    have f:Ext s s.drew:=(Qa.refl _ s).drew;refine Z7 (S:=fun g=>Ext s g) [] kz f ?_;intro _;obtain⟨f9,a6⟩:=zE s.drew;rw [a6] at f ⊢;clear a6;refine tE 0 40 f ?_;refine tE 1 41 f ?_;refine tE 2 42 f ?_;refine tkE (i:=3) (d:=43) (v:=?_) rfl (Or.inl ⟨by rfl,?_⟩) f ?_;rotate_left
    ·intro g C;have f5:=(show Ext s g from C).cell_some O id;have a3:=(show Ext s g from C).cell_some P id;(try dsimp only at C);go_simp;try with_reducible rfl
    try simp only [Act.put,pq]
    refine tE 4 44 f ?_;refine tE 5 45 f ?_;refine tE 6 46 f ?_;refine tkE (i:=7) (d:=47) (v:=?_) rfl (Or.inl ⟨by rfl,?_⟩) f ?_;rotate_left
    ·intro g C;have f5:=(show Ext s g from C).cell_some p id;have a3:=(show Ext s g from C).cell_some q id;(try dsimp only at C);go_simp;try with_reducible rfl
    try simp only [Act.put,pq]
    refine tE 8 48 f ?_;refine tE 9 49 f ?_;refine tE 10 50 f ?_;refine tE 11 51 f ?_;refine tE 12 52 f ?_;refine rE [13] ?_;refine Qb.cons rfl (fun K hK=>?_) Qb.nil;refine iw rfl ?_;go_simp;refine(g6.out f9 (c5.out.trans (b0.out.trans f)) (d8.out.ext f)).mono ?_;rintro e g8 ⟨rfl,e3⟩;have W:Ext s g8:=f.trans e3;refine hK _ _ W (fun _=>?_);clear hK K f e3;try simp only [Act.put,pq]
    refine tE 14 54 W ?_;refine tE 15 55 W ?_;refine Z1 kz ?_ _;have a4:=Zh (b0.out.trans W);clear W O P p q;cases d5
    ·go_wp2;go_ret;have a1:=Q1q b4 d6.out;rw [<-a5.out] at a1;have d1:apB T k (t,u) (y,z)=true:=a1;exact⟨by rw [d1];rfl,c5.out.trans a4.out⟩
    ·go_wp2;exact⟨⟨i+1,by omega,by simp,d7.out.succ d6.out,a4.out⟩,nz⟩
 rw [if_neg f4] at b2;have c6:=Zh b2;have e8:=Ha d4;have e9:=Ha f4;clear b2 d4 f4;rcases e8 with e6 | ⟨e6,k8⟩ <;> rcases e9 with e7 | ⟨e7,k9⟩
 all_goals
  go_upto_region 5 with (fail)
  go_quiet (fail)
  have j:Ext J (J.drewN nq):=(Qa.refl _ J).drewN _;have p:=j.cell_some p id;have q:=j.cell_some q id;have G:=j.cell_some G id;have H:=j.cell_some H id;have E:=j.cell_some E id;have F:=j.cell_some F id;have B:=Zh (Qe r.out j);have A:=Zh (l.out.trans j);obtain⟨U,D⟩:=zE (J.drewN nq);rw [D] at p q G H E F B A ⊢;clear j D r l;have r:=B;have l:=A;clear B A;go_upto_region 7 with (fail)
  go_quiet (fail)
  have j:Ext U (U.drewN nq):=(Qa.refl _ U).drewN _;have p:=j.cell_some p id;have q:=j.cell_some q id;have G:=j.cell_some G id;have H:=j.cell_some H id;have E:=j.cell_some E id;have F:=j.cell_some F id;have B:=Zh (Qe r.out j);have A:=Zh (l.out.trans j);obtain⟨Z,D⟩:=zE (U.drewN nq);rw [D] at p q G H E F B A ⊢;clear j D r l;have r:=B;have l:=A;clear B A;have a0:=Ca r.out a5.out e0.out.2;obtain⟨_,_,_,a8,_,O,P⟩:=a0.at d2;simp only [zV,Option.some.injEq,Addr.mk.injEq,and_true] at a8;obtain⟨⟨rfl,rfl⟩,b8,rfl⟩:=a8;clear b8 a0;rw [k1.out,Nat.zero_add] at O P;dsimp only at O P;obtain⟨s,a7⟩:=zE Z;rw [a7] at l p q O P ⊢;have b0:=l;clear a7 G H E F r l;go_upto_region 9 with (fail)
  have f:Ext s s.drew:=(Qa.refl _ s).drew;refine Z7 (S:=fun g=>Ext s g) [] kz f ?_;intro _;obtain⟨f9,a6⟩:=zE s.drew;rw [a6] at f ⊢;clear a6;refine tE 0 40 f ?_;refine tE 1 41 f ?_;refine tE 2 42 f ?_;refine tkE (i:=3) (d:=43) (v:=?_) rfl (Or.inl ⟨by rfl,?_⟩) f ?_;rotate_left
  ·intro g C;have f5:=(show Ext s g from C).cell_some O id;have a3:=(show Ext s g from C).cell_some P id;(try dsimp only at C);go_simp;try with_reducible rfl
  try simp only [Act.put,pq]
  refine tE 4 44 f ?_;refine tE 5 45 f ?_;refine tE 6 46 f ?_;refine tkE (i:=7) (d:=47) (v:=?_) rfl (Or.inl ⟨by rfl,?_⟩) f ?_;rotate_left
  ·intro g C;have f5:=(show Ext s g from C).cell_some p id;have a3:=(show Ext s g from C).cell_some q id;(try dsimp only at C);go_simp;try with_reducible rfl
  try simp only [Act.put,pq]
  refine tE 8 48 f ?_;refine tE 9 49 f ?_;refine tkE (i:=10) (d:=50) (v:=undef) rfl (Or.inr ⟨by rfl,rfl⟩) f ?_;try simp only [Act.put,pq]
  refine tkE (i:=11) (d:=51) (v:=undef) rfl (Or.inr ⟨by rfl,rfl⟩) f ?_;try simp only [Act.put,pq]
  refine tkE (i:=12) (d:=52) (v:=undef) rfl (Or.inr ⟨by rfl,rfl⟩) f ?_;try simp only [Act.put,pq]
  refine tkE (i:=13) (d:=53) (v:=undef) rfl (Or.inr ⟨by rfl,rfl⟩) f ?_;try simp only [Act.put,pq]
  refine tkE (i:=14) (d:=54) (v:=undef) rfl (Or.inr ⟨by rfl,rfl⟩) f ?_;try simp only [Act.put,pq]
  refine tE 15 55 f ?_;refine Z1 kz ?_ _;have a4:=Zh (b0.out.trans f);clear f O P p q;go_wp2
  first
   | exact⟨⟨i+1,by omega,tz,⟨rfl,rfl,rfl,rfl,rfl,rfl⟩,d7.out.succ c6.out,a4.out⟩,nz⟩
   | exact⟨⟨i+1,by omega,tz,by simp,d7.out.succ c6.out,a4.out⟩,nz⟩
def Pa(ls:List Qg)(us:List Wd)(s t:Nat × Nat)(j:Nat):Bool:=(us.take j).any fun w=>apB ls w s t
theorem Qe4{ls:List Qg}{us:List Wd}{s t:Nat × Nat}{j:Nat}(h:j<us.length):Pa ls us s t (j+1)=(Pa ls us s t j || apB ls us[j] s t):=by
 unfold Pa;rw [List.take_succ_eq_append_getElem h,List.any_append];simp
theorem Qhw{ls:List Qg}{us:List Wd}{s t:Nat × Nat}{j:Nat}(h:us.length<=j):Pa ls us s t j=apL ls us s t:=by
 unfold Pa apL;rw [List.take_of_length_le h]
theorem Q42{l:List Nat}{k:Nat}(h:k<l.length):(Z5 l).getD k undef=.int .i64 (l.getD k 0:Nat):=by
 rw [List.getD_eq_getElem?_getD,List.getD_eq_getElem?_getD];simp [Z5,h]
theorem Q5h{w:World}{ps:Zl}{lo:Option Addr}{n lc:Nat}(l1:Zk w (.slice lo n lc) ps) (l2:ps.length=n) {d3:Option Addr} {N d2:Nat} {us:List Wd} (J:Gc w (.slice d3 N d2) us) (b5:us.length=N) {i2:Option Addr} {M d1:Nat} {ss:Wd} (V:Qd w (.slice i2 M d1) ss) (d8:ss.length=M) :
  Calls Tryz.prog 51 #[.slice lo n lc,.slice d3 N d2,.slice i2 M d1] w fun e w'=>∃ vo vc,e=.returned (.tuple #[.slice vo (Vw (ps.map (·.1)) us ss).length vc,.int .i64 (Xh (ps.map (·.1)) us ss)])/\w'.ownsRow w.heap.size 3 1 (.slice vo (Vw (ps.map (·.1)) us ss).length vc) (Vw (ps.map (·.1)) us ss).length (Z5 (Vw (ps.map (·.1)) us ss))/\Ext w w':=by
 have v2:N<=maxLen:=by obtain⟨r9,y,_⟩:=J;rw [<-b5];exact y.2.1
 have v1:M<=maxLen:=by rw [<-d8];exact V.1.2.1
 unfold maxLen at v2 v1;have y:=Q0i l1 l2;have U:=fun(H:World) (Q:Ext w H)=>Q8w 16 (V.ext Q) d8;have j7:=fun(H:World) (Q:Ext w H) {T:Wd} {ao:Option Addr} {an ac:Nat} (m1:Qd H (.slice ao an ac) T) (hwn:T.length=an) (b1:Zw (ps.map (·.1)) T=0) {B C D F:Nat} (g3:Qm (B,C)) (e0:Qm (D,F)) (hav:okS (B,C)=true) (hbv:okS (D,F)=true) (d9:(B,C)≠(D,F))=>Qdf (l1.ext Q) l2 m1 hwn b1 g3 e0 hav hbv d9;obtain⟨m,j4⟩:=zE (ps.map (·.1));rw [j4] at y ⊢;simp only [j4] at j7;have l8:Z4 m≠0->Xh m us ss=Z4 m:=fun h=>by unfold Xh;rw [if_neg h]
 have l9:Z4 m=0->32<N->Xh m us ss=12:=fun h U=>by unfold Xh;rw [if_pos h,b5,if_pos U]
 have b9:Z4 m=0->¬ 32<N->Gg us≠0->Xh m us ss=Gg us:=fun h U f9=>by unfold Xh;rw [if_pos h,b5,if_neg U,if_neg f9]
 have b2:Z4 m=0->¬ 32<N->Gg us=0->Xh m us ss=Yz ss 16:=fun h U f9=>by unfold Xh;rw [if_pos h,b5,if_neg U,if_pos f9]
 have l5:=@Q8h m us ss;obtain⟨x,j6⟩:∃ x:Nat->Nat->Bool,(fun i k=>apL m us (ss.getD i (0,0)) (ss.getD k (0,0)))=x:=⟨_,rfl⟩;have s1:Hid (∀ i k,x i k=apL m us (ss.getD i (0,0)) (ss.getD k (0,0))):=Zh fun i k=>by rw [<-j6]
 have m2:Xh m us ss=0->Vw m us ss=Vn x M:=fun h=>by unfold Vw;rw [if_pos h,d8,j6]
 clear j6
 have c8:Z4 m=0->Gg us=0->∀ T∈us,Zw m T=0:=fun h U T hm=>by
  unfold Zw;rw [if_pos h];exact Nl U _ (List.mem_map.2 ⟨T,hm,rfl⟩)
 have m0:=@Q2k ss 16;obtain⟨m4,a4⟩:=zE (Z4 m);obtain⟨w6,c6⟩:=zE (Yz ss 16);obtain⟨s0,g1⟩:=zE (Gg us);obtain⟨o9,g2⟩:=zE (Xh m us ss);obtain⟨w7,j5⟩:=zE (Vw m us ss);rw [a4] at y;simp only [c6] at U m0;rw [a4,g2] at l8 l9 b9 b2;rw [g1] at b9 b2;rw [c6] at b2;rw [a4,g1] at c8;rw [g2,j5] at l5 m2;rw [g2,j5];have r6:(us.map wE).length=N:=by rw [List.length_map,b5]
 have r5:Qw (us.map wE)=s0:=g1;have m5:=Zh y;have m6:=Zh U;have s3:Hid (∀(H:World),Ext w H->∀ {T:Wd} {ao:Option Addr} {an ac:Nat},Qd H (.slice ao an ac) T->T.length=an->Zw m T=0->∀ {B C D F:Nat},Qm (B,C)->Qm (D,F)->okS (B,C)=true->okS (D,F)=true->(B,C)≠(D,F)->Calls Tryz.prog 98 #[.slice lo n lc,.slice ao an ac,.agg #[.int .u32 (B:Int),.int .u32 (C:Int)],.agg #[.int .u32 (D:Int),.int .u32 (F:Int)]] H fun e w'=>e=.returned (.bool (apB m T (B,C) (D,F)))/\Ext H w'):=Zh j7;obtain⟨o3,o4,o5,o7,d5,o2,n1,n7⟩:=Zh8 l8 l9 b9 b2 l5 m2 c8 m0;obtain⟨o0,d4,e8,e7,o1,i7⟩:=Zh6 J b5 V d8 r6 r5;clear l1 l2 J b5 V d8 y U j7 l8 l9 b9 b2 l5 m2 c8 m0 a4 c6 g1 g2 j5 j4 r6 r5;go_enter Tryz.func51,Tryz.ntmps51;go_wp2_with fail;refine m5.out.mono ?_;rintro e x7 ⟨rfl,d6⟩;have b3:=Zh d6;clear m5 d6;by_cases I:m4=0;case neg=>
  have c9:(m4 != 0)=true:=by simpa using I
  have R:=o3.out I;subst R;have c0:=d5.out I;subst c0;go_wp2;refine bodyPost_ret (Qt rfl _ _ _) rfl ⟨_,_,rfl,World.ownsRow_nil _ _ _ _,b3.out⟩
 subst I;by_cases k0:32<N
 ·have y:(N:Int) > 32:=by omega
  have R:=o4.out uz k0;subst R;have c0:=d5.out zd;subst c0;go_wp2;refine bodyPost_ret (Qt rfl _ _ _) rfl ⟨_,_,rfl,World.ownsRow_nil _ _ _ _,b3.out⟩
 have y:¬ (N:Int) > 32:=by omega
 have b9:=o5.out uz k0;have b2:=o7.out uz k0;have c8:=n1.out uz;obtain⟨o6,o8,n2⟩:=Zh3 b9 b2 c8;clear o3 o4 o5 o7 n1 b9 b2 c8;go_wp2;clear y
 refine wp_loop (fun a j0=>∃(k:Nat),k<=N/\a.defers=[]/\(a.tmps.size=93/\a.tmps.getD 0 undef=.slice lo n lc/\a.tmps.getD 1 undef=.slice d3 N d2/\a.tmps.getD 2 undef=.slice i2 M d1/\a.tmps.getD 9 undef=.int .i64 k)/\Qw ((us.map wE).take k)=0/\Ext w j0)
  (fun a _=>N - (intOf (a.tmps.getD 9 undef)).toNat) ?_ ?_
 ·exact⟨0,by omega,rfl,⟨rfl,rfl,rfl,rfl,rfl⟩,rfl,b3.out⟩
 clear b3;rintro⟨t,_⟩ j0 ⟨k,q3,b6,⟨a3,L,O,P,j3⟩,e1,Q⟩;subst b6;obtain⟨c3,J⟩:=Qq a3;obtain⟨c,rfl⟩:∃ u,u=c3:=⟨_,rfl⟩;have c1:t=#[c 0,c 1,c 2,c 3,c 4,c 5,c 6,c 7,c 8,c 9,c 10,c 11,c 12,c 13,c 14,c 15,c 16,c 17,c 18,c 19,c 20,c 21,c 22,c 23,c 24,c 25,c 26,c 27,c 28,c 29,c 30,c 31,c 32,c 33,c 34,c 35,c 36,c 37,c 38,c 39,c 40,c 41,c 42,c 43,c 44,c 45,c 46,c 47,c 48,c 49,c 50,c 51,c 52,c 53,c 54,c 55,c 56,c 57,c 58,c 59,c 60,c 61,c 62,c 63,c 64,c 65,c 66,c 67,c 68,c 69,c 70,c 71,c 72,c 73,c 74,c 75,c 76,c 77,c 78,c 79,c 80,c 81,c 82,c 83,c 84,c 85,c 86,c 87,c 88,c 89,c 90,c 91,c 92]:=J;clear J;subst c1;change c 0=_ at L;change c 1=_ at O;change c 2=_ at P;change c 9=_ at j3;rw [L,O,P,j3];clear L O P j3 a3;have e6:=Zh e1;have p:=Zh Q;clear e1 Q;by_cases l0:k<N;case pos=>
  have y:(k:Int)<(N:Int):=by omega
  have u9:(0:Int)<=(k:Int):=by omega
  have q4:k<us.length:=by rw [d4.out];exact l0
  have k9:k<(us.map wE).length:=by rw [o1.out];exact l0
  obtain⟨r9,R,e5⟩:=o0.out;rw [d4.out] at R;obtain⟨u8,w1,u7,a7,k7,k5⟩:=Zb (R.ext p.out) l0;simp only [zV,true_and] at a7;obtain⟨rfl,rfl⟩:=a7;obtain⟨w5,w3,e4,c2⟩:=Lk e5 q4;rw [e4] at k5;have g4:=Nc (c2.ext p.out);have g5:=Hn k9 e6.out;have e2:=Dc k9 e6.out;rw [List.getElem_map] at g5 e2;rw [i7.out] at e2;obtain⟨u,g9⟩:=zE (wE us[k]);rw [g9] at g4 g5 e2;obtain⟨w4,d0⟩:=zE (us[k].length);rw [d0] at k5 g4;obtain⟨m9,t1,t0⟩:=Zh3 g4 g5 e2;clear g4 g5 e2 R e5 e4 c2 g9 d0 k7 q4 k9;go_wp2_with fail;refine m9.out.mono ?_;rintro e w8 ⟨rfl,d6⟩;have b3:=Zh (p.out.trans d6);clear m9 d6 k5 p;by_cases I:u=0;case neg=>
   have c9:(u != 0)=true:=by simpa using I
   have m1:=t0.out I;subst m1;have R:=o6.out I;subst R;have c0:=d5.out I;subst c0;go_wp2;refine bodyPost_ret (Qt rfl _ _ _) rfl ⟨_,_,rfl,World.ownsRow_nil _ _ _ _,b3.out⟩
  subst I;go_wp2;exact⟨⟨k+1,by omega,by first | trivial | rfl,⟨rfl,rfl,rfl,rfl,rfl⟩,t1.out,b3.out⟩,nz⟩
 obtain rfl:k=N:=by omega
 have y:¬ (k:Int)<(k:Int):=by omega
 have e1:=e6.out;rw [List.take_of_length_le (by rw [o1.out];exact Nat.le_refl _),i7.out] at e1;subst e1;have R:=o8.out uz;subst R;have b1:=n2.out uz;have t3:=Zh b1;clear o6 o8 n2 b1 e6 i7;go_wp2_with fail;refine(m6.out j0 p.out).mono ?_;rintro e x8 ⟨rfl,c6⟩;have i4:=Zh (p.out.trans c6);clear m6 c6 p y;by_cases I:o9=0;case neg=>
  have c9:(o9 != 0)=true:=by simpa using I
  have c0:=d5.out I;subst c0;go_wp2;refine bodyPost_ret (Qt rfl _ _ _) rfl ⟨_,_,rfl,World.ownsRow_nil _ _ _ _,i4.out⟩
 subst I;have v8:=o2.out uz;subst v8;obtain⟨q7,v0,a5⟩:=n7.out uz;rw [e7.out] at v0;have t4:=Zh q7;have n5:=Zh a5;clear q7 a5 o2 n7 d5;obtain⟨Y,p7⟩:=zE w.heap.size;have f0:=Zh p7;clear p7;go_wp2
 refine wp_loop (fun a H=>∃(i:Nat) (X:Option Addr) (W:Nat),i<=M/\a.defers=[]/\(a.tmps.size=93/\a.tmps.getD 0 undef=.slice lo n lc/\a.tmps.getD 1 undef=.slice d3 k d2/\a.tmps.getD 2 undef=.slice i2 M d1/\a.tmps.getD 10 undef=.slice X i W/\a.tmps.getD 11 undef=.int .i64 i)/\H.ownsRow Y 3 1 (.slice X i W) i (Z5 (Vn x i))/\Ext w H)
  (fun a _=>M - (intOf (a.tmps.getD 11 undef)).toNat) ?_ ?_
 ·exact⟨0,none,0,by omega,rfl,⟨rfl,rfl,rfl,rfl,rfl,rfl⟩,World.ownsRow_nil _ _ _ _,i4.out⟩
 clear i4;rintro⟨t,_⟩ H ⟨i,X,W,x3,b6,⟨a3,L,O,P,Z,a0⟩,a9,Q⟩;subst b6;obtain⟨c3,J⟩:=Qq a3;obtain⟨c,rfl⟩:∃ u,u=c3:=⟨_,rfl⟩;have c1:t=#[c 0,c 1,c 2,c 3,c 4,c 5,c 6,c 7,c 8,c 9,c 10,c 11,c 12,c 13,c 14,c 15,c 16,c 17,c 18,c 19,c 20,c 21,c 22,c 23,c 24,c 25,c 26,c 27,c 28,c 29,c 30,c 31,c 32,c 33,c 34,c 35,c 36,c 37,c 38,c 39,c 40,c 41,c 42,c 43,c 44,c 45,c 46,c 47,c 48,c 49,c 50,c 51,c 52,c 53,c 54,c 55,c 56,c 57,c 58,c 59,c 60,c 61,c 62,c 63,c 64,c 65,c 66,c 67,c 68,c 69,c 70,c 71,c 72,c 73,c 74,c 75,c 76,c 77,c 78,c 79,c 80,c 81,c 82,c 83,c 84,c 85,c 86,c 87,c 88,c 89,c 90,c 91,c 92]:=J;clear J;subst c1;change c 0=_ at L;change c 1=_ at O;change c 2=_ at P;change c 10=_ at Z;change c 11=_ at a0;rw [L,O,P,Z,a0];clear L O P Z a0 a3;have A:=Zh a9;have p:=Zh Q;clear a9 Q;by_cases q0:i<M;case neg=>
  obtain rfl:i=M:=by omega
  have y:¬ (i:Int)<(i:Int):=by omega
  go_wp2;refine bodyPost_ret (Qt rfl _ _ _) rfl ⟨X,W,by rw [Kq];rfl,by rw [Kq,f0.out];exact A.out,p.out⟩
 have y:(i:Int)<(M:Int):=by omega
 have u9:(0:Int)<=(i:Int):=by omega
 have p8:Y<=H.heap.size:=by have:=p.out.size;have:=f0.out;omega
 have g0:Ext H (H.alloc (.cells #[.int .i64 (i:Int)] 3)):=(Qa.refl _ H).alloc _;have r0:=Rd.of_own (World.ownsRow_lit (base:=Y) (e:=3) (size:=1) H #[.int .i64 (i:Int)] 1 p8 zd rfl);have e3:=Qe A.out g0;have r3:Y<=(H.alloc (.cells #[.int .i64 (i:Int)] 3)).heap.size:=by have:=g0.size;omega
 obtain⟨n6,i5,m7,n9⟩:=Zh4 r0 e3 (p.out.trans g0) r3;clear r0 e3 g0 r3 p8 A
 go_wp2_with (at_builtin;refine Xi rfl (.tmp 48) (.tmp 50) 36 rfl Y 3 _ 1 8 Tryz.underlying36 En rfl zd _ _ _ rfl i5.out _ 1 _ _ rfl n6.out (by intro c J;simp at J;subst J;rfl) (by unfold maxLen;omega) oz n9.out ?_)
 intro r8 r7 p0 p4 p6 _;have p1:Ext w p0:=m7.out.after p6 (fun b e0 e=>by have:=(i5.out.lt b e).1;have:=f0.out;omega);have p5:p0.ownsRow Y 3 1 (.slice r8 (i+1) r7) (i+1) (Z5 (Vy x i (Vn x i) 0)):=by rw [Ni,Pq];simpa using p4
 have n4:=Zh p5;have n0:=Zh p1;clear p4 p1 p6 p5 i5 m7 n6 n9 p;have c7:i<ss.length:=by rw [e7.out];exact q0
 obtain⟨f8,i0,x0,a7,_,_,_⟩:=e8.out.at c7;simp only [zV] at a7;obtain⟨rfl,I,rfl⟩:=a7;clear I;have b7:ss.getD i (0,0)=ss[i]:=by rw [List.getD_eq_getElem?_getD,List.getElem?_eq_getElem c7];rfl
 have a5:okS (ss.getD i (0,0))=true:=by rw [b7];exact n5.out _ (List.getElem_mem c7)
 have b8:Qm (ss.getD i (0,0)):=by rw [b7];exact e8.out.2 _ (List.getElem_mem c7)
 have k3:∀(j:World),Ext w j->∀ q,q<M->j.cell? ⟨f8,i0+q*2,none⟩=some (.int .u32 ((ss.getD q (0,0)).1:Int))/\j.cell? ⟨f8,i0+q*2+1,none⟩=some (.int .u32 ((ss.getD q (0,0)).2:Int)):=fun j r q q1=>by
  obtain⟨x1,x6,w9,a7,_,m3,w2⟩:=(e8.out.ext r).at (show q<ss.length by rw [e7.out];exact q1);simp only [zV,Option.some.injEq,Addr.mk.injEq,and_true] at a7;obtain⟨⟨rfl,rfl⟩,_,rfl⟩:=a7;exact⟨m3,w2⟩
 have j8:∀ k,x i k=apL m us (ss.getD i (0,0)) (ss.getD k (0,0)):=s1.out i;have l3:∀ k,k<i->ss.getD i (0,0)≠ss.getD k (0,0):=fun k q3=>Q09 t4.out c7 q3;have k4:=fun(j:World) (r:Ext w j)=>k3 j r i q0;obtain⟨⟨B,C⟩,V⟩:=zE (ss.getD i (0,0));rw [V] at a5 b8;simp only [V] at j8 l3 k4;obtain⟨s6,s7,s4,t6⟩:=Zh4 k3 k4 j8 l3;have u0:Hid (okS (B,C)=true):=Zh a5;have t9:Hid (Qm (B,C)):=Zh b8;clear b7 a5 b8 j8 l3 V k3 k4 c7;go_wp2;clear y
 refine wp_loop (fun a i8=>∃(g:Nat) (X:Option Addr) (W:Nat),g<=i/\a.defers=[]/\(a.tmps.size=93/\a.tmps.getD 0 undef=.slice lo n lc/\a.tmps.getD 1 undef=.slice d3 k d2/\a.tmps.getD 2 undef=.slice (some ⟨f8,i0,none⟩) M d1/\a.tmps.getD 10 undef=.slice X (i+1) W/\a.tmps.getD 11 undef=.int .i64 i/\a.tmps.getD 12 undef=.int .i64 g)/\i8.ownsRow Y 3 1 (.slice X (i+1) W) (i+1) (Z5 (Vy x i (Vn x i) g))/\Ext w i8)
  (fun a _=>i - (intOf (a.tmps.getD 12 undef)).toNat) ?_ ?_
 ·exact⟨0,r8,r7,by omega,rfl,⟨rfl,rfl,rfl,rfl,rfl,rfl,rfl⟩,n4.out,n0.out⟩
 clear n4 n0;rintro⟨t,_⟩ i8 ⟨g,X,W,a7,b6,⟨a3,L,O,P,Z,a0,b4⟩,a9,Q⟩;subst b6;obtain⟨c3,J⟩:=Qq a3;obtain⟨c,rfl⟩:∃ u,u=c3:=⟨_,rfl⟩;have c1:t=#[c 0,c 1,c 2,c 3,c 4,c 5,c 6,c 7,c 8,c 9,c 10,c 11,c 12,c 13,c 14,c 15,c 16,c 17,c 18,c 19,c 20,c 21,c 22,c 23,c 24,c 25,c 26,c 27,c 28,c 29,c 30,c 31,c 32,c 33,c 34,c 35,c 36,c 37,c 38,c 39,c 40,c 41,c 42,c 43,c 44,c 45,c 46,c 47,c 48,c 49,c 50,c 51,c 52,c 53,c 54,c 55,c 56,c 57,c 58,c 59,c 60,c 61,c 62,c 63,c 64,c 65,c 66,c 67,c 68,c 69,c 70,c 71,c 72,c 73,c 74,c 75,c 76,c 77,c 78,c 79,c 80,c 81,c 82,c 83,c 84,c 85,c 86,c 87,c 88,c 89,c 90,c 91,c 92]:=J;clear J;subst c1;change c 0=_ at L;change c 1=_ at O;change c 2=_ at P;change c 10=_ at Z;change c 11=_ at a0;change c 12=_ at b4;rw [L,O,P,Z,a0,b4];clear L O P Z a0 b4 a3;have A:=Zh a9;have p:=Zh Q;clear a9 Q;by_cases v7:g<i;case neg=>
  obtain rfl:g=i:=by omega
  have y:¬ (g:Int)<(g:Int):=by omega
  have a2:=A.out;rw [<-Ds] at a2;have a8:=Zh a2;clear a2 A;go_wp2;exact⟨⟨g+1,by omega,X,W,by simp,a8.out,p.out⟩,nz⟩
 have y:(g:Int)<(i:Int):=by omega
 have U:(0:Int)<=(g:Int):=by omega
 have x4:(i:Int)<(M:Int):=by omega
 have x5:(g:Int)<(M:Int):=by omega
 have g7:g<ss.length:=by rw [e7.out];omega
 have b7:ss.getD g (0,0)=ss[g]:=by rw [List.getD_eq_getElem?_getD,List.getElem?_eq_getElem g7];rfl
 have a5:okS (ss.getD g (0,0))=true:=by rw [b7];exact n5.out _ (List.getElem_mem g7)
 have b8:Qm (ss.getD g (0,0)):=by rw [b7];exact e8.out.2 _ (List.getElem_mem g7)
 have c9:=t6.out g v7;have j9:=s4.out g;have k6:=fun(j:World) (r:Ext w j)=>s6.out j r g oz;obtain⟨⟨D,F⟩,V⟩:=zE (ss.getD g (0,0));rw [V] at a5 b8 c9 j9;simp only [V] at k6;have s8:=Zh k6;have u2:Hid (okS (D,F)=true):=Zh a5;have u1:Hid (Qm (D,F)):=Zh b8;have t5:Hid ((B,C)≠(D,F)):=Zh c9;have s5:=Zh j9;clear b7 a5 b8 c9 j9 V k6 g7;obtain⟨G,d7⟩:=zE (Vy x i (Vn x i) g);have p2:G.length=i+1:=by rw [<-d7,Ri,Kq]
 have p3:∀ u∈G,u<=i:=by rw [<-d7];exact Su x i (fun u g9=>Q2v x i u g9) g
 have r2:Vy x i (Vn x i) (g+1)=Hc x i G g:=by rw [Ws,d7]
 have a2:=A.out;rw [d7] at a2;obtain⟨n3,c4,t2,n8⟩:=Zh4 a2 p2 p3 r2;clear a2 d7 p2 p3 r2 A;go_wp2;clear y
 refine wp_loop (fun a o=>∃(q:Nat),q<=k/\a.defers=[]/\(a.tmps.size=93/\a.tmps.getD 0 undef=.slice lo n lc/\a.tmps.getD 1 undef=.slice d3 k d2/\a.tmps.getD 2 undef=.slice (some ⟨f8,i0,none⟩) M d1/\a.tmps.getD 10 undef=.slice X (i+1) W/\a.tmps.getD 11 undef=.int .i64 i/\a.tmps.getD 12 undef=.int .i64 g/\a.tmps.getD 13 undef=.bool (Pa m us (B,C) (D,F) q)/\a.tmps.getD 14 undef=.int .i64 q)/\o.ownsRow Y 3 1 (.slice X (i+1) W) (i+1) (Z5 G)/\Ext w o)
  (fun a _=>k - (intOf (a.tmps.getD 14 undef)).toNat) ?_ ?_
 ·exact⟨0,by omega,rfl,⟨rfl,rfl,rfl,rfl,rfl,rfl,rfl,by unfold Pa;rfl,rfl⟩,n3.out,p.out⟩
 clear n3 p;rintro⟨t,_⟩ o ⟨q,q1,b6,⟨a3,L,O,P,Z,a0,b4,j1,j2⟩,a9,Q⟩;subst b6;obtain⟨c3,J⟩:=Qq a3;obtain⟨c,rfl⟩:∃ u,u=c3:=⟨_,rfl⟩;have c1:t=#[c 0,c 1,c 2,c 3,c 4,c 5,c 6,c 7,c 8,c 9,c 10,c 11,c 12,c 13,c 14,c 15,c 16,c 17,c 18,c 19,c 20,c 21,c 22,c 23,c 24,c 25,c 26,c 27,c 28,c 29,c 30,c 31,c 32,c 33,c 34,c 35,c 36,c 37,c 38,c 39,c 40,c 41,c 42,c 43,c 44,c 45,c 46,c 47,c 48,c 49,c 50,c 51,c 52,c 53,c 54,c 55,c 56,c 57,c 58,c 59,c 60,c 61,c 62,c 63,c 64,c 65,c 66,c 67,c 68,c 69,c 70,c 71,c 72,c 73,c 74,c 75,c 76,c 77,c 78,c 79,c 80,c 81,c 82,c 83,c 84,c 85,c 86,c 87,c 88,c 89,c 90,c 91,c 92]:=J;clear J;subst c1;change c 0=_ at L;change c 1=_ at O;change c 2=_ at P;change c 10=_ at Z;change c 11=_ at a0;change c 12=_ at b4;change c 13=_ at j1;change c 14=_ at j2;rw [L,O,P,Z,a0,b4,j1,j2];clear L O P Z a0 b4 j1 j2 a3;have A:=Zh a9;have p:=Zh Q;clear a9 Q;by_cases q2:q<k;case pos=>
  have y:(q:Int)<(k:Int):=by omega
  have f9:(0:Int)<=(q:Int):=by omega
  have g6:q<us.length:=by rw [d4.out];exact q2
  obtain⟨r9,R,e5⟩:=o0.out;rw [d4.out] at R;obtain⟨u8,w1,u7,q9,k7,c5⟩:=Zb (R.ext p.out) q2;simp only [zV,true_and] at q9;obtain⟨rfl,rfl⟩:=q9;obtain⟨w5,w3,e4,c2⟩:=Lk e5 g6;rw [e4] at c5;have a6:=Qe4 (ls:=m) (s:=(B,C)) (t:=(D,F)) g6;have b1:=t3.out _ (List.getElem_mem g6);obtain⟨T,r4⟩:=zE (us[q]);rw [r4] at c5 a6 c2 b1;obtain⟨w4,d0⟩:=zE T.length;rw [d0] at c5 c2;have l7:=fun(j:World) (r:Ext w j)=>s3.out j r (c2.ext r) d0 b1 t9.out u1.out u0.out u2.out t5.out;obtain⟨f4,f5⟩:=s7.out o p.out;obtain⟨f6,f7⟩:=s8.out o p.out;try dsimp only at f4 f5 f6 f7
  obtain⟨u5,k1⟩:=zE (Pa m us (B,C) (D,F) q);obtain⟨u6,k2⟩:=zE (apB m T (B,C) (D,F));rw [k1,k2] at a6;rw [k1];simp only [k2] at l7;have e9:=Zh a6;have s2:=Zh l7;clear a6 l7 k1 k2 r4 d0 b1 c2 e4 R e5 k7 g6;cases u5
  ·have a6:Pa m us (B,C) (D,F) (q+1)=u6:=by rw [e9.out];rfl
   have i6:=Zh a6;clear a6 e9;go_upto_region 27 with (fail)
   have f:Ext o o.drew:=(Qa.refl _ o).drew;refine Z7 (S:=fun j=>Ext o j) [] kz f ?_;intro _;obtain⟨f1,b0⟩:=zE o.drew;rw [b0] at f ⊢;clear b0;refine tE 0 63 f ?_;refine tE 1 64 f ?_;refine tE 2 65 f ?_;refine tE 3 66 f ?_;refine tE 4 67 f ?_;refine tE 5 68 f ?_;refine tkE (i:=6) (d:=69) (v:=?_) rfl (Or.inl ⟨by rfl,?_⟩) f ?_;rotate_left
   ·intro j r;have i1:=(show Ext o j from r).cell_some c5 id;(try dsimp only at r);go_simp;try with_reducible rfl
   try simp only [Act.put,pq]
   refine tE 7 70 f ?_;refine tE 8 71 f ?_;refine tE 9 72 f ?_;refine tkE (i:=10) (d:=73) (v:=?_) rfl (Or.inl ⟨by rfl,?_⟩) f ?_;rotate_left
   ·intro j r;have i1:=(show Ext o j from r).cell_some f4 id;have m3:=(show Ext o j from r).cell_some f5 id;(try dsimp only at r);go_simp;try with_reducible rfl
   try simp only [Act.put,pq]
   refine tE 11 74 f ?_;refine tE 12 75 f ?_;refine tE 13 76 f ?_;refine tkE (i:=14) (d:=77) (v:=?_) rfl (Or.inl ⟨by rfl,?_⟩) f ?_;rotate_left
   ·intro j r;have i1:=(show Ext o j from r).cell_some f6 id;have m3:=(show Ext o j from r).cell_some f7 id;(try dsimp only at r);go_simp;try with_reducible rfl
   try simp only [Act.put,pq]
   refine rE [15] ?_;refine Qb.cons rfl (fun K hK=>?_) Qb.nil;refine iw rfl ?_;go_simp;refine(s2.out f1 (p.out.trans f)).mono ?_;rintro e i9 ⟨rfl,a4⟩;have a1:Ext o i9:=f.trans a4;refine hK _ _ a1 (fun _=>?_);clear hK K f a4;try simp only [Act.put,pq]
   refine tE 16 79 a1 ?_;refine tE 17 13 a1 ?_;refine Z1 kz ?_ _;have i3:=Zh (p.out.trans a1);have a8:=Zh (Qe A.out a1);clear a1;clear c5 f4 f5 f6 f7 A;go_wp2;exact⟨⟨q+1,by omega,tz,⟨rfl,rfl,rfl,rfl,rfl,rfl,rfl,by rw [i6.out];rfl,rfl⟩,a8.out,i3.out⟩,nz⟩
  ·have a6:Pa m us (B,C) (D,F) (q+1)=true:=by rw [e9.out];rfl
   have i6:=Zh a6;clear a6 e9;go_upto_region 27 with (fail)
   have f:Ext o o.drew:=(Qa.refl _ o).drew;refine Z7 (S:=fun j=>Ext o j) [] kz f ?_;intro _;obtain⟨f1,b0⟩:=zE o.drew;rw [b0] at f ⊢;clear b0;refine tE 0 63 f ?_;refine tE 1 64 f ?_;refine tkE (i:=2) (d:=65) (v:=undef) rfl (Or.inr ⟨by rfl,rfl⟩) f ?_;try simp only [Act.put,pq]
   refine tkE (i:=3) (d:=66) (v:=undef) rfl (Or.inr ⟨by rfl,rfl⟩) f ?_;try simp only [Act.put,pq]
   refine tkE (i:=4) (d:=67) (v:=undef) rfl (Or.inr ⟨by rfl,rfl⟩) f ?_;try simp only [Act.put,pq]
   refine tkE (i:=5) (d:=68) (v:=undef) rfl (Or.inr ⟨by rfl,rfl⟩) f ?_;try simp only [Act.put,pq]
   refine tkE (i:=6) (d:=69) (v:=undef) rfl (Or.inr ⟨by rfl,rfl⟩) f ?_;try simp only [Act.put,pq]
   refine tkE (i:=7) (d:=70) (v:=undef) rfl (Or.inr ⟨by rfl,rfl⟩) f ?_;try simp only [Act.put,pq]
   refine tkE (i:=8) (d:=71) (v:=undef) rfl (Or.inr ⟨by rfl,rfl⟩) f ?_;try simp only [Act.put,pq]
   refine tkE (i:=9) (d:=72) (v:=undef) rfl (Or.inr ⟨by rfl,rfl⟩) f ?_;try simp only [Act.put,pq]
   refine tkE (i:=10) (d:=73) (v:=undef) rfl (Or.inr ⟨by rfl,rfl⟩) f ?_;try simp only [Act.put,pq]
   refine tkE (i:=11) (d:=74) (v:=undef) rfl (Or.inr ⟨by rfl,rfl⟩) f ?_;try simp only [Act.put,pq]
   refine tkE (i:=12) (d:=75) (v:=undef) rfl (Or.inr ⟨by rfl,rfl⟩) f ?_;try simp only [Act.put,pq]
   refine tkE (i:=13) (d:=76) (v:=undef) rfl (Or.inr ⟨by rfl,rfl⟩) f ?_;try simp only [Act.put,pq]
   refine tkE (i:=14) (d:=77) (v:=undef) rfl (Or.inr ⟨by rfl,rfl⟩) f ?_;try simp only [Act.put,pq]
   refine tkE (i:=15) (d:=78) (v:=undef) rfl (Or.inr ⟨by rfl,rfl⟩) f ?_;try simp only [Act.put,pq]
   refine tE 16 79 f ?_;refine tE 17 13 f ?_;refine Z1 kz ?_ _;have i3:=Zh (p.out.trans f);have a8:=Zh (Qe A.out f);clear f;clear c5 f4 f5 f6 f7 A;go_wp2;exact⟨⟨q+1,by omega,tz,⟨rfl,rfl,rfl,rfl,rfl,rfl,rfl,by rw [i6.out];rfl,rfl⟩,a8.out,i3.out⟩,nz⟩
 obtain rfl:q=k:=by omega
 have y:¬ (q:Int)<(q:Int):=by omega
 have p9:Pa m us (B,C) (D,F) q=x i g:=by rw [s5.out];exact Qhw (by rw [d4.out];exact Nat.le_refl _)
 rw [p9];clear p9;obtain⟨u4,d9⟩:=zE (x i g);rw [d9];have m8:=Zh d9;clear d9;cases u4;case true=>
  have r1:Hc x i G g=G:=Cb (.inl m8.out);have a2:=A.out;rw [<-r1,<-n8.out] at a2;have t8:=Zh a2;clear a2 r1 A;go_wp2;exact⟨⟨g+1,by omega,X,W,by simp,t8.out,p.out⟩,nz⟩
 obtain⟨x2,rfl⟩:=Dh A.out;have g3:=Q42 (l:=G) (k:=i) (by rw [c4.out];omega);have e0:=Q42 (l:=G) (k:=g) (by rw [c4.out];omega);have k8:∀ z,z<G.length->G.getD z 0<=i:=fun z I=>by rw [List.getD_eq_getElem?_getD,List.getElem?_eq_getElem I];exact t2.out _ (List.getElem_mem I)
 have v5:=k8 i (by rw [c4.out];omega);have v6:=k8 g (by rw [c4.out];omega);have l4:(Z5 G).length=i+1:=by unfold Z5;rw [List.length_map];exact c4.out
 have f2:=A.out.cellAt i oz;have f3:=A.out.cellAt g oz;rw [Dv (by rw [l4];omega),g3] at f2;rw [Dv (by rw [l4];omega),e0] at f3;have g8:Hc x i G g=Vq G (G.getD i 0) (G.getD g 0):=Q72 m8.out;obtain⟨v9,q5⟩:=zE (G.getD i 0);obtain⟨w0,q6⟩:=zE (G.getD g 0);rw [q5] at f2 v5 g8;rw [q6] at f3 v6 g8;have v3:(i:Int)<(i:Int)+1:=by omega
 have v4:(g:Int)<(i:Int)+1:=by omega
 have u3:=Zh (n8.out.trans g8);clear g3 e0 k8 l4 g8 q5 q6 y;go_upto_region 29 with (fail)
 have f:Ext o o.drew:=(Qa.refl _ o).drew;refine Z7 (S:=fun j=>Ext o j) [] kz f ?_;intro _;obtain⟨f1,b0⟩:=zE o.drew;rw [b0] at f ⊢;clear b0;refine tE 0 82 f ?_;refine tE 1 83 f ?_;refine tE 2 84 f ?_;refine tE 3 85 f ?_;refine tkE (i:=4) (d:=86) (v:=?_) rfl (Or.inl ⟨by rfl,?_⟩) f ?_;rotate_left
 ·intro j r;have i1:=(show Ext o j from r).cell_some f2 id;(try dsimp only at r);go_simp;try with_reducible rfl
 try simp only [Act.put,pq]
 refine tE 5 87 f ?_;refine tE 6 88 f ?_;refine tE 7 89 f ?_;refine tkE (i:=8) (d:=90) (v:=?_) rfl (Or.inl ⟨by rfl,?_⟩) f ?_;rotate_left
 ·intro j r;have i1:=(show Ext o j from r).cell_some f3 id;(try dsimp only at r);go_simp;try with_reducible rfl
 try simp only [Act.put,pq]
 refine rE [9] ?_;refine Qb.cons rfl (fun K hK=>?_) Qb.nil;refine iw rfl ?_;go_simp;refine(Qem ((Rd.of_own A.out).ext f) c4.out oz v9 w0 oz oz).mono ?_;rintro e i9 ⟨vo,vc,rfl,e3,a4⟩;have a1:Ext o i9:=f.trans a4;have q8:=Zz e3 (show Y<=f1.heap.size by have:=p.out.size;have:=f.size;have:=f0.out;omega);have a8:=Zh q8;refine hK _ _ a1 (fun _=>?_);clear hK K f a4 e3 q8;try simp only [Act.put,pq]
 refine tE 10 10 a1 ?_;refine Z1 kz ?_ _;have s9:=Zh (p.out.trans a1);clear a1;have l6:=a8.out;rw [<-u3.out] at l6;have t7:=Zh l6;clear l6 f2 f3 A a8 v3 v4;go_wp2;exact⟨⟨g+1,vo,vc,by omega,tz,⟨rfl,rfl,rfl,rfl,rfl,rfl,rfl⟩,t7.out,s9.out⟩,nz⟩
def Qco(w:World)(v:Value)(vs:List Value):Prop:=Rd w v vs.length 1 vs/\∀ u∈vs,∃ ao n c,u=.slice ao n c/\n<=maxLen
def Q2t(u:Value):Prop:=∀ ao n c,u=.slice ao n c->n<=50
def Qlk(P:Prop)(w:World)(e:Ending)(w':World):Prop:=∃ b:Bool,e=.returned (.bool b)/\(b=true->P)/\Ext w w'
theorem Qdo(ao:Option Addr)(n c:Nat)(w:World):Calls Tryz.prog 82 #[.slice ao n c] w fun e w'=>e=.returned (.bool (decide (50<n)))/\Ext w w':=by
 by_cases a:50<n
 ·have b:(n:Int) > 50:=by omega
  rw [decide_eq_true a];go_enter Tryz.func82,Tryz.ntmps82;go_wp2;go_ret;exact⟨rfl,Qa.refl _ _⟩
 ·have b:¬ (n:Int) > 50:=by omega
  rw [decide_eq_false a];go_enter Tryz.func82,Tryz.ntmps82;go_wp2;go_ret;exact⟨rfl,Qa.refl _ _⟩
theorem Q9r{w:World}{ao:Option Addr}{N cap:Nat}{vs:List Value}(p:Qco w (.slice ao N cap) vs) (n:vs.length=N) :
  Calls Tryz.prog 121 #[.slice ao N cap,.func (.func 82) #[] #[]] w fun e w'=>∃ z:Int,e=.returned (.int .i64 z)/\(z<0->∀ u∈vs,Q2t u)/\Ext w w':=by
 have k:=p.1;rw [n] at k;have K:=k.2.1;unfold maxLen at K;obtain⟨E,H,t⟩:=Zh3 k p.2 n;clear p n k;go_enter Tryz.func121,Tryz.ntmps121;go_wp2
 refine wp_loop (fun b m=>∃(a:Nat),a<=N/\b.defers=[]/\gS b [0,1,7,8]=(19,[.slice ao N cap,.func (.func 82) #[] #[],.int .i64 N,.int .i64 a])/\(∀ u∈vs.take a,Q2t u)/\Ext w m)
  (fun b _=>N - (intOf (b.tmps.getD 8 undef)).toNat) ?_ ?_
 ·exact⟨0,by omega,rfl,rfl,by simp,Qa.refl _ _⟩
 rintro⟨Y,_⟩ m ⟨a,V,J,C,c,v⟩;subst J;obtain⟨u,rfl⟩:=Qo C;clear C;have f:=Zh v;have l:=Zh c;clear v c;by_cases A:a<N
 ·have I:(a:Int)<(N:Int):=by omega
  have T:(0:Int)<=(a:Int):=by omega
  have i:a<vs.length:=by rw [t.out];exact A
  obtain⟨S,X,R,B,U,o⟩:=Zb (E.out.ext f.out) A;simp only [zV,true_and] at B;obtain⟨rfl,rfl⟩:=B;rw [List.getD_eq_getElem?_getD,List.getElem?_eq_getElem i,Option.getD_some] at o;obtain⟨O,r,M,q,L⟩:=H.out _ (List.getElem_mem i);rw [q] at o;unfold maxLen at L
  have d:r<=50->∀ u∈vs.take (a+1),Q2t u:=fun g u j=>by
   rw [List.take_succ_eq_append_getElem i,List.mem_append,List.mem_singleton] at j;rcases j with j | rfl
   ·exact l.out u j
   ·intro b W Q e;rw [q] at e;cases e;exact g
  have F:=Zh d;clear q i d;go_wp2_with fail;refine(Qdo O r M m).mono ?_;rintro e P ⟨rfl,x⟩;have s:=Zh (f.out.trans x);clear f x o;by_cases y:50<r
  ·rw [decide_eq_true y];go_wp2;go_ret;exact⟨_,rfl,fun g=>by omega,s.out⟩
  ·have d:=F.out oz;have G:=Zh d;clear d;rw [decide_eq_false y];go_wp2;exact⟨⟨a+1,by omega,tz,rfl,G.out,s.out⟩,nz⟩
 ·obtain rfl:a=N:=by omega
  have I:¬ (a:Int)<(a:Int):=by omega
  have c:∀ u∈vs,Q2t u:=by
   have g:=l.out
   rwa [List.take_of_length_le (by rw [t.out];exact Nat.le_refl _)] at g
  have D:=Zh c;clear c l;go_wp2;go_ret;exact⟨_,rfl,fun _=>D.out,f.out⟩
theorem Qcv{w:World}{ao:Option Addr}{N cap:Nat}{vs:List Value}(f:Qco w (.slice ao N cap) vs) (d:vs.length=N) :
  Calls Tryz.prog 81 #[.slice ao N cap,.func (.func 82) #[] #[]] w fun e w'=>∃ b:Bool,e=.returned (.bool b)/\(b=false->∀ u∈vs,Q2t u)/\Ext w w':=by
 have a:=Zh (Q9r f d (cap:=cap));clear f d;go_enter Tryz.func81,Tryz.ntmps81;go_wp2_with fail;refine a.out.mono ?_;rintro e k ⟨l,rfl,g,c⟩;have i:=Zh c;have j:=Zh g;clear a c g;go_wp2;go_ret;exact⟨_,rfl,fun h=>j.out (by simpa using h),i.out⟩
theorem Qfh{w:World}{ao:Option Addr}{N cap:Nat}{vs:List Value}(e:Qco w (.slice ao N cap) vs) (c:vs.length=N) :
  Calls Tryz.prog 39 #[.slice ao N cap] w (Qlk (∀ u∈vs,Q2t u) w):=by
 have a:=Zh (Qcv e c (cap:=cap));clear e c;go_enter Tryz.func39,Tryz.ntmps39;go_wp2_with fail;refine a.out.mono ?_;rintro j k ⟨i,rfl,d,b⟩;have g:=Zh b;have f:=Zh d;clear a b d;go_wp2;go_ret;exact⟨_,rfl,fun h=>f.out (by simpa using h),g.out⟩
theorem Q71(l:List Nat):Z5 l=Zd (l.map fun(x:Nat)=>(x:Int)):=by simp [Z5,Zd]
attribute [local go_sem high] Fd
theorem Q5t{w:World}:∀ {vs:List Value} {us:List Wd},Y1 w vs us->vs.length=us.length/\∀ u∈vs,∃ ao n c,u=.slice ao n c/\n<=maxLen
 | [],[],_=>⟨rfl,fun _ h=>by cases h⟩
 | [],_::_,h=>by cases h
 | _::_,[],h=>by cases h
 | v::vs,u::us,h=>by
  obtain⟨⟨ao,c,rfl,hw,_⟩,h2⟩:=h;obtain⟨h3,h4⟩:=Q5t h2;refine⟨by simp [h3],fun x hx=>?_⟩;rcases List.mem_cons.1 hx with rfl | hx
  ·exact⟨_,_,_,rfl,hw.1.2.1⟩
  ·exact h4 x hx
theorem Q98{w:World}{c:Option Addr}{N b:Nat}{us:List Wd}(h:Gc w (.slice c N b) us) (e:us.length=N):∃ vs,Qco w (.slice c N b) vs/\vs.length=N:=by
 obtain⟨vs,f,g⟩:=h;obtain⟨a,d⟩:=Q5t g;exact⟨vs,⟨by rw [a];exact f,d⟩,by rw [a,e]⟩
theorem Q5b{w:World}{ps:Zl}{lo:Option Addr}{n lc:Nat}(B:Zk w (.slice lo n lc) ps) (C:ps.length=n) (e2:n<=lc) {I:Option Addr} {N t:Nat} {us:List Wd} (k:Gc w (.slice I N t) us) (A:us.length=N) (g3:N<=t) {a3:Option Addr} {M H:Nat} {ss:Wd} (G:Qd w (.slice a3 M H) ss) (F:ss.length=M) (d5:M<=H) (Z:Tab w) :
  Calls Tryz.prog 11 #[.slice lo n lc,.slice I N t,.slice a3 M H] w fun e w'=>e=.returned (.bool true)/\Ext w w':=by
 have d7:N<=maxLen:=by obtain⟨vs,E,_⟩:=k;rw [<-A];exact E.2.1
 have e3:n<=maxLen:=by rw [<-C];exact B.1.2.1
 have d6:M<=maxLen:=by rw [<-F];exact G.1.2.1
 unfold maxLen at d7 e3 d6;have a0:=fun(V:World) (g:Ext w V)=>Cr (B.ext g) C (k.ext g) A (G.ext g) F d5 (Z.keep g id) (lc:=lc);have a2:=fun(V:World) (g:Ext w V)=>Q5h (B.ext g) C (k.ext g) A (G.ext g) F (lc:=lc);have c1:=Q0k B C e2;obtain⟨o,b7⟩:=zE (Vw (ps.map (·.1)) us ss);obtain⟨a5,g⟩:=zE (Xh (ps.map (·.1)) us ss);simp only [b7,g] at a0 a2;clear b7 g;obtain⟨p,r,a6,j,K,m⟩:=Zh6 a0 a2 c1 k A Z;clear a0 a2 c1 B C k A G F Z;obtain⟨i,d4⟩:=zE (min N 41);have g1:i<=N:=by omega
 have e1:min (N:Int) 41=(i:Int):=by omega
 have g0:i<=t:=by omega
 go_enter Tryz.func11,Tryz.ntmps11;go_wp2
 refine wp_loop (fun a b1=>∃(d:Nat) (z:Int),d<=i/\a.defers=[]/\(a.tmps.size=92/\a.tmps.getD 0 undef=.slice lo n lc/\a.tmps.getD 1 undef=.slice I N t/\a.tmps.getD 2 undef=.slice a3 M H/\a.tmps.getD 7 undef=.int .i64 z/\a.tmps.getD 18 undef=.slice I i t/\a.tmps.getD 19 undef=.int .i64 i/\a.tmps.getD 20 undef=.int .i64 d)/\b1=w)
  (fun a _=>i - (intOf (a.tmps.getD 20 undef)).toNat) ?_ ?_
 ·exact⟨0,0,by omega,rfl,⟨rfl,rfl,rfl,rfl,rfl,by simp,rfl,rfl⟩,rfl⟩
 clear d4 e1;rintro⟨e6,_⟩ b1 ⟨d,z,g4,d9,⟨c4,Q,R,U,X,S,T,W⟩,d8⟩;subst d9;obtain⟨e7,k⟩:=Qq c4;obtain⟨u,rfl⟩:∃ x,x=e7:=⟨_,rfl⟩;have e4:e6=#[u 0,u 1,u 2,u 3,u 4,u 5,u 6,u 7,u 8,u 9,u 10,u 11,u 12,u 13,u 14,u 15,u 16,u 17,u 18,u 19,u 20,u 21,u 22,u 23,u 24,u 25,u 26,u 27,u 28,u 29,u 30,u 31,u 32,u 33,u 34,u 35,u 36,u 37,u 38,u 39,u 40,u 41,u 42,u 43,u 44,u 45,u 46,u 47,u 48,u 49,u 50,u 51,u 52,u 53,u 54,u 55,u 56,u 57,u 58,u 59,u 60,u 61,u 62,u 63,u 64,u 65,u 66,u 67,u 68,u 69,u 70,u 71,u 72,u 73,u 74,u 75,u 76,u 77,u 78,u 79,u 80,u 81,u 82,u 83,u 84,u 85,u 86,u 87,u 88,u 89,u 90,u 91]:=k;clear k;subst e4;change u 0=_ at Q;change u 1=_ at R;change u 2=_ at U;change u 7=_ at X;change u 18=_ at S;change u 19=_ at T;change u 20=_ at W;rw [Q,R,U,X,S,T,W];clear Q R U X S T W c4;subst d8;by_cases g5:d<i;case pos=>
  have E:(d:Int)<(i:Int):=by omega
  have f8:(0:Int)<=(d:Int):=by omega
  have b9:d<N:=by omega
  have c0:d<us.length:=by rw [K.out];exact b9
  obtain⟨vs,a1,c7⟩:=j.out;rw [K.out] at a1;obtain⟨f7,g8,f6,s,e0,b8⟩:=Zb a1 b9;simp only [zV,true_and] at s;obtain⟨rfl,rfl⟩:=s;obtain⟨i0,g9,c5,e5⟩:=Lk c7 c0;rw [c5] at b8;obtain⟨f5,c8⟩:=zE (us[d].length);rw [c8] at b8;obtain⟨i1,g6⟩:=zE (IntKind.i64.wrap (z+(f5:Int)));clear a1 c7 c5 e5 c8 e0 c0;go_wp2;exact⟨⟨d+1,by omega,by simp;omega⟩,nz⟩
 obtain rfl:d=i:=by omega
 have E:¬ (d:Int)<(d:Int):=by omega
 go_wp2_with fail;refine a6.out.mono ?_;rintro e J ⟨P,rfl,b3⟩;have f:=Zh b3;clear b3 a6 E;cases P
 ·clear p r j;go_wp2_with fail;refine(Jk J (m.out.keep f.out id)).mono ?_;rintro e y ⟨rfl,b⟩;have c:=Zh (f.out.trans b);clear b;go_wp2;go_ret;exact⟨rfl,c.out⟩
 have d2:(n:Int)<=6\/((n:Int) > 6/\¬ (n:Int)<=64)\/((n:Int) > 6/\(n:Int)<=64):=by omega
 rcases d2 with b2 | ⟨b2,d1⟩ | ⟨b2,d1⟩
 rotate_left 2
 ·clear p r j;go_wp2_with fail;refine(Jk J (m.out.keep f.out id)).mono ?_;rintro e y ⟨rfl,b⟩;have c:=Zh (f.out.trans b);clear b;go_wp2;go_ret;exact⟨rfl,c.out⟩
 all_goals
  by_cases f9:(N:Int) > 40;case pos=>
   clear p r j;go_wp2_with fail;refine(Jk J (m.out.keep f.out id)).mono ?_;rintro e y ⟨rfl,b⟩;have c:=Zh (f.out.trans b);clear b;go_wp2;go_ret;exact⟨rfl,c.out⟩
  have d3:z<=40\/(z > 40/\¬ (N:Int)<=32)\/(z > 40/\(N:Int)<=32):=by omega
  rcases d3 with c9 | ⟨c9,d0⟩ | ⟨c9,d0⟩
  rotate_left 2
  ·clear p r j;go_wp2_with fail;refine(Jk J (m.out.keep f.out id)).mono ?_;rintro e y ⟨rfl,b⟩;have c:=Zh (f.out.trans b);clear b;go_wp2;go_ret;exact⟨rfl,c.out⟩
  all_goals
   obtain⟨vs,c3,c6⟩:=Q98 (j.out.ext f.out) K.out;have a9:=Zh (Qfh c3 c6);clear c3 c6;go_wp2_with fail;refine a9.out.mono ?_;rintro e a4 ⟨P,rfl,_,b4⟩;have l:=Zh (f.out.trans b4);clear b4 a9 f;cases P
   ·clear j;go_wp2_with fail;refine(Jk a4 (m.out.keep l.out id)).mono ?_;rintro e y ⟨rfl,b⟩;have c:=Zh (l.out.trans b);clear b;go_wp2;go_ret;exact⟨rfl,c.out⟩
   by_cases g2:(M:Int) > 20
   ·clear j;go_wp2_with fail;refine(Jk a4 (m.out.keep l.out id)).mono ?_;rintro e y ⟨rfl,b⟩;have c:=Zh (l.out.trans b);clear b;go_wp2;go_ret;exact⟨rfl,c.out⟩
   go_wp2_with fail;refine(p.out a4 l.out).mono ?_;rintro e f2 ⟨f0,e8,rfl,D,b5⟩;have b0:=Zh (Rd.of_own D);have L:=Zh (l.out.trans b5);clear D b5 p l;go_wp2_with fail;refine(r.out f2 L.out).mono ?_;rintro e f3 ⟨f1,e9,rfl,D,Y⟩;have a7:=Zh (L.out.trans Y);have s:=Q2n (w:=f3) (u:=.slice f0 o.length e8) (v:=.slice f1 o.length e9) (us:=o.map fun(x:Nat)=>(x:Int)) (vs:=o.map fun(x:Nat)=>(x:Int)) (by rw [<-Q71,List.length_map];exact b0.out.ext Y) (by rw [<-Q71,List.length_map];exact Rd.of_own D);rw [decide_eq_true rfl] at s;have O:=Zh s;clear D Y r L s b0;obtain⟨g7,c2⟩:=zE o.length;rw [c2] at O ⊢;clear c2;go_wp2_with fail;refine O.out.mono ?_;rintro e f4 ⟨rfl,b6⟩;have a8:=Zh (a7.out.trans b6);clear b6 a7 O;go_wp2_with fail;refine(Jk f4 (m.out.keep a8.out id)).mono ?_;rintro e y ⟨rfl,b⟩;have c:=Zh (a8.out.trans b);clear b;go_wp2;go_ret;exact⟨rfl,c.out⟩
end Go.Proofs.YtejenndedjabhaaGreatDoor
