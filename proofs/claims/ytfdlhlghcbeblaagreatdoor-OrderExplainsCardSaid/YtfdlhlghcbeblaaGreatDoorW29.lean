/- ablautlaw14.has, all. ablautlaw14.by. -/
import Derived.Test.YtfdlhlghcbeblaaGreatDoorW20
import Derived.Test.YtfdlhlghcbeblaaGreatDoorW26
set_option maxRecDepth 100000
set_option maxHeartbeats 16000000
namespace Go.Proofs.YtfdlhlghcbeblaaGreatDoor
open Go.RowKit Go.Ab
attribute [local go_sem] Oper.semAt_some Z1 Qk
theorem Qbf{ol:List Nat}{x k:Nat}(b:k<ol.length)(a:ol[k]=x):ol.contains x=true:=by
 rw [List.contains_iff_mem,<-a];exact List.getElem_mem b
theorem Q9l{ol:List Nat}{x:Nat}(h:R7 ol x ol.length):ol.contains x=false:=by
 cases hc:ol.contains x with
 | false=>rfl
 | true=>
  rw [List.contains_iff_mem] at hc;obtain⟨c,a,b⟩:=List.getElem_of_mem hc;exact absurd b (h c a a)
theorem Q6t{w:World}{oo:Option Addr}{c oc:Nat}{ol:List Nat}{x:Nat}(t:Rd w (.slice oo c oc) c 1 (Qd ol)) (u:ol.length=c) :
  Calls Tryz.prog 107 #[.slice oo c oc,.int .i64 (x:Int)] w fun e w'=>e=.returned (.bool (ol.contains x))/\w'=w:=by
 have P:c<=maxLen:=t.2.1;unfold maxLen at P;obtain⟨i,k⟩:=zE (ol.contains x);rw [k];have d:∀ b (s:b<ol.length),R7 ol x b->ol[b]=x->i=true:=fun b s h r=>by rw [<-k];exact Qbf s r
 have B:R7 ol x c->i=false:=fun h=>by rw [<-k];exact Q9l (by rwa [u])
 obtain⟨p,K,m,o⟩:=Zh4 t u d B;clear t u k d B;go_enter Tryz.func107,Tryz.ntmps107;go_wp2
 refine wp_loop (fun a z=>∃(b:Nat),b<=c/\a.defers=[]/\gS a [0,1,5]=(18,[.slice oo c oc,.int .i64 (x:Int),.int .i64 b])/\R7 ol x b/\z=w)
  (fun a _=>((c:Int) - intOf (a.tmps.getD 5 undef)).toNat) ?_ ?_
 ·exact⟨0,by omega,rfl,rfl,fun j _ h=>by omega,rfl⟩
 rintro⟨W,_⟩ z ⟨b,s,N,I,J,M⟩;subst N;obtain⟨X,rfl⟩:=Qq I;clear I;have g:=Zh J;subst M;clear J;by_cases D:b<c;case neg=>
  obtain rfl:b=c:=by omega
  have r:¬ (b:Int)<(b:Int):=by omega
  have v:=o.out g.out;subst v;clear m o p;go_wp2;go_ret;exact⟨rfl,rfl⟩
 have r:(b:Int)<(c:Int):=by omega
 have U:(0:Int)<=(b:Int):=by omega
 have C:b<ol.length:=by rw [K.out];exact D
 obtain⟨T,V,S,F,O,A⟩:=Xk (p.out) D;simp only [zV] at F;obtain⟨rfl,Q,rfl⟩:=F;have E:(Qd ol).getD b undef=.int .i64 (ol[b]:Int):=by unfold Qd;rw [List.getD_eq_getElem?_getD,List.getElem?_map,List.getElem?_eq_getElem C];rfl
 rw [E] at A;obtain⟨f,y⟩:=zE (ol[b]);have d:=m.out b C g.out
 have H:f≠x->R7 ol x (b+1):=fun h j hj hjk=>by
  by_cases e:j=b
  ·subst e;rw [y];exact h
  ·exact g.out j hj oz
 rw [y] at A d;have n:=Zh d;have q:=Zh H;clear d H y Q E O m o p g;by_cases l:f=x
 ·have v:=n.out l;subst v;have R:((f:Int) ==(x:Int))=true:=by rw [beq_iff_eq];omega
  clear n q l;go_wp2;go_ret;exact⟨rfl,rfl⟩
 ·have G:=q.out l;have R:((f:Int) ==(x:Int))=false:=by rw [beq_eq_false_iff_ne];omega
  have L:=Zh G;clear G q n l;go_wp2;exact⟨⟨b+1,by omega,tz,rfl,L.out,by first | trivial | rfl⟩,mz⟩
def Xf(n:Nat)(L:List (List Nat)) (i:Nat):List (List Nat):=(L.take i).flatMap fun o=>(Xd n o).map fun x=>o++[x]
def Xh(r:List (List Nat)) (o:List Nat) (x:Nat):List (List Nat):=r++(Xd x o).map fun x=>o++[x]
theorem Nb{n:Nat}{L:List (List Nat)} {i:Nat} (a:i<L.length):Xf n L (i+1)=Xh (Xf n L i) L[i] n:=by
 unfold Xf Xh;rw [List.take_succ_eq_append_getElem a,List.flatMap_append];simp
theorem Pd(n:Nat)(L:List (List Nat)):Xf n L L.length=Ub n L:=by
 unfold Xf Ub;rw [List.take_of_length_le (Nat.le_refl _)]
theorem Mu(r:List (List Nat)) (o:List Nat):Xh r o 0=r:=by simp [Xh,Xd]
theorem Q3l{r:List (List Nat)} {o:List Nat} {x:Nat} (h:o.contains x=true):Xh r o (x+1)=Xh r o x:=by
 unfold Xh Xd;rw [List.range_succ,List.filter_append];simp only [List.filter_cons,h,Bool.not_true,List.filter_nil];simp
theorem Q3i{r:List (List Nat)} {o:List Nat} {x:Nat} (h:o.contains x=false):Xh r o (x+1)=Xh r o x++[o++[x]]:=by
 unfold Xh Xd;rw [List.range_succ,List.filter_append];simp only [List.filter_cons,h,Bool.not_false,List.filter_nil];simp
theorem P9(r:List (List Nat)) (o:List Nat) (x:Nat):(Xh r o x).length<=r.length+x:=by
 unfold Xh Xd;rw [List.length_append,List.length_map];have:=List.length_filter_le (fun i=>!o.contains i) (List.range x);rw [List.length_range] at this;omega
theorem R3(n:Nat)(L:List (List Nat)) (i:Nat):(Xf n L i).length<=i*n:=by
 induction i with
 | zero=>simp [Xf]
 | succ i ih=>
  by_cases a:i<L.length
  ·rw [Nb a,Nat.succ_mul];exact Nat.le_trans (P9 _ _ _) oz
  ·have:Xf n L (i+1)=Xf n L i:=by
    unfold Xf;rw [List.take_of_length_le oz,List.take_of_length_le oz]
   rw [this,Nat.succ_mul];omega
theorem R1(n:Nat)(hn:n<=4):∀ k,(Yp n k).length<=4 ^ k
 | 0=>Nat.le_refl _
 | k+1=>by
  have h1:=R1 n hn k;have h2:=R3 n (Yp n k) (Yp n k).length;rw [Pd] at h2;show (Ub n (Yp n k)).length<=_;rw [Nat.pow_succ];exact Nat.le_trans h2 (Nat.mul_le_mul h1 hn)
theorem Sm(n:Nat):∀ k,∀ o∈Yp n k,o.length=k
 | 0,o,h=>by rw [show Yp n 0=[[]] from rfl,List.mem_singleton] at h;subst h;rfl
 | k+1,o,h=>by
  have h:o∈Ub n (Yp n k):=h;unfold Ub at h;obtain⟨p,hp,h⟩:=List.mem_flatMap.1 h;obtain⟨x,_,rfl⟩:=List.mem_map.1 h;rw [List.length_append,Sm n k p hp];rfl
def Hp(W:World)(v:Value)(L:List (List Nat)):Prop:=∃ ao c,v=.slice ao L.length c/\Za W v L
theorem Hp.ext{A B:World}{v:Value}{L:List (List Nat)} (h:Hp A v L) (a:Ext A B):Hp B v L:=by
 obtain⟨b,c,rfl,l,f,g⟩:=h;exact⟨b,c,rfl,l,f.ext a,fun i hi=>by obtain⟨e,d,j,k⟩:=g i hi;exact⟨e,d,j,k.ext a⟩⟩
theorem Xr.grid{X:Nat}{W:World}{ao:Option Addr}{c:Nat}{L:List (List Nat)} (h:Xr X (fun _=>False) W ao c L):Hp W (.slice ao L.length c) L:=by
 obtain⟨j,d,_,e⟩:=h;refine⟨ao,c,rfl,j,Rd.of_own d,fun i hi=>?_⟩;obtain⟨b,a,f,g,_⟩:=e.2 i hi;exact⟨b,a,f,Rd.of_own g⟩
def Qby(n:Nat)(w:World)(a:Act)(W:World):Prop:=∃(k:Nat) (v:Value),k<=n/\a.defers=[]/\gS a [0,3,4]=(47,[.int .i64 (n:Int),v,.int .i64 k])/\Hp W v (Yp n k)/\Ext w W
def Qaq(n X k Z:Nat)(gv:Value)(L:List (List Nat)) (W:World) (a:Act) (V:World):Prop:=∃(i:Nat) (ao:Option Addr) (c:Nat),i<=Z/\a.defers=[]/\gS a [0,3,4,5,6]=(47,[.int .i64 (n:Int),gv,.int .i64 k,.slice ao (Xf n L i).length c,.int .i64 i])/\Xr X (fun _=>False) V ao c (Xf n L i)/\Ext W V
def Qbc(n X k i:Nat)(gv:Value)(r:List (List Nat)) (o:List Nat) (W:World) (a:Act) (V:World):Prop:=∃(x:Nat) (ao:Option Addr) (c:Nat),x<=n/\a.defers=[]/\gS a [0,3,4,5,6,7]=(47,[.int .i64 (n:Int),gv,.int .i64 k,.slice ao (Xh r o x).length c,.int .i64 i,.int .i64 x])/\Xr X (fun _=>False) V ao c (Xh r o x)/\Ext W V
theorem Er{w:World}{n:Nat}(k2:n<=4) :
  Calls Tryz.prog 50 #[.int .i64 (n:Int)] w fun e w'=>∃ v,e=.returned v/\Hp w' v (Qa n)/\Ext w w':=by
 have k0:=Q1x n;have a2:=R1 n k2;have k1:=Sm n;rw [<-k0];have k8:∀ c,Yp n (c+1)=Ub n (Yp n c):=fun c=>rfl;obtain⟨V,d0,d9⟩:=Zh3 a2 k1 k8;clear k0 a2 k1 k8;go_enter Tryz.func50,Tryz.ntmps50;go_upto_region 3 with (fail)
 have u:((w.alloc (.cells #[] 3)).alloc (.cells #[.slice (some ⟨w.heap.size,0,none⟩) 0 0] 48)).ownsRow w.heap.size 48 1 (.slice (some ⟨(w.alloc (.cells #[] 3)).heap.size,0,none⟩) 1 1) 1 [.slice (some ⟨w.heap.size,0,none⟩) 0 0]:=Q93 zy _;have e8:((w.alloc (.cells #[] 3)).alloc (.cells #[.slice (some ⟨w.heap.size,0,none⟩) 0 0] 48)).ownsRow w.heap.size 3 1 (.slice (some ⟨w.heap.size,0,none⟩) 0 0) 0 []:=Qe (World.ownsRow_lit w #[] 0 (Nat.le_refl _) (by unfold maxLen;omega) rfl) ((Q0.refl _ _).alloc _);obtain⟨c2,b9⟩:=zE ((w.alloc (.cells #[] 3)).alloc (.cells #[.slice (some ⟨w.heap.size,0,none⟩) 0 0] 48));have Q:Ext w c2:=by rw [<-b9];exact((Q0.refl _ w).alloc _).alloc _
 rw [b9] at u e8;have i4:c2.ownsRow w.heap.size 48 1 (.slice (some ⟨w.heap.size+1,0,none⟩) 1 1) 1 [.slice (some ⟨w.heap.size,0,none⟩) 0 0]:=by simpa using u
 have H:Hp c2 (.slice (some ⟨w.heap.size+1,0,none⟩) 1 1) [[]]:=⟨some ⟨w.heap.size+1,0,none⟩,1,rfl,[.slice (some ⟨w.heap.size,0,none⟩) 0 0],Rd.of_own i4,fun f f4=>by
  obtain rfl:f=0:=by simpa using f4
  exact⟨_,_,rfl,Rd.of_own e8⟩⟩
 have H:Hp c2 (.slice (some ⟨w.heap.size+1,0,none⟩) 1 1) (Yp n 0):=H;clear i4;rw [b9];have O:=Zh H;have U:=Zh Q;clear u e8 H Q b9;refine wp_loop (Qby n w) (fun a _=>((n:Int) - intOf (a.tmps.getD 4 undef)).toNat) ?_ ?_
 ·exact⟨0,_,by omega,rfl,(Prod.ext rfl (lE rfl (lE (by first | rfl | (simp;done)) rfl))),O.out,U.out⟩
 clear O U;rintro⟨l3,_⟩ a9 ⟨c,v,n7,Z,A,H,i6⟩;subst Z;obtain⟨M,rfl⟩:=Qq A;clear A;have O:=Zh H;have g1:=Zh i6;clear H i6;by_cases n8:c<n;case neg=>
  obtain rfl:c=n:=by omega
  have e6:¬ (c:Int)<(c:Int):=by omega
  clear V d0 d9;go_wp2;go_ret;exact⟨_,rfl,O.out,g1.out⟩
 have e6:(c:Int)<(n:Int):=by omega
 have j0:=V.out c;have n5:4 ^ c<=256:=by
  have:c=0\/c=1\/c=2\/c=3:=by omega
  rcases this with rfl | rfl | rfl | rfl <;> decide
 have f0:=d0.out c;have m:=d9.out c;obtain⟨d,i8⟩:=zE (Yp n c);have a0:=O.out;rw [i8] at j0 f0 m a0;obtain⟨m3,i0,rfl,a0⟩:=a0;obtain⟨c7,d1,g6⟩:=Zh3 a0 f0 m;have i9:d.length<=256:=by omega
 clear j0 f0 m a0 i8 O V d0 d9;obtain⟨s,j8⟩:=zE a9.heap.size;have g8:=Zh j8;clear j8;go_wp2;refine wp_loop (Qaq n s c d.length (.slice m3 d.length i0) d a9) (fun a _=>((d.length:Int) - intOf (a.tmps.getD 6 undef)).toNat) ?_ ?_
 ·exact⟨0,none,0,by omega,rfl,rfl,⟨[],World.ownsRow_nil _ _ _ _,fun _ _ h=>h,rfl,fun f h=>by simp [Xf] at h⟩,Q0.refl _ _⟩
 rintro⟨l3,_⟩ g9 ⟨f,F,G,f4,Z,A,g,X⟩;subst Z;obtain⟨M,rfl⟩:=Qq A;clear A;have l:=Zh g;have j:=Zh X;clear g X;by_cases a1:f<d.length;case neg=>
  obtain rfl:f=d.length:=by omega
  have e7:¬ (d.length:Int)<(d.length:Int):=by omega
  have J:Hp g9 (.slice F (Xf n d d.length).length G) (Yp n (c+1)):=by rw [g6.out,<-Pd];exact l.out.grid
  have P:=Zh J;obtain⟨e1,I⟩:=zE d.length;rw [I] at e7 ⊢;rw [I] at J;have P:=Zh J;clear J I l c7 d1 g6 i9 f4 a1;obtain⟨p,a3⟩:=zE ((Xf n d e1).length);rw [a3] at P ⊢;clear a3;go_wp2;exact⟨⟨c+1,_,by omega,tz,rfl,P.out,g1.out.trans j.out⟩,mz⟩
 have e7:(f:Int)<(d.length:Int):=by omega
 have n4:(0:Int)<=(f:Int):=by omega
 obtain⟨l4,k9,k7⟩:=c7.out;obtain⟨m5,m4,i1,e2⟩:=k7 f a1;obtain⟨i2,l0,n3,k5,_,Y⟩:=Xk k9 a1;simp only [zV] at k5;obtain⟨rfl,n0,rfl⟩:=k5;rw [i1] at Y;have b5:=d1.out _ (List.getElem_mem a1);have b8:=Nb (n:=n) a1;have T:=R3 n d f;obtain⟨o,k3⟩:=zE (d[f]);rw [k3] at Y e2 b5 b8;rw [b5] at Y e2;obtain⟨e1,I⟩:=zE d.length;rw [I] at e7 i9 ⊢;have m1:=Zh I;obtain⟨r,f5⟩:=zE (Xf n d f);rw [f5] at b8 T ⊢;have S:=l.out;rw [f5] at S;have m9:r.length<=1024:=by
  have:f*n<=256*4:=Nat.mul_le_mul oz k2;omega
 obtain⟨a4,a6,d7,a8,D⟩:=Zh5 Y e2 b5 b8 S;clear Y e2 i1 b5 b8 T k3 f5 S k9 k7 n0 I l d1 c7;obtain⟨o2,f6⟩:=zE r.length;have d8:=Zh f6;rw [f6] at m9 ⊢;clear f6;go_wp2;refine wp_loop (Qbc n s c f (.slice (some ⟨i2,l0,none⟩) e1 i0) r o a9) (fun a _=>((n:Int) - intOf (a.tmps.getD 7 undef)).toNat) ?_ ?_
 ·exact⟨0,F,G,by omega,rfl,(Prod.ext rfl (lE rfl (lE rfl (lE rfl (lE (by rw [Mu,d8.out];rfl) rfl))))),by rw [Mu];exact D.out,j.out⟩
 clear D j;rintro⟨l3,_⟩ g9 ⟨x,F,G,n9,Z,A,g,X⟩;subst Z;obtain⟨M,rfl⟩:=Qq A;clear A;have l:=Zh g;have j:=Zh X;clear g X;by_cases o0:x<n;case neg=>
  obtain rfl:x=n:=by omega
  have m6:¬ (x:Int)<(x:Int):=by omega
  have g:=l.out;rw [<-a8.out] at g ⊢;have D:=Zh g;obtain⟨p,a3⟩:=zE ((Xf x d (f+1)).length);have n2:=Zh a3;clear g a3 l a8 a4 a6 d7 d8;go_wp2;exact⟨⟨f+1,F,G,by omega,tz,(Prod.ext rfl (lE rfl (lE (by first | rfl | (rw [m1.out];rfl)) rfl))),D.out,j.out⟩,mz⟩
 have m6:(x:Int)<(n:Int):=by omega
 have b2:=j.out.cell_some a4.out id;have f2:=a6.out.ext j.out;have f3:=Q6t (x:=x) f2 d7.out;have b3:=Q3l (r:=r) (o:=o) (x:=x);have b4:=Q3i (r:=r) (o:=o) (x:=x);have T:=P9 r o x;rw [d8.out] at T;obtain⟨m2,j3⟩:=zE (o.contains x);rw [j3] at f3 b3 b4;obtain⟨e0,f1⟩:=zE (Xh r o x);rw [f1] at b3 b4 T ⊢;obtain⟨L,f7⟩:=zE e0.length;have g:=l.out;rw [f1] at g;rw [f7] at T ⊢;obtain⟨g2,c8,c9,a7,d6,l7,c6⟩:=Zh7 f3 b3 b4 f7 g b2 f2;clear f3 b3 b4 f7 g f1 j3 l f2;go_wp2_with fail;refine g2.out.mono ?_;rintro e i ⟨rfl,rfl⟩;clear g2;cases m2 with
 | true=>
  have m:=c8.out rfl;have W:=Zh m;clear m c8 c9 b2 l7 c6 a8 a4 a6;go_wp2;exact⟨⟨x+1,F,G,by omega,tz,(Prod.ext rfl (lE rfl (lE rfl (lE rfl (lE (by rw [W.out,a7.out];rfl) rfl))))),by rw [W.out];exact d6.out,j.out⟩,mz⟩
 | false=>
  have m:=c9.out rfl;have W:=Zh m;clear m c8 c9 a8 a4 a6;obtain⟨q,e9⟩:=zE i.heap.size;have m7:s<=q:=by have:=j.out.size;have:=g8.out;omega
  have i3:(i.alloc (.cells #[] 3)).ownsRow q 3 1 (.slice (some ⟨i.heap.size,0,none⟩) 0 0) 0 []:=by rw [<-e9];exact World.ownsRow_lit i #[] 0 (Nat.le_refl _) (by unfold maxLen;omega) rfl
  have g0:=Zh i3;have a5:=Zh e9;have k4:∀ M∈Qd o,M.oneCell'=true:=fun M K=>by obtain⟨_,_,rfl⟩:=List.mem_map.1 K;rfl
  have g4:=Zh k4;have m8:(i.alloc (.cells #[] 3)).cell? ⟨i2,l0+f,none⟩=some (.slice m5 c m4):=(show Ext i (i.alloc (.cells #[] 3)) from(Q0.refl _ i).alloc _).cell_some b2 id;clear i3 k4 e9 b2
  go_wp2_with (at_builtin;refine Ut rfl (.tmp 34) (.tmp 38) 48 rfl q 3 _ 1 8 Tryz.underlying48 Q1m rfl zd _ 0 [] rfl g0.out _ c _ (Qd o) rfl (c6.out.ext ((Q0.refl _ i).alloc _)) g4.out ?c3 ?c4 ?c5 ?_)
  case c3=>unfold maxLen;omega
  case c4=>omega
  case c5=>have:=a5.out;first | omega | (simp;omega)
  intro l6 l5 E R j4 _;try rw [Nat.zero_add,List.nil_append] at R
  have R:E.ownsRow q 3 1 (.slice l6 c l5) c (Qd o):=R;have Q:Ext i E:=Q0.after ((Q0.refl _ i).alloc (.cells #[] 3)) j4 (fun b hb e=>by simp only [Value.ownBlock,Option.some.injEq] at e;omega);have S:=Qe R ((Q0.refl _ E).alloc (.cells #[.int .i64 (x:Int)] 3));obtain⟨D,g3,U⟩:=Zh3 S R Q;have n6:q<=E.heap.size:=by have:=Q.size;have:=a5.out;omega
  clear R S Q j4 g0 c6 g4 m8;try rw [Nat.zero_add]
  go_wp2_with (at_builtin;refine Zi rfl (.tmp 39) (.tmp 41) 48 rfl q 3 _ 1 8 Tryz.underlying48 Q1m rfl zd _ _ _ rfl D.out ⟨E.heap.size,0,none⟩ 1 1 [.int .i64 (x:Int)] rfl rfl (Zp rfl) ?d2 ?d3 ?d4 ?d5 ?_)
  case d2=>first | rfl | (intro M K;simp only [List.mem_cons,List.not_mem_nil,or_false] at K;rcases K with rfl;rfl)
  case d3=>unfold maxLen;omega
  case d4=>omega
  case d5=>first | omega | (simp;omega)
  intro C B k b1 j5 _;have j6:Q0 (fun b'=>(Value.slice l6 c l5).ownBlock=some b') E k:=Q0.trans (Q0.alloc (Q0.refl _ E) _) j5;have b0:Ext i k:=U.out.after j6 (fun b' e6 e=>by have:=(g3.out.lt _ e).1;have:=a5.out;omega);rw [<-X8] at b1;obtain⟨c0,b6⟩:=zE (o++[x]);have b7:c0.length=c+1:=by rw [<-b6,List.length_append,d7.out];rfl
  rw [b6] at b1;have f8:=W.out;rw [b6] at f8;have g7:=Zh f8;have n1:=Zh b7;have u:Ext k (k.alloc (.cells #[.slice C (c+1) B] 48)):=(Q0.refl _ k).alloc _;obtain⟨l4,c1,l1,l2⟩:=d6.out.ext (b0.trans u);have f9:=c1;rw [a7.out] at f9;have k6:(k.alloc (.cells #[.slice C (c+1) B] 48)).ownsRow s 3 1 (.slice C c0.length B) c0.length (Qd c0):=by rw [b7];exact Xl (Qe b1 u) m7
  have J:∀(t:Option Addr) (c5:Nat) (N:World),N.ownsRow s 48 1 (.slice t (L+1) c5) (L+1) (l4++[.slice C (c+1) B])->Q0 (fun b'=>(Value.slice F L G).ownBlock=some b') (k.alloc (.cells #[.slice C (c+1) B] 48)) N->((Value.slice t (L+1) c5).ownBlock=(Value.slice F L G).ownBlock\/(Value.slice t (L+1) c5).ownBlock=some (k.alloc (.cells #[.slice C (c+1) B] 48)).heap.size)->Xr s (fun _=>False) N t c5 (Xh r o (x+1))/\Ext a9 N:=fun t c5 N q1 q2 q3=>by
   have o1:=q2;rw [<-a7.out] at q1 q2 q3;refine⟨by rw [g7.out];exact Xr.push c1 l1 l2 k6 (fun _ _ h=>h) (fun _ h=>h.elim) (by rw [b7];exact q1) q2 q3,?_⟩;exact(j.out.trans (b0.trans u)).after q2 fun b' e6 e=>by have:=(c1.lt _ e).1;have:=g8.out;omega
  have a2:(Xh r o (x+1)).length=L+1:=by rw [g7.out,List.length_append,a7.out];rfl
  have j9:s<=(k.alloc (.cells #[.slice C (c+1) B] 48)).heap.size:=by have:=b0.size;have:=a5.out;simp;omega
  obtain⟨P,g5,V,m0⟩:=Zh4 J f9 a2 j9;clear f8 u c1 l1 l2 f9 k6 J a2 j9 b1 j5 j6 b0 b7 b6 D g3 U d6 W
  go_wp2_with (at_builtin;refine Zi rfl (.tmp 33) (.tmp 43) 27 rfl s 48 _ 1 24 Tryz.underlying27 Q4h rfl zd _ _ _ rfl g5.out ⟨k.heap.size,0,none⟩ 1 1 [.slice C (c+1) B] rfl rfl (Zp rfl) ?e2 ?e3 ?e4 ?e5 ?_)
  case e2=>first | rfl | (intro M K;simp only [List.mem_cons,List.not_mem_nil,or_false] at K;rcases K with rfl;rfl)
  case e3=>unfold maxLen;omega
  case e4=>omega
  case e5=>simpa using m0.out
  intro t c5 N j1 j7 i5;obtain⟨j2,i7⟩:=P.out t c5 N j1 j7 (by simpa using i5);have l9:=Zh j2;have l8:=Zh i7;clear j2 i7 j1 j7 i5 g5 P;go_wp2;exact⟨⟨x+1,t,c5,by omega,tz,(Prod.ext rfl (lE rfl (lE rfl (lE rfl (lE (by rw [V.out];rfl) rfl))))),l9.out,l8.out⟩,mz⟩
def U5(B:List Bool)(k:Nat):Int:=if B.findIdx (fun b=>!b)<k then(B.findIdx (fun b=>!b):Nat) else -1
theorem Q4e(B:List Bool):U5 B 0=-1:=by simp [U5]
theorem Q6a{B:List Bool}{k:Nat}(d:k<B.length)(h:B[k]=true):U5 B (k+1)=U5 B k:=by
 unfold U5
 have:B.findIdx (fun b=>!b)≠k:=fun e=>by
  have a:B.findIdx (fun b=>!b)<B.length:=by omega
  have c:=List.findIdx_getElem (p:=fun b=>!b) (w:=a);simp only [e,h] at c;cases c
 by_cases a:B.findIdx (fun b=>!b)<k
 ·rw [if_pos a,if_pos oz]
 ·rw [if_neg a,if_neg oz]
theorem Q2n{B:List Bool}{k:Nat}(e:k<B.length)(h:B[k]=false):U5 B (k+1)=if U5 B k<0 then(k:Int) else U5 B k:=by
 unfold U5;by_cases a:B.findIdx (fun b=>!b)<k
 ·rw [if_pos a,if_pos oz,if_neg oz]
 ·have d:B.findIdx (fun b=>!b)<=k:=by
   apply Nat.le_of_not_lt;intro c;have:=List.not_of_lt_findIdx c;simp [h] at this
  rw [if_neg a,if_pos oz,if_pos zd];omega
theorem Q7g{ps:Qg}{qs:Q8}{ol:List Nat}:U5 (Z8 ps ol qs) qs.length=byI ps ol qs:=by
 have c:(Z8 ps ol qs).length=qs.length:=by unfold Z8;rw [List.length_map]
 have d:(Z8 ps ol qs).findIdx (fun b=>!b)<=(Z8 ps ol qs).length:=List.findIdx_le_length;unfold U5 byI J3;by_cases a:(Z8 ps ol qs).findIdx (fun b=>!b)=qs.length
 ·rw [if_neg oz,if_pos a]
 ·rw [if_pos oz,if_neg a]
theorem Qaj(B:List Bool)(k:Nat):-1<=U5 B k/\U5 B k<k:=by
 unfold U5
 split <;> omega
theorem Q1n{w:World}{ps:Qg}{qs:Q8}{lo:Option Addr}{n lc:Nat}{i6:Option Addr}{j xc:Nat}{ol:List Nat}{b5:Option Addr}{m pc:Nat}(f1:Qz w (.slice lo n lc) ps) (f3:ps.length=n) (n7:Rd w (.slice i6 j xc) j 1 (Qd ol)) (b3:ol.length=j) (f6:∀ x∈ol,x<n) (s9:j<=1000) (X:Z3 w (.slice b5 m pc) qs) (W:qs.length=m) (m3:Tab w) :
  Calls Tryz.prog 51 #[.slice lo n lc,.slice i6 j xc,.slice b5 m pc] w fun e w'=>e=.returned (.tuple #[.int .i64 (V4 ps qs ol:Nat),.int .i64 (byI ps ol qs)])/\Ext w w':=by
 have f2:=Cm (ps:=ps) (ol:=ol) fun x h=>by rw [f3];exact f6 x h
 have q8:m<=maxLen:=by rw [<-W];exact X.1.2.1
 unfold maxLen at q8;have e6:=fun(u:World) (v:Option Addr) (g:Nat) (S:Ext w u) (b0:Rd u (.slice v j g) j 18 ((Yj ps ol).flatMap (·.2))) (D:World) (q:Ext u D) (vo:Option Addr) (vc:Nat) (a1:Wd) (hf:Qb D (.slice vo a1.length vc) a1)=>Q2a (w:=D) (ps:=Yj ps ol) (lo:=v) (n:=j) (lc:=g) ⟨by rw [f2,b3];exact b0.ext q,fun Z X=>(f1.2 Z (Cp X)).ext (S.trans q)⟩ (by rw [f2,b3]) hf rfl (m3.keep (S.trans q) id);obtain⟨f,R⟩:=zE (Z8 ps ol qs);have l5:f.length=m:=by rw [<-R];unfold Z8;rw [List.length_map,W]
 have e2:∀ b (y:b<qs.length),∃ h:b<f.length,f[b]=(decide (Gc ((Yj ps ol).map (·.1)) qs[b].1.1=0) && decide (Ga ((Yj ps ol).map (·.1)) qs[b].1.1=qs[b].1.2)):=fun b y=>by subst R;exact⟨by unfold Z8;rw [List.length_map];exact y,by unfold Z8 Gl;rw [List.getElem_map]⟩
 have n0:V4 ps qs ol=f.countP id:=by unfold V4;rw [R]
 have m8:byI ps ol qs=U5 f m:=by rw [<-Q7g,R,W]
 rw [n0,m8];obtain⟨k9,m0⟩:=zE ((Yj ps ol).map (·.1));simp only [m0] at e6 e2;have m7:=Q4e f;have M:=fun b (y:b<f.length) (h:f[b]=true)=>Q6a y h;have N:=fun b (y:b<f.length) (h:f[b]=false)=>Q2n y h;have m9:=fun b (y:b<f.length)=>Q1u y;have T:=Qaj f;obtain⟨j3,j7,j9,k0,c8,k7,k2,j8⟩:=Zh8 e6 f1 f3 n7 b3 f6 X W;obtain⟨c0,b9,b6,b7,b8,c6,c1⟩:=Zh7 l5 e2 m7 M N m9 T;clear e6 f1 f3 n7 b3 f6 X W l5 e2 m7 M N m9 T n0 m8 R m0 m3 f2;go_enter Tryz.func51,Tryz.ntmps51;obtain⟨d5,m6⟩:=zE w.heap.size;have k8:=Zh m6;clear m6;go_wp2
 refine wp_loop (fun a p=>∃(b:Nat) (v:Option Addr) (g:Nat),b<=j/\a.defers=[]/\gS a [0,1,2,8,9]=(65,[.slice lo n lc,.slice i6 j xc,.slice b5 m pc,.slice v b g,.int .i64 b])/\p.ownsRow d5 102 18 (.slice v b g) b ((Yj ps (ol.take b)).flatMap (·.2))/\Ext w p)
  (fun a _=>((j:Int) - intOf (a.tmps.getD 9 undef)).toNat) ?_ ?_
 ·exact⟨0,_,_,by omega,rfl,rfl,World.ownsRow_nil _ _ _ _,Q0.refl _ _⟩
 rintro⟨r4,_⟩ p ⟨b,v,g,y,e7,Y,b0,S⟩;subst e7;obtain⟨a1,rfl⟩:=Qq Y;clear Y;have O:=Zh b0;have t:=Zh S;clear b0 S;by_cases n5:b<j;case pos=>
  have l4:(b:Int)<(j:Int):=by omega
  have Q:(0:Int)<=(b:Int):=by omega
  have f0:b<ol.length:=by rw [c8.out];exact n5
  obtain⟨s4,t3,s2,n8,q6,U⟩:=Xk (k0.out.ext t.out) n5;simp only [zV] at n8;obtain⟨rfl,q9,rfl⟩:=n8;have n6:(Qd ol).getD b undef=.int .i64 (ol[b]:Int):=by unfold Qd;rw [List.getD_eq_getElem?_getD,List.getElem?_map,List.getElem?_eq_getElem f0];rfl
  rw [n6] at U;have o5:ol[b]<n:=k7.out _ (List.getElem_mem f0);have b4:ol[b]<ps.length:=by rw [j9.out];exact o5
  have A:=Q3n f0 b4;obtain⟨l3,o7,s1,z,e8,s,V,a7⟩:=(j7.out.ext t.out).at b4;simp only [zV] at z;obtain⟨rfl,r0,rfl⟩:=z;obtain⟨x,f7⟩:=zE (ol[b]);simp only [f7] at U o5 A s V a7;obtain⟨Z,n9⟩:∃ Z,ps[x]'(by rw [<-f7];exact b4)=Z:=⟨_,rfl⟩;rw [n9] at A s V a7;obtain⟨t5,t4⟩:=Z;dsimp only at A s V a7;obtain⟨g7,g0,i2,g2,g5,d6,d8,g8,d0,e0,g1,i3,g3,g6,d7,d9,g9,d1,c2,f9,d2,f8,i1,d3,i0,g4,rfl,p2,q1,q2,p1,q0,p8,p4,p5,p6,p7,p3,t6,t7,t8,t9,u0⟩:=Y9 V;have o2:(Yj ps (ol.take (b+1))).flatMap (·.2)=(Yj ps (ol.take b)).flatMap (·.2)++[.string g7,.int .i64 g0,.int .u32 (i2:Int),.int .u32 (g2:Int),.bool g5,.int .i64 d6,.int .i64 d8,.slice g8 d0 e0,.int .i64 g1,.int .u32 (i3:Int),.int .u32 (g3:Int),.bool g6,.int .i64 d7,.int .i64 d9,.slice g9 d1 c2,.slice f9 d2 f8,.slice i1 d3 i0,.int .i64 g4]:=by rw [A,List.flatMap_append];simp
  obtain⟨k5,k4,j2⟩:=Zh3 o2 s U;have t1:(0:Int)<=(x:Int):=by omega
  have t2:(x:Int)<(n:Int):=by omega
  have t0:=t.out.size;clear A o2 s V a7 n9 f7 b4 n6 q9 r0 e8 q6 q1 q2 p1 q0 p2 p8 p4 p5 p6 p7 p3;have l9:=Qe O.out ((Q0.refl _ p).alloc (.cells #[.string g7,.int .i64 g0,.int .u32 (i2:Int),.int .u32 (g2:Int),.bool g5,.int .i64 d6,.int .i64 d8,.slice g8 d0 e0,.int .i64 g1,.int .u32 (i3:Int),.int .u32 (g3:Int),.bool g6,.int .i64 d7,.int .i64 d9,.slice g9 d1 c2,.slice f9 d2 f8,.slice i1 d3 i0,.int .i64 g4] 102));have k1:=Zh l9;have U:=j2.out;have s6:d5<=p.heap.size:=by have:=t.out.size;have:=k8.out;omega
  clear l9
  go_wp2_with (first | (at_builtin;refine Zi rfl (.tmp 21) (.tmp 29) 26 rfl d5 102 _ 18 200 Tryz.underlying26 Q8j rfl zd _ _ _ rfl k1.out ⟨p.heap.size,0,none⟩ 1 1 [.string g7,.int .i64 g0,.int .u32 (i2:Int),.int .u32 (g2:Int),.bool g5,.int .i64 d6,.int .i64 d8,.slice g8 d0 e0,.int .i64 g1,.int .u32 (i3:Int),.int .u32 (g3:Int),.bool g6,.int .i64 d7,.int .i64 d9,.slice g9 d1 c2,.slice f9 d2 f8,.slice i1 d3 i0,.int .i64 g4] rfl rfl (Zp rfl) ?c2 ?c3 ?c4 ?c5 ?_) | (refine Yn (by rfl) 102 (.tmp 27) rfl l3 (o7+x*18) zr _ _ k4.out Tryz.underlying102 rfl kz ?_))
  case c2=>first | (repeat (first | rfl | refine⟨rfl,?_⟩)) | (intro u6 o6;simp only [List.mem_cons,List.not_mem_nil,or_false] at o6;rcases o6 with rfl | rfl | rfl | rfl | rfl | rfl | rfl | rfl | rfl | rfl | rfl | rfl | rfl | rfl | rfl | rfl | rfl | rfl <;> rfl)
  case c3=>unfold maxLen;omega
  case c4=>omega
  case c5=>first | omega | (simp;omega)
  intro r9 c5 r5 e3 m4 _;have m5:Q0 (fun b'=>(Value.slice v b g).ownBlock=some b') p r5:=Q0.trans (Q0.alloc (Q0.refl _ p) _) m4;have l7:=t.out.after m5 (fun b' l4 e=>by have:=(O.out.lt _ e).1;have:=k8.out;omega);rw [<-k5.out] at e3;have p9:=Zh e3;have p0:=Zh l7;clear e3 l7 m4 m5 k1 O t k4 j2 U k5;go_wp2;exact⟨⟨b+1,_,_,by omega,tz,rfl,p9.out,p0.out⟩,mz⟩
 obtain rfl:b=j:=by omega
 have l4:¬ (b:Int)<(b:Int):=by omega
 have f4:=Rd.of_own O.out;rw [List.take_of_length_le (by rw [c8.out];exact Nat.le_refl _)] at f4;have c7:=Zh (j3.out p v g t.out f4);clear f4 j3 j7 j9 k0 c8 k7 O;go_wp2
 refine wp_loop (fun a u=>∃(c:Nat),c<=m/\a.defers=[]/\gS a [2,8,10,11,12]=(65,[.slice b5 m pc,.slice v b g,.int .i64 ((f.take c).countP id:Nat),.int .i64 (U5 f c),.int .i64 c])/\Ext p u)
  (fun a _=>((m:Int) - intOf (a.tmps.getD 12 undef)).toNat) ?_ ?_
 ·exact⟨0,by omega,rfl,(Prod.ext rfl (lE rfl (lE rfl (lE zy (lE (by rw [b6.out];rfl) rfl))))),Q0.refl _ _⟩
 rintro⟨r4,_⟩ u ⟨c,s7,e7,Y,l8⟩;subst e7;obtain⟨a1,rfl⟩:=Qq Y;clear Y;have a3:=Zh l8;clear l8;have e5:(f.take c).countP id<=c:=Nat.le_trans List.countP_le_length (by rw [List.length_take];omega);have T:=c1.out c;by_cases q7:c<m;case neg=>
  obtain rfl:c=m:=by omega
  have q5:¬ (c:Int)<(c:Int):=by omega
  rw [List.take_of_length_le (by rw [c0.out];exact Nat.le_refl _)] at e5 ⊢;obtain⟨i7,J⟩:=zE (f.countP id);obtain⟨H,K⟩:=zE (U5 f c);rw [J,K];have o8:=Zh J;have o9:=Zh K;clear c7 k2 j8 c0 b9 b6 b7 b8 c6 c1 T J K e5;go_wp2;go_ret2;exact⟨by rw [o8.out,o9.out];rfl,t.out.trans a3.out⟩
 have q5:(c:Int)<(m:Int):=by omega
 have s8:(0:Int)<=(c:Int):=by omega
 have n4:c<qs.length:=by rw [j8.out];exact q7
 obtain⟨e9,a8⟩:=b9.out c n4;have A:=c6.out c e9;have M:=b7.out c e9;have N:=b8.out c e9;obtain⟨l3,o7,s0,z,s,⟨a1,u5,n1,r1,r2⟩,r6⟩:=J5.at (Qj k2.out (t.out.trans a3.out)) n4;replace z:=z zd;obtain⟨z,e8⟩:=z;simp only [zV] at z;obtain⟨rfl,r3,rfl⟩:=z;rw [n1] at s;obtain⟨q4,q3,rfl,o3,r7⟩:=r1;obtain⟨u2,u1,rfl,o4,r8⟩:=r2;have e1:=s 0 _ rfl;have F:=s 1 _ rfl;rw [Nat.add_zero] at e1;have b1:=c7.out u a3.out q4 q3 _ o3;have b2:=fun(D:World) (q:Ext u D) (i5:Option Addr) (i4:Nat) (r:Wd) (h:Qb D (.slice i5 r.length i4) r)=>eqW h (o4.ext q);obtain⟨l1,m1⟩:=zE (Gc k9 qs[c].1.1);obtain⟨d4,m2⟩:=zE (Ga k9 qs[c].1.1);obtain⟨l0,e4⟩:=zE (qs[c].1.2);rw [m1,m2] at b1 a8;simp only [e4] at b2;rw [e4] at a8 F;obtain⟨s3,n3⟩:=zE (qs[c].1.1.length);obtain⟨u4,f5⟩:=zE l0.length;rw [n3] at b1 e1;simp only [f5] at b2;rw [f5] at F;obtain⟨i7,J⟩:=zE ((f.take c).countP id);obtain⟨H,K⟩:=zE (U5 f c);rw [J] at A e5 ⊢;rw [K] at M N T ⊢;obtain⟨k6,j1,j6,a2,i8,i9,j4⟩:=Zh7 A b1 b2 a8 M N F;clear A b1 b2 a8 M N s n3 f5 r3 n1 o3 o4 r6 r7 r8 e8 J K m1 m2 e4 b9 b6 b7 b8 c6 c1 c7 c0 F;go_wp2_with fail;refine j1.out.mono ?_;rintro e l2 ⟨_,rfl,⟨i5,i4,rfl,o1,_⟩,a9⟩;have j5:=Zh a9;have G:=j6.out l2 a9 i5 i4 d4 o1;have F:=a9.cell_some j4.out id;obtain⟨u3,o0⟩:=zE d4.length;rw [o0] at G ⊢;have c9:=Zh G;clear G a9 o1 j1 j6 o0 j4 e1
 have n2:∀(k:Bool) (P:World),f[c]=k->Ext u P->((f.take (c+1)).countP id=i7+if k=true then 1 else 0)/\U5 f (c+1)=(if k=true then H else if H<0 then(c:Int) else H)/\Ext p P:=fun k P L hV=>by
  refine⟨by rw [k6.out,L],?_,a3.out.trans hV⟩;cases k with
  | true=>rw [i8.out L,if_pos rfl]
  | false=>rw [i9.out L,if_neg Bool.false_ne_true]
 have a4:=Zh n2;clear n2 k6 i8 i9;by_cases Q:l1=0
 ·subst Q;have B:=a2.out;rw [decide_eq_true rfl,Bool.true_and] at B;obtain⟨k,L⟩:=zE (decide (d4=l0));have G:=c9.out;rw [L] at B G;have j0:=Zh B;have k3:=Zh G;clear B G L a2 c9;go_wp2_with fail;refine k3.out.mono ?_;rintro e P ⟨rfl,l6⟩;obtain⟨i,d,a0⟩:=a4.out k P j0.out (j5.out.trans l6);obtain⟨a5,a6,I⟩:=Zh3 i d a0;clear i d a0 l6 a4 k3 j0 F;cases k with
  | true=>
   have i:=a5.out;have d:=a6.out;rw [if_pos rfl] at i d;have C:=Zh i;have o:=Zh d;clear i d a5 a6;go_wp2;exact⟨⟨c+1,by omega,tz,(Prod.ext rfl (lE rfl (lE rfl (lE (by rw [C.out];rfl) (lE (by rw [o.out];rfl) rfl))))),I.out⟩,mz⟩
  | false=>
   have i:=a5.out;have d:=a6.out;rw [if_neg Bool.false_ne_true] at i d;rw [Nat.add_zero] at i;have C:=Zh i;have o:=Zh d;clear i d a5 a6;by_cases q:H<0
   ·have d:=o.out;rw [if_pos q] at d;have E:=Zh d;clear d o;go_wp2;exact⟨⟨c+1,by omega,tz,(Prod.ext rfl (lE rfl (lE rfl (lE (by rw [C.out];rfl) (lE (by rw [E.out];rfl) rfl))))),I.out⟩,mz⟩
   ·have d:=o.out;rw [if_neg q] at d;have E:=Zh d;clear d o;go_wp2;exact⟨⟨c+1,by omega,tz,(Prod.ext rfl (lE rfl (lE rfl (lE (by rw [C.out];rfl) (lE (by rw [E.out];rfl) rfl))))),I.out⟩,mz⟩
 ·have s5:(l1 == 0)=false:=by rw [beq_eq_false_iff_ne];exact Q
  have B:=a2.out;rw [decide_eq_false Q,Bool.false_and] at B;obtain⟨i,d,a0⟩:=a4.out false l2 B j5.out;rw [if_neg Bool.false_ne_true] at i d;rw [Nat.add_zero] at i;obtain⟨C,o,I⟩:=Zh3 i d a0;clear i d a0 B a4 c9 a2 F Q;by_cases q:H<0
  ·have d:=o.out;rw [if_pos q] at d;have E:=Zh d;clear d o;go_wp2;exact⟨⟨c+1,by omega,tz,(Prod.ext rfl (lE rfl (lE rfl (lE (by rw [C.out];rfl) (lE (by rw [E.out];rfl) rfl))))),I.out⟩,mz⟩
  ·have d:=o.out;rw [if_neg q] at d;have E:=Zh d;clear d o;go_wp2;exact⟨⟨c+1,by omega,tz,(Prod.ext rfl (lE rfl (lE rfl (lE (by rw [C.out];rfl) (lE (by rw [E.out];rfl) rfl))))),I.out⟩,mz⟩
end Go.Proofs.YtfdlhlghcbeblaaGreatDoor
