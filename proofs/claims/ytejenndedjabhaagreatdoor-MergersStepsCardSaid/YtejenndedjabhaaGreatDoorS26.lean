/- The document's to. -/
import Derived.Test.YtejenndedjabhaaGreatDoorS21
import Derived.Test.YtejenndedjabhaaGreatDoorS25
set_option maxRecDepth 100000
set_option maxHeartbeats 16000000
namespace Go.Proofs.YtejenndedjabhaaGreatDoor
open Go.RowKit Go.Ab
attribute [local go_sem] Oper.semAt_some Zm Qv
set_option maxHeartbeats 4000000 in
theorem Qdr{w:World}{ao:Option Addr}{N cap i:Nat}{sh:List Int}(l:Rd w (.slice ao N cap) N 1 (Z3 sh)) (q:sh.length=N) :
  Calls Tryz.prog 87 #[.slice ao N cap,.int .i64 i] w fun e w'=>e=.returned (.bool (toB sh i))/\w'=w:=by
 have E:=l.2.1;unfold maxLen at E;have B:=Zh l;have m:=Zh q;clear l q;go_enter Tryz.func87,Tryz.ntmps87;go_wp2
 refine wp_loop (fun a p=>∃(b:Nat),b<=N/\a.defers=[]/\gS a [0,1,5]=(23,[.slice ao N cap,.int .i64 i,.int .i64 b])/\(List.range b).any (fun b=>decide (b≠i) && decide (sh.getD b (-1)=i))=false/\p=w)
  (fun a _=>N - (intOf (a.tmps.getD 5 undef)).toNat) ?_ ?_
 ·exact⟨0,by omega,rfl,rfl,by simp,rfl⟩
 rintro⟨Q,_⟩ p ⟨b,L,D,y,u,rfl⟩;subst D;obtain⟨R,rfl⟩:=Qc y;clear y;have n:=Zh u;clear u;by_cases s:b<N
 ·have C:(b:Int)<(N:Int):=by omega
  have H:(0:Int)<=(b:Int):=by omega
  have k:b<sh.length:=by rw [m.out];exact s
  obtain⟨F,P,G,v,I,r⟩:=Z7 B.out s;simp only [zV,true_and] at v;obtain⟨rfl,rfl⟩:=v;rw [Zi sh k] at r;have f:=Hh k (-1);obtain⟨d,z⟩:=zE (sh[b]);rw [z] at r f;clear z;have x:(List.range (b+1)).any (fun b=>decide (b≠i) && decide (sh.getD b (-1)=i))=(decide (b≠i) && decide (d=i)):=by
   rw [List.range_succ,List.any_append,n.out];simp only [List.any_cons,List.any_nil,Bool.or_false,Bool.false_or,f]
  have o:=Zh x;have A:=Zh f;clear x f;by_cases t:b=i
  ·subst t;have c:Hid ((List.range (b+1)).any (fun k'=>decide (k'≠b) && decide (sh.getD k' (-1)=b))=false):=Zh (by rw [o.out];simp);go_wp2;exact⟨⟨b+1,by omega,by first | trivial | rfl,rfl,by first | exact⟨c.out,trivial⟩ | exact c.out | (simpa using c.out)⟩,nz⟩
  ·have M:((b:Int) ==(i:Int))=false:=by simp;omega
   have O:¬ (b:Int)=(i:Int):=by omega
   by_cases g:d=(i:Int)
   ·subst g;have j:Hid (toB sh i=true):=Zh (by unfold toB;exact List.any_eq_true.2 ⟨b,List.mem_range.2 k,by rw [A.out];simp [t]⟩);go_wp2;go_ret;exact⟨by rw [j.out];rfl,rfl⟩
   ·have c:Hid ((List.range (b+1)).any (fun k'=>decide (k'≠i) && decide (sh.getD k' (-1)=i))=false):=Zh (by rw [o.out];simp [g]);have J:(((b:Int) !=(i:Int)) && (d ==(i:Int)))=false:=by simp [g]
    have K:(d ==(i:Int))=false:=by simpa using g
    go_wp2;exact⟨⟨b+1,by omega,by first | trivial | rfl,rfl,by first | exact⟨c.out,trivial⟩ | exact c.out | (simpa using c.out)⟩,nz⟩
 ·obtain rfl:b=N:=by omega
  have C:¬ (b:Int)<(b:Int):=by omega
  have j:Hid (toB sh i=false):=Zh (by unfold toB;rw [m.out];exact n.out);go_wp2;go_ret;exact⟨by rw [j.out];rfl,rfl⟩
theorem Q3m{w:World}{ao:Option Addr}{N cap:Nat}{sh:List Int}(D:Rd w (.slice ao N cap) N 1 (Z3 sh)) (A:sh.length=N) :
  Calls Tryz.prog 46 #[.slice ao N cap] w fun e w'=>∃ v,e=.returned (.tuple #[v,.int .i64 (Y6 sh)])/\Y7 w.heap.size w' v (Gc sh)/\Ext w w':=by
 have f2:=D.2.1;unfold maxLen at f2;have Y:=Sj D A (cap:=cap);have W:=@Fv sh;have C:Gc sh=if Y6 sh=0 then Yb sh N else []:=by unfold Gc;rw [<-Ny,A]
 obtain⟨t,c0⟩:=zE (Y6 sh);rw [c0] at Y W C ⊢;obtain⟨b7,c8⟩:=zE (Gc sh);rw [c8] at C ⊢;obtain⟨b2,F,p,b1,I⟩:=Zh5 Y D A W C;clear Y D W c0 C c8 A;go_enter Tryz.func46,Tryz.ntmps46;go_wp2_with fail;refine b2.out.mono ?_;rintro e a8 ⟨rfl,rfl⟩;clear b2;by_cases a3:t=0;case neg=>
  have g0:(t != 0)=true:=by simpa using a3
  have m:=I.out;rw [if_neg a3] at m;subst m;go_wp2;refine bodyPost_ret (Qa rfl _ _ _) rfl ⟨_,rfl,Y7.nil _ _,Q0.refl _ _⟩
 subst a3;have m:=I.out;rw [if_pos rfl] at m;have Z:=b1.out rfl;have f7:N<=64:=by rw [<-p.out];exact Z.1
 have e1:=Zh m;have b3:=Zh Z;clear m Z I b1;obtain⟨f,d0⟩:=zE a8.heap.size;have K:=Zh d0;clear d0;go_wp2
 refine wp_loop (fun a L=>∃(c:Nat) (v:Value),c<=N/\a.defers=[]/\gS a [0,5,6]=(34,[.slice ao N cap,v,.int .i64 c])/\Y7 f L v (Yb sh c)/\Ext a8 L)
  (fun a _=>N - (intOf (a.tmps.getD 6 undef)).toNat) ?_ ?_
 ·exact⟨0,_,by omega,rfl,rfl,Y7.nil _ _,Q0.refl _ _⟩
 rintro⟨g1,_⟩ L ⟨c,v,f9,f0,d3,j,b9⟩;subst f0;obtain⟨d6,rfl⟩:=Qc d3;clear d3;obtain⟨a7,a6,rfl⟩:=j.slice;have g:=Zh j;have d:=Zh b9;clear j b9;by_cases T:c<N;case neg=>
  obtain rfl:c=N:=by omega
  have b8:¬ (c:Int)<(c:Int):=by omega
  go_wp2;refine bodyPost_ret (Qa rfl _ _ _) rfl ⟨_,rfl,by rw [e1.out,K.out];exact g.out,d.out⟩
 have b8:(c:Int)<(N:Int):=by omega
 have f1:c<sh.length:=by rw [p.out];exact T
 have S:=S1 (F.out.ext d.out) p.out T (cap:=cap);have a0:=Qdr (i:=c) (F.out.ext d.out) p.out (cap:=cap);have B:Hw sh c=(Vf sh c && !toB sh c):=rfl;have d2:=L9 b3.out f1;have e9:=P1 sh c;have U:=R9 (sh:=sh) (k:=c);have a2:=Nx (sh:=sh) (k:=c);obtain⟨x,z⟩:=zE ((Yb sh c).length);rw [z] at e9 ⊢;have G:=Zh z;have j:=g.out;rw [z] at j;clear g;have g:=Zh j;obtain⟨d8,c6⟩:=zE (Vf sh c);obtain⟨e3,c9⟩:=zE (toB sh c);rw [c6] at S B;rw [c9] at a0 B;rw [B] at U a2;obtain⟨b0,J,q,u,f6⟩:=Zh5 S a0 U a2 d2;clear S a0 U a2 d2 B c6 c9 j z;go_wp2_with fail;refine b0.out.mono ?_;rintro e e4 ⟨rfl,rfl⟩;clear b0;cases d8;case false=>
  have H:Hid (Y7 f e4 (.slice a7 x a6) (Yb sh (c+1))):=Zh (by rw [q.out rfl];exact g.out);clear J q u;go_wp2;exact⟨⟨c+1,_,by omega,by first | trivial | rfl,rfl,H.out,d.out⟩,nz⟩
 go_wp2_with fail;refine J.out.mono ?_;rintro e M ⟨rfl,rfl⟩;clear J;cases e3;case true=>
  have H:Hid (Y7 f M (.slice a7 x a6) (Yb sh (c+1))):=Zh (by rw [q.out rfl];exact g.out);clear q u;go_wp2;exact⟨⟨c+1,_,by omega,by first | trivial | rfl,rfl,H.out,d.out⟩,nz⟩
 have b5:=Zh (u.out rfl);have R:=T1 (F.out.ext d.out) p.out b3.out T (cap:=cap);have d1:f<=M.heap.size:=by have:=d.out.size;have:=K.out;omega
 obtain⟨l,P⟩:=zE (Zy sh c);rw [P] at R;have a1:=b5.out;rw [P] at a1;have a9:=Zh R;have e2:=Zh a1;clear R P a1 b5 u q;go_wp2_with fail;refine a9.out.mono ?_;rintro e s ⟨d6,rfl,o,O⟩;obtain⟨a5,a4,rfl⟩:=Qu o;have E:=Zh O;have b4:=Zh (Z9 o d1);have f8:f<=s.heap.size:=by have:=O.size;omega
 obtain⟨vs,d4,f3,d5⟩:=g.out;have r:=Zh d4;have b6:=Zh d5;clear a9 o O d4 d5 g d1;rw [G.out] at r
 go_wp2_with (at_builtin;refine Qo rfl (.tmp 27) (.tmp 31) 54 rfl f 36 _ 1 24 Tryz.underlying54 Me rfl zd _ _ _ rfl (Q6 r.out (E.out.alloc _)) ⟨s.heap.size,0,none⟩ 1 1 [.slice a5 l.length a4] rfl rfl (Qn rfl) ?c2 ?c3 ?c4 ?c5 ?_)
 case c2=>first | rfl | (intro d6 o;simp at o;rcases o with rfl;rfl)
 case c3=>unfold maxLen;omega
 case c4=>omega
 case c5=>simp;omega
 intro e6 e7 d7 c7 Q _;have y:Ext M (s.alloc (.cells #[.slice a5 l.length a4] 36)):=E.out.alloc _;have X:Y7 f d7 (.slice e6 (x+1) e7) (Yb sh c++[l]):=by
  refine Y7.push (V:=s.alloc (.cells #[.slice a5 l.length a4] 36)) (v:=.slice a7 x a6) (vs:=vs) (by rw [G.out];exact Q6 r.out y) f3 (fun i hi=>?_) (Q6 b4.out ((Q0.refl _ s).alloc _)) (by rw [G.out];exact c7) Q;obtain⟨e5,e8,f4,f5⟩:=b6.out i hi;exact⟨e5,e8,f4,Q6 f5 y⟩
 have c1:Ext a8 d7:=(d.out.trans y).after Q (fun b' b8 e=>by have:=(r.out.lt _ e).1;have:=K.out;omega);rw [<-e2.out] at X;have e0:=Zh X;have d9:=Zh c1;clear X c1 y Q c7 r b6 b4 E d;go_wp2;exact⟨⟨c+1,_,by omega,by first | trivial | rfl,rfl,e0.out,d9.out⟩,nz⟩
theorem Qa7{S:List Int}{j:Nat}{k:Nat}(a:k<S.length):((S.take (k+1)).all fun x=>decide ((j:Int)<=x))=((S.take k).all (fun x=>decide ((j:Int)<=x)) && decide ((j:Int)<=S[k])):=by
 rw [List.take_succ_eq_append_getElem a,List.all_append];simp
theorem Q3a{w:World}{ao:Option Addr}{N cap:Nat}{sh:List Int}(a0:Rd w (.slice ao N cap) N 1 (Z3 sh)) (U:sh.length=N) :
  Calls Tryz.prog 47 #[.slice ao N cap] w fun e w'=>∃ v,e=.returned (.tuple #[v,.int .i64 (Y6 sh)])/\Y7 w.heap.size w' v (Hg sh)/\Ext w w':=by
 have k8:=a0.2.1;unfold maxLen at k8;have d4:=Sj a0 U (cap:=cap);have d2:=@Fv sh;have Y:Hg sh=if Y6 sh=0 then Zz sh N else []:=by unfold Hg;rw [<-P6,U]
 obtain⟨P,g0⟩:=zE (Y6 sh);rw [g0] at d4 d2 Y ⊢;obtain⟨f4,g2⟩:=zE (Hg sh);rw [g2] at Y ⊢;obtain⟨e9,a7,x,e8,b0⟩:=Zh5 d4 a0 U d2 Y;clear d4 a0 d2 g0 Y g2 U;go_enter Tryz.func47,Tryz.ntmps47;go_wp2_with fail;refine e9.out.mono ?_;rintro e e0 ⟨rfl,rfl⟩;clear e9;by_cases A:P=0;case neg=>
  have m7:(P != 0)=true:=by simpa using A
  have F:=b0.out;rw [if_neg A] at F;subst F;go_wp2;refine bodyPost_ret (Qa rfl _ _ _) rfl ⟨_,rfl,Y7.nil _ _,Q0.refl _ _⟩
 subst A;have F:=b0.out;rw [if_pos rfl] at F;have d5:=e8.out rfl;have m0:N<=64:=by rw [<-x.out];exact d5.1
 have j6:=Zh F;have f0:=Zh d5;clear F d5 b0 e8;obtain⟨o,g4⟩:=zE e0.heap.size;have b1:=Zh g4;clear g4;go_wp2
 refine wp_loop (fun a D=>∃(j:Nat) (v:Value),j<=N/\a.defers=[]/\gS a [0,5,6]=(61,[.slice ao N cap,v,.int .i64 j])/\Y7 o D v (Zz sh j)/\Ext e0 D)
  (fun a _=>N - (intOf (a.tmps.getD 6 undef)).toNat) ?_ ?_
 ·exact⟨0,_,by omega,rfl,rfl,Y7.nil _ _,Q0.refl _ _⟩
 rintro⟨l3,_⟩ D ⟨j,v,m5,c7,M,z,f9⟩;subst c7;obtain⟨d7,rfl⟩:=Qc M;clear M;obtain⟨d9,d8,rfl⟩:=z.slice;have q:=Zh z;have m:=Zh f9;clear z f9;by_cases d1:j<N;case neg=>
  obtain rfl:j=N:=by omega
  have f6:¬ (j:Int)<(j:Int):=by omega
  go_wp2;refine bodyPost_ret (Qa rfl _ _ _) rfl ⟨_,rfl,by rw [j6.out,b1.out];exact q.out,m.out⟩
 have f6:(j:Int)<(N:Int):=by omega
 have k7:j<sh.length:=by rw [x.out];exact d1
 have c8:=T1 (a7.out.ext m.out) x.out f0.out d1 (cap:=cap);have c9:=fun(V:World) (hV:Ext D V)=>S1 ((a7.out.ext m.out).ext hV) x.out d1 (cap:=cap);have W:Di sh j=(Vf sh j && decide (sh.getD ((Zy sh j).getLastD 0).toNat (-1)=(j:Int)) && (Zy sh j).all fun k=>decide ((j:Int)<=k)):=rfl;have a2:=L9 f0.out k7;have d6:=Q2l (sh:=sh) (i:=j);have k6:=Nb sh j;have l:=Rp (sh:=sh) (k:=j);have f:=Nz (sh:=sh) (k:=j);have g5:o<=D.heap.size:=by have:=m.out.size;have:=b1.out;omega
 obtain⟨R,T⟩:=zE ((Zz sh j).length);rw [T] at k6 ⊢;have a8:=Zh T;have z:=q.out;rw [T] at z;clear q;have q:=Zh z;obtain⟨b,g3⟩:=zE (Zy sh j);rw [g3] at c8 W a2 d6 f;have i6:=a2.le;rw [x.out] at i6;obtain⟨e1,b5⟩:=zE (Vf sh j);rw [b5] at W;simp only [b5] at c9;rw [W] at l f;obtain⟨e5,I,e6,f1,j8,j7⟩:=Zh6 c8 c9 l f a2 d6;clear c8 c9 l f a2 d6 W b5 g3 z T;go_wp2_with fail;refine e5.out.mono ?_;rintro e f5 ⟨d7,rfl,G,b4⟩;obtain⟨m9,C,rfl⟩:=Qu G;have p:=Zh b4;have r:=Zh (Z9 G g5);have m1:o<=f5.heap.size:=by have:=b4.size;omega
 have l0:0<b.length:=List.length_pos_of_mem j7.out;obtain⟨c,a1⟩:∃ c,b.length=c+1:=⟨b.length - 1,by omega⟩;have Q:=Zh a1;have L:=r.out;rw [a1] at L i6 ⊢;clear r l0 e5 G b4 g5;have r:=Zh L;clear L;have i5:c<b.length:=by omega
 have g9:=Q4n a1;obtain⟨y,B,c2,i2,m2,X⟩:=Z7 (Rd.of_own r.out) (show c<c+1 by omega);simp only [zV,true_and] at i2;obtain⟨rfl,rfl⟩:=i2;rw [Zi b i5] at X;have Z:=j8.out.2 _ (List.getElem_mem i5);rw [<-g9] at Z X;obtain⟨a4,A⟩:=zE (b.getLastD 0);rw [A] at Z X;obtain⟨H,rfl⟩:∃ H:Nat,a4=(H:Int):=⟨a4.toNat,by omega⟩;rw [x.out] at Z;have i0:H<N:=by omega
 have i1:H<sh.length:=by rw [x.out];exact i0
 obtain⟨k4,l1,c3,i3,m3,c6⟩:=Z7 (a7.out.ext (m.out.trans p.out)) i0;simp only [zV,true_and] at i3;obtain⟨rfl,rfl⟩:=i3;rw [Zi sh i1] at c6;have d0:=Hh i1 (-1);obtain⟨d,i8⟩:=zE (sh[H]);rw [i8] at c6 d0;have k9:(H:Int)<(N:Int):=by omega
 have l:=e6.out;have f:=f1.out;rw [A,Int.toNat_natCast,d0] at l f;obtain⟨g,b3⟩:=zE (e1 && decide (d=(j:Int)));rw [b3] at l f;obtain⟨e7,f2,u⟩:=Zh3 l f b3;clear i8 d0 A g9 Z a1 l f e6 f1 b3;go_upto_region 9 with (fail)
 go_cut [8] from 15 to 59 (fun v8 wx=>v8=.bool g/\wx=f5)
 case first=>
  go_wp2_with fail;refine(I.out _ p.out).mono ?_;rintro e l6 ⟨rfl,rfl⟩;cases e1;case false=>
   have K:g=false:=by rw [<-u.out];rfl
   subst K;clear u I;go_wp2
   go_meet
   case rel=>exact⟨rfl,rfl⟩
  by_cases O:d=(j:Int);case neg=>
   have i9:(d ==(j:Int))=false:=by simpa using O
   have K:g=false:=by rw [<-u.out,decide_eq_false O];rfl
   subst K;clear u I;go_wp2
   go_meet
   case rel=>exact⟨rfl,rfl⟩
  have i9:(d ==(j:Int))=true:=by simpa using O
  have K:g=true:=by rw [<-u.out,decide_eq_true O];rfl
  subst K;subst O;clear u I i9;go_wp2
  go_meet
  case rel=>exact⟨rfl,rfl⟩
 obtain⟨rfl,rfl⟩:=hcut;clear u I c6 k9 X;go_wp2
 refine wp_loop (fun a s=>∃(k:Nat),k<=c+1/\a.defers=[]/\gS a [0,5,6,7,8,9]=(61,[.slice (some ⟨k4,l1,none⟩) N cap,.slice d9 R d8,.int .i64 j,.slice (some ⟨y,B,none⟩) (c+1) C,.bool (g && (b.take k).all fun d=>decide ((j:Int)<=d)),.int .i64 k])/\s=wc)
  (fun a _=>c+1 - (intOf (a.tmps.getD 9 undef)).toNat) ?_ ?_
 ·exact⟨0,by omega,rfl,(Prod.ext rfl (lE rfl (lE rfl (lE rfl (lE rfl (lE (by rw [List.take_zero,List.all_nil,Bool.and_true];rfl) rfl)))))),rfl⟩
 rintro⟨l3,_⟩ s ⟨k,m6,c7,M,rfl⟩;subst c7;obtain⟨d7,rfl⟩:=Qc M;clear M;by_cases g8:k<c+1
 ·have f7:(k:Int)<(c:Int)+1:=by omega
  have l9:(0:Int)<=(k:Int):=by omega
  have g7:k<b.length:=by rw [Q.out];exact g8
  have b8:=Qa7 (j:=j) g7;obtain⟨l8,m8,c5,i4,m4,g6⟩:=Z7 (Rd.of_own r.out) g8;simp only [zV,Option.some.injEq,Addr.mk.injEq,and_true,true_and] at i4;obtain⟨⟨rfl,rfl⟩,rfl⟩:=i4;rw [Zi b g7] at g6;obtain⟨a3,j0⟩:=zE (b[k]);rw [j0] at g6 b8;clear j0;obtain⟨t,b9⟩:=zE (g && (b.take k).all fun d=>decide ((j:Int)<=d));have c0:(g && (b.take (k+1)).all fun d=>decide ((j:Int)<=d))=(t && decide ((j:Int)<=a3)):=by rw [b8,<-Bool.and_assoc,b9]
  obtain⟨l7,c1⟩:=zE (g && (b.take (k+1)).all fun d=>decide ((j:Int)<=d));rw [c1] at c0;rw [b9];have e4:=Zh c1;have e3:=Zh c0;clear b8 b9 c1 c0;cases t;case false=>
   have E:=e3.out;rw [Bool.false_and] at E;subst E;go_wp2;exact⟨⟨k+1,by omega,by first | trivial | rfl,(Prod.ext rfl (lE rfl (lE rfl (lE rfl (lE rfl (lE (by rw [e4.out];rfl) rfl)))))),by first | trivial | rfl⟩,nz⟩
  case true=>
   have E:=e3.out;rw [Bool.true_and] at E;have e2:Hid (Value.bool (decide (a3>=(j:Int)))=Value.bool (g && (b.take (k+1)).all fun d=>decide ((j:Int)<=d))):=Zh (by rw [e4.out,E]);clear E;go_wp2;exact⟨⟨k+1,by omega,by first | trivial | rfl,(Prod.ext rfl (lE rfl (lE rfl (lE rfl (lE rfl (lE (by first | exact e2.out | (rw [<-e2.out];rfl)) rfl)))))),by first | trivial | rfl⟩,nz⟩
 obtain rfl:k=c+1:=by omega
 have f7:¬ ((c+1:Nat):Int)<((c+1:Nat):Int):=by omega
 have i7:b.take (c+1)=b:=List.take_of_length_le (by rw [Q.out];exact Nat.le_refl _);rw [i7];obtain⟨a5,f8⟩:=zE (g && b.all fun d=>decide ((j:Int)<=d));have l:=e7.out;have f:=f2.out;rw [f8] at l f ⊢;have a9:=Zh l;have b2:=Zh f;clear f8 l f e7 f2 i7 f7;cases a5;case false=>
  have j4:Hid (Y7 o s (.slice d9 R d8) (Zz sh (j+1))):=Zh (by rw [a9.out rfl];exact q.out.ext p.out);have a6:=Zh (m.out.trans p.out);clear a9 b2 q m p r;go_wp2;exact⟨⟨j+1,_,by omega,by first | trivial | rfl,rfl,j4.out,a6.out⟩,nz⟩
 have j9:=Zh (b2.out rfl);obtain⟨vs,j1,l2,j2⟩:=q.out;have J:=Zh j1;have f3:=Zh j2;clear j1 j2 q a9 b2;rw [a8.out] at J
 go_wp2_with (at_builtin;refine Qo rfl (.tmp 56) (.tmp 58) 54 rfl o 36 _ 1 24 Tryz.underlying54 Me rfl zd _ _ _ rfl (Q6 J.out (p.out.alloc _)) ⟨s.heap.size,0,none⟩ 1 1 [.slice (some ⟨y,B,none⟩) (c+1) C] rfl rfl (Qn rfl) ?c2 ?c3 ?c4 ?c5 ?_)
 case c2=>first | rfl | (intro d7 G;simp at G;rcases G with rfl;rfl)
 case c3=>unfold maxLen;omega
 case c4=>omega
 case c5=>simp;omega
 intro k1 k2 j3 b6 b7 _;have S:Ext D (s.alloc (.cells #[.slice (some ⟨y,B,none⟩) (c+1) C] 36)):=p.out.alloc _;have d3:Y7 o j3 (.slice k1 (R+1) k2) (Zz sh j++[b]):=by
  have L:=Q6 r.out ((Q0.refl (fun _=>False) s).alloc (.cells #[.slice (some ⟨y,B,none⟩) (c+1) C] 36));have k5:(s.alloc (.cells #[.slice (some ⟨y,B,none⟩) (c+1) C] 36)).ownsRow o 3 1 (.slice (some ⟨y,B,none⟩) b.length C) b.length (Z3 b):=by rw [Q.out];exact L
  rw [<-Q.out] at b6;refine Y7.push (V:=s.alloc (.cells #[.slice (some ⟨y,B,none⟩) (c+1) C] 36)) (v:=.slice d9 R d8) (vs:=vs) (by rw [a8.out];exact Q6 J.out S) l2 (fun i hi=>?_) k5 (by rw [a8.out];exact b6) b7;obtain⟨k0,k3,l4,l5⟩:=f3.out i hi;exact⟨k0,k3,l4,Q6 l5 S⟩
 have g1:Ext e0 j3:=(m.out.trans S).after b7 (fun b' f6 e=>by have:=(J.out.lt _ e).1;have:=b1.out;omega);rw [<-j9.out] at d3;have j5:=Zh d3;have a6:=Zh g1;clear d3 g1 S b7 b6 J f3 r p m;go_wp2;exact⟨⟨j+1,_,by omega,by first | trivial | rfl,rfl,j5.out,a6.out⟩,nz⟩
theorem Q7o{w:World}{u v:Value}{us vs:List Int}(f:Rd w u us.length 1 (Z3 us)) (g:Rd w v vs.length 1 (Z3 vs)) :
  Calls Tryz.prog 90 #[u,v] w fun e w'=>e=.returned (.bool (decide (us=vs)))/\Ext w w':=by
 have l:=Fs f g;obtain⟨o,n,rfl,_⟩:=f.2.2;obtain⟨q,p,rfl,_⟩:=g.2.2;have j:=Zh l;clear l f g;obtain⟨i,b⟩:=zE (decide (us=vs));obtain⟨a,d⟩:=zE us.length;obtain⟨r,c⟩:=zE vs.length;rw [b,d,c] at j;rw [b,d,c];clear b d c;go_enter Tryz.func90,Tryz.ntmps90;go_wp2_with fail;refine j.out.mono ?_;rintro e s ⟨rfl,k⟩;have m:=Zh k;clear k;go_wp2;go_ret;exact⟨rfl,m.out⟩
theorem Qd5{w:World}{u v:Value}{us vs:List (List Int)} (b1:Fw w u us) (b2:Fw w v vs) :
  Calls Tryz.prog 89 #[u,v,.func (.func 90) #[] #[]] w fun e w'=>e=.returned (.bool (decide (us=vs)))/\Ext w w':=by
 obtain⟨c6,r,Y⟩:=b1;obtain⟨c9,s,Z⟩:=b2;have p:=r.2.1;have R:=s.2.1;unfold maxLen at p R;obtain⟨L,K,rfl,_⟩:=r.2.2;obtain⟨a8,a7,rfl,_⟩:=s.2.2;obtain⟨c,o⟩:=zE us.length;obtain⟨I,n⟩:=zE vs.length;rw [o] at r p ⊢;rw [n] at s R ⊢;obtain⟨a3,a5,H,G,a4,a6⟩:=Zh6 r s o n Y Z;clear r s Y Z;go_enter Tryz.func89,Tryz.ntmps89;by_cases N:c=I;case neg=>
  have i:((c:Int) !=(I:Int))=true:=by simp;omega
  have B:=Zh (decide_eq_false (fun h:us=vs=>N (by rw [<-o,<-n,h])));clear o n;go_wp2;go_ret;exact⟨by rw [B.out];rfl,Q0.refl _ _⟩
 subst N;clear o n;go_wp2
 refine wp_loop (fun a J=>∃(b:Nat),b<=c/\a.defers=[]/\gS a [0,1,2,15,16,17]=(32,[.slice L c K,.slice a8 c a7,.func (.func 90) #[] #[],.slice L c K,.int .i64 c,.int .i64 b])/\us.take b=vs.take b/\Ext w J)
  (fun a _=>c - (intOf (a.tmps.getD 17 undef)).toNat) ?_ ?_
 ·exact⟨0,by omega,rfl,rfl,by simp,Q0.refl _ _⟩
 rintro⟨c5,_⟩ J ⟨b,c1,b0,X,O,M⟩;subst b0;obtain⟨u,rfl⟩:=Qc X;clear X;have F:=Zh O;have f:=Zh M;clear O M;by_cases t:b<c;case neg=>
  obtain rfl:b=c:=by omega
  have a9:¬ (b:Int)<(b:Int):=by omega
  have E:=F.out;rw [List.take_of_length_le (by rw [H.out];exact Nat.le_refl _),List.take_of_length_le (by rw [G.out];exact Nat.le_refl _)] at E;have l:=Zh (decide_eq_true E);clear E;go_wp2;go_ret;exact⟨by rw [l.out];rfl,f.out⟩
 have a9:(b:Int)<(c:Int):=by omega
 have b8:(0:Int)<=(b:Int):=by omega
 have P:b<us.length:=by rw [H.out];exact t
 have Q:b<vs.length:=by rw [G.out];exact t
 obtain⟨b6,c3,b4,q,b9,C⟩:=Z7 (a3.out.ext f.out) t;simp only [zV,true_and] at q;obtain⟨rfl,rfl⟩:=q;obtain⟨b7,c4,b5,q,c0,D⟩:=Z7 (a5.out.ext f.out) t;simp only [zV,true_and] at q;obtain⟨rfl,rfl⟩:=q;obtain⟨c8,c7,T,V⟩:=a4.out b P;obtain⟨d1,d0,U,W⟩:=a6.out b Q;rw [T] at C;rw [U] at D;have d:=Q7o (V.ext f.out) (W.ext f.out);have x:us.take (b+1)=us.take b++[us[b]]:=List.take_succ_eq_append_getElem P;have y:vs.take (b+1)=vs.take b++[vs[b]]:=List.take_succ_eq_append_getElem Q;have i:us[b]≠vs[b]->us≠vs:=fun h e=>by subst e;exact h rfl
 obtain⟨z,a0⟩:=zE (us[b]);obtain⟨A,a1⟩:=zE (vs[b]);rw [a0] at C x i d;rw [a1] at D y i d;obtain⟨g,S⟩:=zE z.length;obtain⟨c2,p⟩:=zE A.length;rw [S] at C d;rw [p] at D d;clear a0 a1 T U V W S p;by_cases j:z=A
 ·have a2:Hid (us.take (b+1)=vs.take (b+1)):=Zh (by rw [x,y,F.out,j]);rw [decide_eq_true j] at d;have k:=Zh d;clear x y i j d;go_wp2_with fail;refine k.out.mono ?_;rintro e b3 ⟨rfl,m⟩;have l:=Zh (f.out.trans m);clear m f k;go_wp2;exact⟨⟨b+1,by omega,tz,rfl,a2.out,l.out⟩,nz⟩
 ·have B:=Zh (decide_eq_false (i j));rw [decide_eq_false j] at d;have k:=Zh d;clear x y i j d;go_wp2_with fail;refine k.out.mono ?_;rintro e b3 ⟨rfl,m⟩;have l:=Zh (f.out.trans m);clear m f k;go_wp2;go_ret;exact⟨by rw [B.out];rfl,l.out⟩
theorem Cy{w:World}{u v:Value}{us vs:List (List Int)} (k:Fw w u us) (m:Fw w v vs) :
  Calls Tryz.prog 48 #[u,v] w fun e w'=>e=.returned (.bool (decide (us=vs)))/\Ext w w':=by
 have j:=Qd5 k m;obtain⟨x,l,_⟩:=k;obtain⟨y,n,_⟩:=m;obtain⟨q,p,rfl,_⟩:=l.2.2;obtain⟨s,r,rfl,_⟩:=n.2.2;have g:=Zh j;clear j l n;obtain⟨f,b⟩:=zE (decide (us=vs));obtain⟨a,d⟩:=zE us.length;obtain⟨t,c⟩:=zE vs.length;rw [b,d,c] at g;rw [b,d,c];clear b d c;go_enter Tryz.func48,Tryz.ntmps48;go_wp2_with fail;refine g.out.mono ?_;rintro e z ⟨rfl,i⟩;have o:=Zh i;clear i;go_wp2;go_ret;exact⟨rfl,o.out⟩
theorem Qb0(l:List Int):∀ u∈Z3 l,u.oneCell'=true:=by
 intro u a;unfold Z3 at a;obtain⟨b,_,rfl⟩:=List.mem_map.1 a;rfl
theorem Q70{w:World}{ao:Option Addr}{N cap:Nat}{l:List Int}(y:Rd w (.slice ao N cap) N 1 (Z3 l)) (U:l.length=N) (V:Tab w) :
  Calls Tryz.prog 9 #[.slice ao N cap] w fun e w'=>e=.returned (.bool true)/\Ext w w':=by
 have a2:=y.2.1;unfold maxLen at a2;obtain⟨k,b,D⟩:=Zh3 y U V;clear y U V;obtain⟨A,L⟩:=zE (Y6 l);have j:=Zh L;clear L;go_enter Tryz.func9,Tryz.ntmps9;by_cases a5:N<=100;case neg=>
  have a1:(N:Int) > 100:=by omega
  go_wp2_with fail;refine(Xi w D.out).mono ?_;rintro e a3 ⟨rfl,K⟩;have X:=Zh K;clear K;go_wp2;go_ret;exact⟨rfl,X.out⟩
 have a1:¬ (N:Int) > 100:=by omega
 go_wp2_with fail;refine(Q32 k.out (Qb0 l) oz).mono ?_;rintro e a3 ⟨a0,Z,rfl,W,O⟩;have c:=Zh (Rd.of_own W);have o:=Zh O;clear W O;go_wp2_with fail;refine(Td (k.out.ext o.out) b.out).mono ?_;rintro e b1 ⟨a6,rfl,a,P⟩;rw [j.out];have g:=Zh P;have d:=Zh a.rd;clear a P;go_wp2_with fail;refine(Q3m (c.out.ext g.out) b.out).mono ?_;rintro e b2 ⟨a7,rfl,a,m⟩;rw [j.out];obtain⟨F,E,n,p⟩:=Zh4 a.rd (d.out.ext m) (c.out.ext (g.out.trans m)) (o.out.trans (g.out.trans m));clear a m d c o g;go_wp2_with fail;refine(Q61 (k.out.ext p.out) b.out).mono ?_;rintro e b3 ⟨a8,rfl,a,Q⟩;rw [j.out];have H:=Zh a.rd;have q:=Zh Q;clear a Q;go_wp2_with fail;refine(Q3a (n.out.ext q.out) b.out).mono ?_;rintro e b4 ⟨a9,rfl,a,t⟩;rw [j.out];have f:=q.out.trans t;obtain⟨J,I,d,G,c,B⟩:=Zh6 a.rd (H.out.ext t) (E.out.ext f) (F.out.ext f) (n.out.ext f) (p.out.trans f);clear a t f p q E F n H;go_wp2_with fail;refine(Cy d.out G.out).mono ?_;rintro e b5 ⟨rfl,R⟩;rw [decide_eq_true rfl];have i:=Zh R;clear d G R;go_wp2_with fail;refine(Cy (I.out.ext i.out) (J.out.ext i.out)).mono ?_;rintro e b6 ⟨rfl,S⟩;rw [decide_eq_true rfl];have x:=i.out.trans S;have r:=Zh (B.out.trans x);have z:=Fs (u:=.slice a0 N Z) (v:=.slice ao N cap) (us:=l) (vs:=l) (by rw [b.out];exact c.out.ext x) (by rw [b.out];exact k.out.ext r.out);rw [decide_eq_true rfl] at z;have C:=Zh z;clear x S i I J z B;go_wp2_with fail;refine C.out.mono ?_;rintro e a4 ⟨rfl,T⟩;have s:=Zh (r.out.trans T);clear C T r;go_wp2_with fail;refine(Xi a4 (D.out.keep s.out id)).mono ?_;rintro e b0 ⟨rfl,M⟩;have Y:=Zh (s.out.trans M);clear M s;go_wp2;go_ret;exact⟨rfl,Y.out⟩
end Go.Proofs.YtejenndedjabhaaGreatDoor
