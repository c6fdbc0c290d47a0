/- order.check (printed by genordk.py). -/
import Derived.Test.YtfdlhlghcbeblaaGreatDoorQ11
set_option maxRecDepth 100000
set_option maxHeartbeats 16000000
namespace Go.Proofs.YtfdlhlghcbeblaaGreatDoor
open Go.RowKit Go.Ab
attribute [local go_sem] Oper.semAt_some Zi Qz
def wpE(q:Wd × Wd):Int:=if wE q.1=0 then wE q.2 else wE q.1
def Qu(LD:List Q5)(QS:List (Wd × Wd)):Int:=if 6<LD.length then 12 else if LD.all Yg=true then(if 32<QS.length then 12 else Xf (QS.map wpE)) else 17
def Gn(ps:Qi)(k:Nat):Prop:=(ps.take k).all (fun p=>Yg p.1)=true
def Mr(QS:List (Wd × Wd)) (k:Nat):Prop:=Xf ((QS.map wpE).take k)=0
def Qbn(A B:Int)(i:Nat):Prop:=(1<=i->A=0)/\(2<=i->B=0)
theorem Pk{ps:Qi}{k:Nat}(b:k<ps.length)(h:Gn ps k)(a:Yg ps[k].1=true):Gn ps (k+1):=by
 unfold Gn at *;rw [List.take_succ_eq_append_getElem b,List.all_append,h];simp [a]
theorem Tb{ps:Qi}{k:Nat}(b:k<ps.length)(a:Yg ps[k].1=false):(ps.map (·.1)).all Yg=false:=by
 rw [List.all_map,List.all_eq_false];exact⟨_,List.getElem_mem b,by simp [a]⟩
theorem Ls{ps:Qi}{k:Nat}(a:ps.length<=k)(h:Gn ps k):(ps.map (·.1)).all Yg=true:=by
 unfold Gn at h;rw [List.take_of_length_le a] at h;rw [List.all_map];exact h
theorem Hl{w:World}{ps:Qi}{qs:Q9}{lo:Option Addr}{n lc:Nat}{c9:Option Addr}{m a9:Nat}(f7:Z5 w (.slice lo n lc) ps) (M:ps.length=n) (f8:Z7 w (.slice c9 m a9) qs) (a6:qs.length=m) (k7:Tab w) :
  Calls Tryz.prog 89 #[.slice lo n lc,.slice c9 m a9] w fun e w'=>e=.returned (.int .i64 (Qu (ps.map (·.1)) (qs.map (·.1))))/\Ext w w':=by
 have l3:=fun(k:World) (H:Ext w k) (l:Q5) (cs:List Value) (h:Zf k l cs)=>Tx h (k7.keep H id);obtain⟨j,Q⟩:=zE (Qu (ps.map (·.1)) (qs.map (·.1)));rw [Q];have o4:6<n->j=12:=fun h=>by rw [<-Q];unfold Qu;rw [if_pos (by rw [List.length_map,M];exact h)]
 have o5:¬ 6<n->∀ f (f5:f<ps.length),Yg ps[f].1=false->j=17:=fun h f f5 A=>by rw [<-Q];unfold Qu;rw [if_neg (by rw [List.length_map,M];exact h),Tb f5 A];rfl
 have o6:¬ 6<n->Gn ps n->32<m->j=12:=fun h A Z=>by rw [<-Q];unfold Qu;rw [if_neg (by rw [List.length_map,M];exact h),Ls oz A,if_pos rfl,if_pos (by rw [List.length_map,a6];exact Z)]
 have o7:¬ 6<n->Gn ps n->¬ 32<m->j=Xf ((qs.map (·.1)).map wpE):=fun h A Z=>by rw [<-Q];unfold Qu;rw [if_neg (by rw [List.length_map,M];exact h),Ls oz A,if_pos rfl,if_neg (by rw [List.length_map,a6];exact Z)]
 have r3:n<=maxLen:=by rw [<-M];exact f7.1.2.1
 have r2:m<=maxLen:=by rw [<-a6];exact f8.1.2.1
 unfold maxLen at r3 r2;obtain⟨g6,g9,p3,q0,i1,j0,j1,j2⟩:=Zh8 l3 f7 M f8 a6 o4 o5 o6;have j3:=Zh o7;clear l3 f7 M f8 a6 k7 Q o4 o5 o6 o7;go_enter Tryz.func89,Tryz.ntmps89;by_cases e4:6<n;case pos=>
  have A:(n:Int) > 6:=by omega
  have o:j=12:=j0.out e4;subst o;go_wp2;go_ret;exact⟨rfl,Q0.refl _ _⟩
 have q8:¬ (n:Int) > 6:=by omega
 have b5:=Zh e4;clear e4;go_wp2
 refine wp_loop (fun a t=>∃(f:Nat),f<=n/\a.defers=[]/\(a.tmps.size=51/\a.tmps.getD 1 undef=.slice c9 m a9/\a.tmps.getD 15 undef=.slice lo n lc/\a.tmps.getD 16 undef=.int .i64 n/\a.tmps.getD 17 undef=.int .i64 f)/\Gn ps f/\Ext w t)
  (fun a _=>((n:Int) - intOf (a.tmps.getD 17 undef)).toNat) ?_ ?_
 ·exact⟨0,by omega,rfl,⟨rfl,rfl,rfl,rfl,rfl⟩,by simp [Gn],Q0.refl _ _⟩
 rintro⟨b2,_⟩ t ⟨f,f5,a3,⟨C,d5,d6,d7,d8⟩,m2,H⟩;subst a3;obtain⟨b4,r⟩:=Qv C;obtain⟨c,rfl⟩:∃ x,x=b4:=⟨_,rfl⟩;have a8:b2=#[c 0,c 1,c 2,c 3,c 4,c 5,c 6,c 7,c 8,c 9,c 10,c 11,c 12,c 13,c 14,c 15,c 16,c 17,c 18,c 19,c 20,c 21,c 22,c 23,c 24,c 25,c 26,c 27,c 28,c 29,c 30,c 31,c 32,c 33,c 34,c 35,c 36,c 37,c 38,c 39,c 40,c 41,c 42,c 43,c 44,c 45,c 46,c 47,c 48,c 49,c 50]:=r;clear r;subst a8;change c 1=_ at d5;change c 15=_ at d6;change c 16=_ at d7;change c 17=_ at d8;rw [d5,d6,d7,d8];clear d5 d6 d7 d8 C;have U:=Zh m2;have i:=Zh H;clear m2 H;by_cases r1:f<n;case pos=>
  have A:(f:Int)<(n:Int):=by omega
  have q6:(0:Int)<=(f:Int):=by omega
  have f6:f<ps.length:=by rw [p3.out];exact r1
  obtain⟨e2,g3,s2,u,f3,v,c6,e3⟩:=(g9.out.ext i.out).at f6;simp only [zV] at u;obtain⟨rfl,r4,rfl⟩:=u;have a7:=j1.out b5.out f f6;have B:=fun h=>Pk f6 U.out h;obtain⟨g4,f9⟩:=zE (ps[f]);rw [f9] at v c6 e3 a7;simp only [f9] at B;obtain⟨o3,s5⟩:=g4;dsimp only at v c6 e3 a7 B;obtain⟨n6,m9,o1,n1,n4,j7,j9,n7,i6,k2,n0,o2,n2,n5,j8,k0,n8,i7,k3,m8,i8,m7,o0,i9,n9,n3,c5,i0,q1,q2,o9,p9,p6,b7,b8,p4,p5,p2,s6,s7,s8,s9,t0⟩:=Zr c6;subst c5;have r6:IntKind.i64.wrap ((f:Int)+1)=(f:Int)+1:=IntWalk.i64_in _ oz;obtain⟨k1,c4⟩:=zE (Yg o3);have m0:Un o3=if k1=true then 0 else 17:=by unfold Un;rw [c4]
  rw [c4] at a7;simp only [c4] at B;obtain⟨i2,q3,p7,p1⟩:=Zh4 v a7 B m0;clear r4 f9 c6 e3 v a7 B m0 c4 q1 q2 o9 p9 p6 b7 b8 p4 p5 p2 U f3;obtain⟨d3,c1⟩:=zE (t.alloc (.cells #[.string n6,.int .i64 m9,.int .u32 (o1:Int),.int .u32 (n1:Int),.bool n4,.int .i64 j7,.int .i64 j9,.slice n7 i6 k2,.int .i64 n0,.int .u32 (o2:Int),.int .u32 (n2:Int),.bool n5,.int .i64 j8,.int .i64 k0,.slice n8 i7 k3,.slice m8 i8 m7,.slice o0 i9 n9,.int .i64 n3] 102));have I:Ext t d3:=by rw [<-c1];exact(Q0.refl _ t).alloc _
  have g1:d3.heap[t.heap.size]?=some (.cells #[.string n6,.int .i64 m9,.int .u32 (o1:Int),.int .u32 (n1:Int),.bool n4,.int .i64 j7,.int .i64 j9,.slice n7 i6 k2,.int .i64 n0,.int .u32 (o2:Int),.int .u32 (n2:Int),.bool n5,.int .i64 j8,.int .i64 k0,.slice n8 i7 k3,.slice m8 i8 m7,.slice o0 i9 n9,.int .i64 n3] 102 (0,0)):=by rw [<-c1];exact Q3 rfl
  obtain⟨j5,K⟩:=zE t.heap.size;rw [K] at g1;have i4:=Zh g1;have i3:=Zh c1;clear g1 c1;go_upto_region 6 with (refine Y5 (by rfl) 102 (.tmp 19) rfl e2 (g3+f*18) zr _ _ i2.out Tryz.underlying102 rfl kz ?_)
  rw [i3.out];have f0:=g6.out d3 (i.out.trans I) _ _ (i0.out.ext I);rw [p1.out] at f0;obtain⟨g5,g7,q4⟩:=Zh3 f0 (i.out.trans I) K;clear f0 I K i3 i2 i0
  go_wp2_with (refine wpList_load_row rfl 102 (.tmp 6) rfl j5 rfl _ _ _ _ i4.out Tryz.underlying102 rfl Tryz.lawInfo ?_)
  refine g5.out.mono ?_;rintro e s0 ⟨rfl,a1⟩;have g8:=Zh (g7.out.trans a1);clear a1 g5 i4 g7;cases k1 with
  | true=>
   have B:=p7.out rfl;have p8:=Zh B;clear B;go_wp2;exact⟨⟨f+1,by omega,tz,⟨rfl,rfl,rfl,rfl,rfl⟩,p8.out,g8.out⟩,mz⟩
  | false=>
   have o:j=17:=q3.out uz;subst o;go_wp2;go_ret;exact⟨rfl,g8.out⟩
 obtain rfl:f=n:=by omega
 have A:¬ (f:Int)<(f:Int):=by omega
 by_cases k6:32<m;case pos=>
  have Z:(m:Int) > 32:=by omega
  have o:j=12:=j2.out b5.out U.out k6;subst o;go_wp2;go_ret;exact⟨rfl,i.out⟩
 have Z:¬ (m:Int) > 32:=by omega
 have o:=j3.out b5.out U.out k6;have d2:=Zh o;clear o j0 j1 j2 j3 b5 U q8;go_wp2
 refine wp_loop (fun a t=>∃(d:Nat),d<=m/\a.defers=[]/\(a.tmps.size=51/\a.tmps.getD 28 undef=.slice c9 m a9/\a.tmps.getD 29 undef=.int .i64 m/\a.tmps.getD 30 undef=.int .i64 d)/\Mr (qs.map (·.1)) d/\Ext w t)
  (fun a _=>((m:Int) - intOf (a.tmps.getD 30 undef)).toNat) ?_ ?_
 ·exact⟨0,by omega,rfl,⟨rfl,rfl,rfl,rfl⟩,rfl,i.out⟩
 clear i g6 g9;rintro⟨b2,_⟩ k ⟨d,s4,a3,⟨C,E,F,G⟩,l4,H⟩;subst a3;obtain⟨b4,r⟩:=Qv C;obtain⟨c,rfl⟩:∃ x,x=b4:=⟨_,rfl⟩;have a8:b2=#[c 0,c 1,c 2,c 3,c 4,c 5,c 6,c 7,c 8,c 9,c 10,c 11,c 12,c 13,c 14,c 15,c 16,c 17,c 18,c 19,c 20,c 21,c 22,c 23,c 24,c 25,c 26,c 27,c 28,c 29,c 30,c 31,c 32,c 33,c 34,c 35,c 36,c 37,c 38,c 39,c 40,c 41,c 42,c 43,c 44,c 45,c 46,c 47,c 48,c 49,c 50]:=r;clear r;subst a8;change c 28=_ at E;change c 29=_ at F;change c 30=_ at G;rw [E,F,G];clear E F G C;have d0:=Zh l4;have i:=Zh H;clear l4 H;have m1:((qs.map (·.1)).map wpE).length=m:=by rw [List.length_map,List.length_map,i1.out]
 by_cases r0:d<m;case neg=>
  obtain rfl:d=m:=by omega
  have q7:¬ (d:Int)<(d:Int):=by omega
  have g2:j=0:=by
   rw [d2.out];have:=d0.out;unfold Mr at this
   rwa [List.take_of_length_le oz] at this
  subst g2;clear m1;go_wp2;go_ret;exact⟨rfl,i.out⟩
 have q7:(d:Int)<(m:Int):=by omega
 have q6:(0:Int)<=(d:Int):=by omega
 have l8:d<qs.length:=by rw [i1.out];exact r0
 have l5:((qs.map (·.1)).map wpE)[d]' oz=wpE qs[d].1:=by rw [List.getElem_map,List.getElem_map]
 have f2:Xf (((qs.map (fun(q:(Wd × Wd) × List Value)=>q.1)).map wpE).take d)=0:=d0.out;have a4:=Sl (l:=(qs.map (fun(q:(Wd × Wd) × List Value)=>q.1)).map wpE) (n:=d) oz f2;have L:=S7 (l:=(qs.map (fun(q:(Wd × Wd) × List Value)=>q.1)).map wpE) (n:=d) oz f2;rw [l5] at a4 L;obtain⟨e2,g3,s1,u,v,⟨c,t1,c5,r,r5⟩,r7⟩:=U9.at (Qg q0.out i.out) l8;replace u:=u zd;obtain⟨u,f3⟩:=u;simp only [zV] at u;obtain⟨rfl,g2,rfl⟩:=u;rw [c5] at v;obtain⟨Y,W,rfl,m4,r8⟩:=r;obtain⟨b1,b0,rfl,m5,r9⟩:=r5;have d4:=v 0 _ rfl;have k5:=v 1 _ rfl;rw [Nat.add_zero] at d4;obtain⟨p,e5⟩:=zE (wE qs[d].1.1);obtain⟨s,e6⟩:=zE (wE qs[d].1.2);have m6:wpE qs[d].1=if p=0 then s else p:=by unfold wpE;rw [e5,e6]
 rw [m6] at a4 L;have l1:p≠0->j=p:=fun h=>by rw [if_neg h] at L;rw [d2.out];exact L h
 have l2:p=0->s≠0->j=s:=fun h h'=>by rw [if_pos h] at L;rw [d2.out];exact L h'
 have m3:p=0->s=0->Mr (qs.map (·.1)) (d+1):=fun h h'=>by rw [if_pos h,h'] at a4;exact a4
 have c7:=fun(g:World) (hD:Ext k g)=>Nu (m4.ext hD);have c8:=fun(g:World) (hD:Ext k g)=>Nu (m5.ext hD);simp only [e5] at c7;simp only [e6] at c8;obtain⟨X,f1⟩:=zE (qs[d].1.1.length);obtain⟨b3,g0⟩:=zE (qs[d].1.2.length);rw [f1] at d4;rw [g0] at k5;simp only [f1] at c7;simp only [g0] at c8;obtain⟨R,S,b6,b9,c0⟩:=Zh5 l1 l2 m3 c7 c8;have r6:IntKind.i64.wrap ((d:Int)+1)=(d:Int)+1:=IntWalk.i64_in _ oz;clear m1 l5 a4 L f2 g2 r7 r8 r9 c5 v m4 m5 e5 e6 m6 l1 l2 m3 c7 c8 f1 g0 f3 l8 d0;go_upto_region 14 with (fail)
 obtain⟨P,c2⟩:=zE (k.alloc (.cells #[.slice Y X W,.slice b1 b3 b0] 105));have I:Ext k P:=by rw [<-c2];exact(Q0.refl _ k).alloc _
 have e8:P.heap[k.heap.size]?=some (.cells #[.slice Y X W,.slice b1 b3 b0] 105 (0,0)):=by rw [<-c2];exact Q3 rfl
 rw [c2];obtain⟨j5,K⟩:=zE k.heap.size;rw [K] at e8 ⊢;have q5:=fun d=>cell_of_row _ _ d _ _ _ e8;have b7:=Zh I;have q4:=Zh K;clear c2 e8 K I d4 k5;go_wp2;obtain⟨j4,c3⟩:=zE (P.alloc (.cells #[.slice Y X W,.slice b1 b3 b0] 99));have a1:Ext k j4:=by rw [<-c3];exact b7.out.trans ((Q0.refl _ P).alloc _)
 have e9:j4.heap[P.heap.size]?=some (.cells #[.slice Y X W,.slice b1 b3 b0] 99 (0,0)):=by rw [<-c3];exact Q3 rfl
 rw [c3];obtain⟨j6,k9⟩:=zE P.heap.size;rw [k9] at e9 ⊢;have b8:=Zh a1;have i5:=Zh e9;clear c3 a1 e9 k9 q5 b7
 refine wp_loop (fun a g=>∃(N:Nat),N<=2/\a.defers=[]/\(a.tmps.size=51/\a.tmps.getD 28 undef=.slice (some ⟨e2,g3,none⟩) m a9/\a.tmps.getD 29 undef=.int .i64 m/\a.tmps.getD 30 undef=.int .i64 d/\a.tmps.getD 38 undef=.slice (some ⟨j6,0,none⟩) 2 2/\a.tmps.getD 39 undef=.int .i64 2/\a.tmps.getD 40 undef=.int .i64 N)/\g.heap[j6]?=some (.cells #[.slice Y X W,.slice b1 b3 b0] 99 (0,0))/\Qbn p s N/\Ext k g)
  (fun a _=>(2 - intOf (a.tmps.getD 40 undef)).toNat) ?_ ?_
 ·exact⟨0,by omega,rfl,⟨rfl,rfl,rfl,rfl,rfl,rfl,rfl⟩,i5.out,⟨fun h=>by omega,fun h=>by omega⟩,b8.out⟩
 clear b8 i5;rintro⟨b2,_⟩ g ⟨N,s3,a3,⟨C,E,F,G,d9,e0,e1⟩,l0,l7,k8⟩;subst a3;obtain⟨b4,r⟩:=Qv C;obtain⟨c,rfl⟩:∃ x,x=b4:=⟨_,rfl⟩;have a8:b2=#[c 0,c 1,c 2,c 3,c 4,c 5,c 6,c 7,c 8,c 9,c 10,c 11,c 12,c 13,c 14,c 15,c 16,c 17,c 18,c 19,c 20,c 21,c 22,c 23,c 24,c 25,c 26,c 27,c 28,c 29,c 30,c 31,c 32,c 33,c 34,c 35,c 36,c 37,c 38,c 39,c 40,c 41,c 42,c 43,c 44,c 45,c 46,c 47,c 48,c 49,c 50]:=r;clear r;subst a8;change c 28=_ at E;change c 29=_ at F;change c 30=_ at G;change c 38=_ at d9;change c 39=_ at e0;change c 40=_ at e1;rw [E,F,G,d9,e0,e1];clear E F G d9 e0 e1 C;obtain⟨O,y,z⟩:=Zh3 l0 l7 k8;clear l0 l7 k8;by_cases f4:N=2
 ·subst f4;have l9:=b6.out (y.out.1 oz) (y.out.2 oz);have p0:=Zh l9;have T:=Zh (i.out.trans z.out);clear l9 b6 y z O b9 c0 R S;go_wp2;exact⟨⟨d+1,by omega,tz,⟨rfl,rfl,rfl,rfl⟩,p0.out,T.out⟩,mz⟩
 have k4:=fun d=>cell_of_row _ _ d _ _ _ O.out;by_cases l6:N=0
 ·subst l6;clear f4;go_wp2_with fail;refine(b9.out _ z.out).mono ?_;rintro e o8 ⟨rfl,J⟩;have a2:=J.keep O.out;have V:=Zh a2;have D:=Zh (z.out.trans J);clear a2 J k4 O z b9;by_cases a0:p=0
  ·subst a0;have a5:Qbn 0 s 1:=⟨fun _=>rfl,fun h=>by omega⟩;have d1:=Zh a5;clear a5 y R;go_wp2;exact⟨⟨1,by omega,tz,⟨rfl,rfl,rfl,rfl,rfl,rfl,rfl⟩,V.out,d1.out,D.out⟩,by simp [intOf]⟩
  ·have q9:(p != 0)=true:=by rw [bne_iff_ne];exact a0
   have o:j=p:=R.out a0;subst o;have T:=Zh (i.out.trans D.out);clear R S b6 y c0 V D;go_wp2;go_ret;exact⟨rfl,T.out⟩
 ·obtain rfl:N=1:=by omega
  clear f4 l6;have a0:p=0:=y.out.1 oz;subst a0;go_wp2_with fail;refine(c0.out _ z.out).mono ?_;rintro e o8 ⟨rfl,J⟩;have a2:=J.keep O.out;have V:=Zh a2;have D:=Zh (z.out.trans J);clear a2 J k4 O z c0;by_cases e7:s=0
  ·subst e7;have a5:Qbn 0 0 2:=⟨fun _=>rfl,fun _=>rfl⟩;have d1:=Zh a5;clear a5 y S;go_wp2;exact⟨⟨2,by omega,tz,⟨rfl,rfl,rfl,rfl,rfl,rfl,rfl⟩,V.out,d1.out,D.out⟩,by simp [intOf]⟩
  ·have q9:(s != 0)=true:=by rw [bne_iff_ne];exact e7
   have o:j=s:=S.out uz e7;subst o;have T:=Zh (i.out.trans D.out);clear R S b6 y b9 V D;go_wp2;go_ret;exact⟨rfl,T.out⟩
def Nr(l:Wd)(i:Nat):Bool:=(l.take i).any fun s=>!okS s
def N0(n:Nat)(l:List X3)(i:Nat):Bool:=(l.take i).any fun x=>!Yl n x
theorem Q8n{l:Wd}{i:Nat}(h:l.length<=i):Nr l i=l.any fun s=>!okS s:=by unfold Nr;rw [List.take_of_length_le h]
theorem Qau{n:Nat}{l:List X3}{i:Nat}(h:l.length<=i):N0 n l i=l.any fun x=>!Yl n x:=by unfold N0;rw [List.take_of_length_le h]
theorem Q6s{l:Wd}{i:Nat}(h:i<l.length)(a:Nr l i=false)(b:okS l[i]=true):Nr l (i+1)=false:=by
 unfold Nr at a ⊢;rw [List.take_succ_eq_append_getElem h,List.any_append,a];simp [b]
theorem Q7i{n:Nat}{l:List X3}{i:Nat}(h:i<l.length)(a:N0 n l i=false)(b:Yl n l[i]=true):N0 n l (i+1)=false:=by
 unfold N0 at a ⊢;rw [List.take_succ_eq_append_getElem h,List.any_append,a];simp [b]
theorem Mf{w:World}{l:Q5}{cs:List Value}(i1:Zf w l cs) :
  Calls Tryz.prog 143 #[.agg cs.toArray] w fun e w'=>e=.returned (.int .i64 (Un l))/\Ext w w':=by
 obtain⟨B,d9,e7,e1,e3,c7,c9,e5,c5,d1,e0,e8,e2,e4,c8,d0,e6,c6,d2,b2,c,b1,j0,i,b3,F,rfl,j7,f6,f7,f1,k0,f5,j8,j9,b8,b9,f4,l0,m1,m2,l1,m3⟩:=Zr i1;have i6:=S9 B;have i4:B.data.toList.length<=9223372036854775807:=by rw [Array.length_toList];exact l0
 have c0:Hid (∀ d,Ext w d->Calls Tryz.prog 181 #[.string B] d fun e w'=>e=.returned (.bool (Us B))/\Ext d w'):=Zh fun d _=>by
  have:=Qa8 B.data.toList i4 d;rw [<-i6] at this;exact this.mono fun e w' h=>⟨h.1,by rw [<-h.2];exact Q0.refl _ _⟩
 have c2:Hid (∀ d,Ext w d->Calls Tryz.prog 182 #[.agg #[.int .i64 d9,.int .u32 (e7:Int),.int .u32 (e1:Int),.bool e3,.int .i64 c7,.int .i64 c9,.slice e5 c5 d1]] d fun e w'=>e=.returned (.int .i64 (Zw l.left))/\Ext d w'):=
  Zh fun d hE=>Lm (f6.out.ext hE)
 have c3:Hid (∀ d,Ext w d->Calls Tryz.prog 182 #[.agg #[.int .i64 e0,.int .u32 (e8:Int),.int .u32 (e2:Int),.bool e4,.int .i64 c8,.int .i64 d0,.slice e6 c6 d2]] d fun e w'=>e=.returned (.int .i64 (Zw l.right))/\Ext d w'):=
  Zh fun d hE=>Lm (f7.out.ext hE)
 have r:Hid (Un l=if Us B=false then 17 else if Zw l.left≠0 then 17 else if Zw l.right≠0 then 17 else if 4<c then 17 else if 6<i then 17 else if c+i=0 then 17 else if F<1\/3<F then 17 else if (l.ifs.any fun s=>!okS s)=true then 17 else if (l.outs.any fun j=>!Yl c j)=true then 17 else 0):=Zh (by
  rw [Ex,f5.out,b8.out,b9.out,f4.out])
 obtain⟨m,g6⟩:=zE (Un l);rw [g6] at r ⊢;obtain⟨k9,i3⟩:=zE (Us B);obtain⟨f9,g7⟩:=zE (Zw l.left);obtain⟨g0,g8⟩:=zE (Zw l.right);rw [i3] at c0 r;rw [g7] at c2 r;rw [g8] at c3 r;clear i1 i6 i4 g6 i3 g7 g8 j7 f6 f7 f5 j8 j9 f4;go_enter Tryz.func143,Tryz.ntmps143;go_upto_region 1 with (fail)
 obtain⟨e9,b0⟩:=zE (w.alloc (.cells #[.string B,.int .i64 d9,.int .u32 (e7:Int),.int .u32 (e1:Int),.bool e3,.int .i64 c7,.int .i64 c9,.slice e5 c5 d1,.int .i64 e0,.int .u32 (e8:Int),.int .u32 (e2:Int),.bool e4,.int .i64 c8,.int .i64 d0,.slice e6 c6 d2,.slice b2 c b1,.slice j0 i b3,.int .i64 F] 102));have d4:Ext w e9:=by rw [<-b0];exact(Q0.refl _ w).alloc _
 have d7:e9.heap[w.heap.size]?=some (.cells #[.string B,.int .i64 d9,.int .u32 (e7:Int),.int .u32 (e1:Int),.bool e3,.int .i64 c7,.int .i64 c9,.slice e5 c5 d1,.int .i64 e0,.int .u32 (e8:Int),.int .u32 (e2:Int),.bool e4,.int .i64 c8,.int .i64 d0,.slice e6 c6 d2,.slice b2 c b1,.slice j0 i b3,.int .i64 F] 102 (0,0)):=by rw [<-b0];exact Q3 rfl
 rw [b0];obtain⟨M,g5⟩:=zE w.heap.size;rw [g5] at d7 ⊢;have b5:=Zh d7;have x:=fun b=>cell_of_row _ _ b _ _ _ b5.out;clear b0 g5 d7;go_wp2_with fail;refine(c0.out e9 d4).mono ?_;rintro e l4 ⟨rfl,k⟩;have a4:=d4.trans k;have b6:=Zh (k.keep b5.out);have x:=fun b=>cell_of_row _ _ b _ _ _ b6.out;clear k b5 d4 c0;cases k9
 ·have g:Hid (m=17):=Zh (by rw [r.out];rfl);clear r;go_wp2;go_ret;exact⟨by rw [g.out];rfl,a4⟩
 go_wp2_with fail;refine(c2.out l4 a4).mono ?_;rintro e l5 ⟨rfl,k⟩;have a5:=a4.trans k;have b7:=Zh (k.keep b6.out);have x:=fun b=>cell_of_row _ _ b _ _ _ b7.out;clear k b6 a4 c2;by_cases L:f9=0;case neg=>
  have k8:(f9 != 0)=true:=by rw [bne_iff_ne];exact L
  have g:Hid (m=17):=Zh (by rw [r.out,if_neg zd,if_pos L]);clear r;go_wp2;go_ret;exact⟨by rw [g.out];rfl,a5⟩
 subst L;go_wp2_with fail;refine(c3.out l5 a5).mono ?_;rintro e l6 ⟨rfl,k⟩;have D:=a5.trans k;have f2:=Zh (k.keep b7.out);have x:=fun b=>cell_of_row _ _ b _ _ _ f2.out;clear k b7 a5 c3;by_cases L:g0=0;case neg=>
  have k8:(g0 != 0)=true:=by rw [bne_iff_ne];exact L
  have g:Hid (m=17):=Zh (by rw [r.out,if_neg zd,if_neg zd,if_pos L]);clear r;go_wp2;go_ret;exact⟨by rw [g.out];rfl,D⟩
 subst L;have t:Hid (m=if 4<c then 17 else if 6<i then 17 else if c+i=0 then 17 else if F<1\/3<F then 17 else if (l.ifs.any fun s=>!okS s)=true then 17 else if (l.outs.any fun j=>!Yl c j)=true then 17 else 0):=Zh (by rw [r.out];rfl);clear r;by_cases O:4<c
 ·have g2:(4:Int)<(c:Int):=by omega
  have g:Hid (m=17):=Zh (by rw [t.out,if_pos O]);clear t;go_wp2;go_ret;exact⟨by rw [g.out];rfl,D⟩
 by_cases R:6<i
 ·have g2:¬ (4:Int)<(c:Int):=by omega
  have k2:(6:Int)<(i:Int):=by omega
  have g:Hid (m=17):=Zh (by rw [t.out,if_neg O,if_pos R]);clear t;go_wp2;go_ret;exact⟨by rw [g.out];rfl,D⟩
 have g2:¬ (4:Int)<(c:Int):=by omega
 have k2:¬ (6:Int)<(i:Int):=by omega
 by_cases C:c+i=0
 ·have k3:((c:Int)+(i:Int) == 0)=true:=by rw [beq_iff_eq];omega
  have g:Hid (m=17):=Zh (by rw [t.out,if_neg O,if_neg R,if_pos C]);clear t C;go_wp2;go_ret;exact⟨by rw [g.out];rfl,D⟩
 have k3:((c:Int)+(i:Int) == 0)=false:=by rw [beq_eq_false_iff_ne];omega
 by_cases g3:F<1
 ·have g:Hid (m=17):=Zh (by rw [t.out,if_neg O,if_neg R,if_neg C,if_pos (.inl g3)]);clear t C;go_wp2;go_ret;exact⟨by rw [g.out];rfl,D⟩
 by_cases g4:3<F
 ·have g:Hid (m=17):=Zh (by rw [t.out,if_neg O,if_neg R,if_neg C,if_pos (.inr g4)]);clear t C;go_wp2;go_ret;exact⟨by rw [g.out];rfl,D⟩
 have b4:Hid (m=if (l.ifs.any fun s=>!okS s)=true then 17 else if (l.outs.any fun j=>!Yl c j)=true then 17 else 0):=Zh (by rw [t.out,if_neg O,if_neg R,if_neg C,if_neg (fun q=>q.elim g3 g4)]);clear t C;go_wp2;clear x
 refine wp_loop (fun a d=>∃(o:Nat),o<=c/\a.defers=[]/\gS a [1,3]=(82,[.pointer (some ⟨M,0,none⟩),.int .i64 o])/\Nr l.ifs o=false/\Ext l6 d)
  (fun a _=>c - (intOf (a.tmps.getD 3 undef)).toNat) ?_ ?_
 ·exact⟨0,by omega,rfl,rfl,by simp [Nr],Q0.refl _ _⟩
 rintro⟨l2,_⟩ d ⟨o,l9,d6,Y,U,E⟩;subst d6;obtain⟨l3,rfl⟩:=Qj Y;clear Y;have N:=Zh U;clear U;have a9:=E.keep f2.out;have x:=fun b=>cell_of_row _ _ b _ _ _ a9;have a6:=D.trans E;by_cases k6:o<c
 ·have d3:(o:Int)<(c:Int):=by omega
  have I:o<l.ifs.length:=by rw [b8.out];exact k6
  obtain⟨n,p,k1,X,k5,y,z⟩:=(f1.out.ext a6).at I;simp only [zV] at X;obtain⟨rfl,d8,rfl⟩:=X;clear d8;have i0:l.ifs.getD o (0,0)=l.ifs[o]:=by rw [List.getD_eq_getElem?_getD,List.getElem?_eq_getElem I];rfl
  have i2:=f1.out.2 _ (List.getElem_mem I);rw [i0] at y z;have v:=Hy (s:=l.ifs[o]) i2 d;obtain⟨u,H⟩:=zE (okS l.ifs[o]);rw [H] at v;obtain⟨s,i7⟩:=zE (l.ifs[o]);have P:Hid (okS l.ifs[o]=u):=Zh H;rw [i7] at y z v;obtain⟨m4,m5⟩:=s;dsimp only at y z;have Z:=Zh v;have Q:=Zh I;clear v i7 H i0 i2;go_wp2_with fail;refine Z.out.mono ?_;rintro e f8 ⟨rfl,k⟩;have T:=E.trans k;have a7:=D.trans T;clear Z y z k x a9;cases u
  ·have V:(l.ifs.any fun s=>!okS s)=true:=List.any_eq_true.2 ⟨_,List.getElem_mem Q.out,by rw [P.out];rfl⟩;have g:Hid (m=17):=Zh (by rw [b4.out,if_pos V]);clear V;go_wp2;go_ret;exact⟨by rw [g.out];rfl,a7⟩
  ·have W:=Q6s Q.out N.out P.out;have c1:=Zh W;clear W;go_wp2;exact⟨⟨o+1,by omega,tz,rfl,c1.out,T⟩,nz⟩
 obtain rfl:c=o:=by omega
 have d3:¬ (c:Int)<(c:Int):=by omega
 have J:=N.out;rw [Q8n (by rw [b8.out];exact Nat.le_refl _)] at J;have f0:Hid (m=if (l.outs.any fun j=>!Yl c j)=true then 17 else 0):=Zh (by rw [b4.out,if_neg (by rw [J];decide)]);clear J b4 N;go_wp2;clear x;have f3:=Zh a9;clear a9
 refine wp_loop (fun a f8=>∃(b:Nat),b<=i/\a.defers=[]/\gS a [1,4]=(82,[.pointer (some ⟨M,0,none⟩),.int .i64 b])/\N0 c l.outs b=false/\Ext d f8)
  (fun a _=>i - (intOf (a.tmps.getD 4 undef)).toNat) ?_ ?_
 ·exact⟨0,by omega,rfl,rfl,by simp [N0],Q0.refl _ _⟩
 obtain⟨l8,d5⟩:=zE d;rw [d5];rw [d5] at f3 a6;clear d5 E d;rintro⟨l2,_⟩ d ⟨b,m0,d6,Y,U,E⟩;subst d6;obtain⟨l3,rfl⟩:=Qj Y;clear Y;have N:=Zh U;clear U;have a8:=E.keep f3.out;have T:=a6.trans E;by_cases k7:b<i;case neg=>
  obtain rfl:b=i:=by omega
  have d3:¬ (b:Int)<(b:Int):=by omega
  have x:=fun b=>cell_of_row _ _ b _ _ _ a8;have J:=N.out;rw [Qau (by rw [b9.out];exact Nat.le_refl _)] at J;have g:Hid (m=0):=Zh (by rw [f0.out,if_neg (by rw [J];decide)]);clear J;go_wp2;go_ret;exact⟨by rw [g.out];rfl,T⟩
 have d3:(b:Int)<(i:Int):=by omega
 have I:b<l.outs.length:=by rw [b9.out];exact k7
 obtain⟨n,p,k1,X,k5,i5,y,z,a0,a1,a2,a3⟩:=(k0.out.ext T).at I;simp only [zV] at X;obtain⟨rfl,d8,rfl⟩:=X;clear d8;have v:=fun(f:World)=>Q97 i5 c l1 f;obtain⟨u,H⟩:=zE (Yl c l.outs[b]);simp only [H] at v;have P:Hid (Yl c l.outs[b]=u):=Zh H;obtain⟨j,i9⟩:=zE (l.outs[b]);rw [i9] at y z a0 a1 a2 a3 v;obtain⟨j1,j2,⟨j3,j4⟩,j5,j6⟩:=j;unfold Zu at v;dsimp only at y z a0 a1 a2 a3 v;have Z:=Zh v;have Q:=Zh I;have g9:∀(f:World),Ext d f->f.cell? ⟨M,15,none⟩=some (.slice b2 c b1)/\f.cell? ⟨M,16,none⟩=some (.slice (some ⟨n,p,none⟩) i b3)/\f.cell? ⟨n,p+b*6,none⟩=some (.int .i64 j1)/\f.cell? ⟨n,p+b*6+1,none⟩=some (.int .u32 (j2:Int))/\f.cell? ⟨n,p+b*6+2,none⟩=some (.int .u32 (j3:Int))/\f.cell? ⟨n,p+b*6+3,none⟩=some (.int .u32 (j4:Int))/\f.cell? ⟨n,p+b*6+4,none⟩=some (.int .u32 (j5:Int))/\f.cell? ⟨n,p+b*6+5,none⟩=some (.int .i64 j6):=by
  intro f G;have g1:=G.keep a8;exact⟨cell_of_row _ _ 15 _ _ _ g1,cell_of_row _ _ 16 _ _ _ g1,G.cell_some y id,G.cell_some z id,G.cell_some a0 id,G.cell_some a1 id,G.cell_some a2 id,G.cell_some a3 id⟩
 have c4:=Zh g9;have x:=cell_of_row _ _ 16 _ _ _ a8;clear v H i9 i5 y z a0 a1 a2 a3 g9 a8;go_upto_region 13 with (fail)
 clear x;refine wp_region_held_drew (S:=fun f=>f.cell? ⟨M,15,none⟩=some (.slice b2 c b1)/\f.cell? ⟨M,16,none⟩=some (.slice (some ⟨n,p,none⟩) i b3)/\f.cell? ⟨n,p+b*6,none⟩=some (.int .i64 j1)/\f.cell? ⟨n,p+b*6+1,none⟩=some (.int .u32 (j2:Int))/\f.cell? ⟨n,p+b*6+2,none⟩=some (.int .u32 (j3:Int))/\f.cell? ⟨n,p+b*6+3,none⟩=some (.int .u32 (j4:Int))/\f.cell? ⟨n,p+b*6+4,none⟩=some (.int .u32 (j5:Int))/\f.cell? ⟨n,p+b*6+5,none⟩=some (.int .i64 j6)) kz (c4.out _ (Q0.drew (Q0.refl _ d))) ?_;intro A;refine tH 0 72 A ?_;refine tH 1 73 A ?_;refine tH 2 74 A ?_;refine tH 3 75 A ?_;refine tH 4 76 A ?_;refine tH 5 77 A ?_;refine tH 6 78 A ?_;refine tH 7 79 A ?_;refine rH [8] ?_;refine AllReadyH.cons rfl (fun K hK=>?_) AllReadyH.nil;refine iw rfl ?_;go_simp;refine(Z.out _).mono ?_;rintro e l7 ⟨rfl,k⟩;have i8:Ext d l7:=Q0.trans (Q0.drew (Q0.refl _ d)) k;refine hK.out _ _ (c4.out _ i8) (fun hS1=>?_);clear hK K k;refine tH 9 81 hS1 ?_;refine wpAnyH_done kz ?_ _;clear A hS1 c4;have a7:=E.trans i8;have k4:=a6.trans a7;cases u
 ·have V:(l.outs.any fun j=>!Yl c j)=true:=List.any_eq_true.2 ⟨_,List.getElem_mem Q.out,by rw [P.out];rfl⟩;have g:Hid (m=17):=Zh (by rw [f0.out,if_pos V]);clear V;go_wp2;go_ret;exact⟨by rw [g.out];rfl,k4⟩
 ·have W:=Q7i Q.out N.out P.out;have c1:=Zh W;clear W;go_wp2;exact⟨⟨b+1,by omega,tz,rfl,c1.out,a7⟩,nz⟩
theorem Q4i{w:World}{l:Q5}{cs:List Value}{v:Value}{ws:Wd}(p:Zf w l cs)(d:Q6 w v ws) :
  Calls Tryz.prog 270 #[.agg cs.toArray,v] w fun e w'=>e=.returned (.int .i64 (X9 l ws))/\Ext w w':=by
 obtain⟨b9,b7,rfl,_⟩:=d.slice;obtain⟨b8,t⟩:=zE ws.length;rw [t] at d ⊢;have r:=fun(V:World) (hE:Ext w V)=>W6 (d.ext hE);have q:=fun(V:World) (hE:Ext w V)=>Mf (p.ext hE);obtain⟨a4,X,a9,Z,a2,N,P,a5,J,R,Y,b0,a0,a3,O,Q,a6,K,S,W,L,U,a8,M,a7,a1,rfl,x,G,H,u,F,E,A,B,C,D,z,b2,b3,b4,b5,b6⟩:=Zr p;have b:Hid (X9 l ws=if Un l=0 then wE ws else Un l):=Zh (by unfold X9 Un;cases Yg l <;> rfl);obtain⟨a,k⟩:=zE (X9 l ws);obtain⟨g,m⟩:=zE (Un l);obtain⟨T,o⟩:=zE (wE ws);rw [k,m,o] at b;rw [m] at q;rw [o] at r;rw [k];have I:=Zh r;have y:=Zh q;clear t k m o r q d p x G H u F E A B C D z;have i:Ext w (w.alloc (.cells #[.string a4,.int .i64 X,.int .u32 (a9:Int),.int .u32 (Z:Int),.bool a2,.int .i64 N,.int .i64 P,.slice a5 J R,.int .i64 Y,.int .u32 (b0:Int),.int .u32 (a0:Int),.bool a3,.int .i64 O,.int .i64 Q,.slice a6 K S,.slice W L U,.slice a8 M a7,.int .i64 a1] 102)):=(Q0.refl _ w).alloc _;go_enter Tryz.func270,Tryz.ntmps270
 go_wp2_with (refine wpList_load_row rfl 102 (.tmp 2) rfl w.heap.size rfl _ _ _ _ (Q3 rfl) Tryz.underlying102 rfl Tryz.lawInfo ?_)
 refine(y.out _ i).mono ?_;rintro e c0 ⟨rfl,c⟩;have j:=i.trans c;clear c i;by_cases s:g=0;case neg=>
  have b1:(g != 0)=true:=by rw [bne_iff_ne];exact s
  have f:Hid (a=g):=Zh (by rw [b.out,if_neg s]);clear b;go_wp2;go_ret;exact⟨by rw [f.out];rfl,j⟩
 subst s;have f:Hid (a=T):=Zh (by rw [b.out,if_pos rfl]);go_wp2_with fail;refine(I.out _ j).mono ?_;rintro e c1 ⟨rfl,c⟩;go_wp2;go_ret;exact⟨by rw [f.out];rfl,j.trans c⟩
theorem Q59{w:World}{ps:Qi}{lo:Option Addr}{n lc:Nat}(B:Z5 w (.slice lo n lc) ps) (j:ps.length=n) :
  Calls Tryz.prog 205 #[.slice lo n lc] w fun e w'=>e=.returned (.int .i64 (Ul (ps.map (·.1))))/\Ext w w':=by
 have a9:n<=maxLen:=by rw [<-j];exact B.1.2.1
 unfold maxLen at a9;obtain⟨g,k⟩:=zE (Ul (ps.map (·.1)));rw [k];have U:64<n->g=12:=fun h=>by rw [<-k];unfold Ul;rw [if_pos (by rw [List.length_map,j];exact h)]
 have V:¬ 64<n->∀ c (z:c<ps.length),Yg ps[c].1=false->g=17:=fun h c z i=>by rw [<-k];unfold Ul;rw [if_neg (by rw [List.length_map,j];exact h),Tb z i];rfl
 have W:¬ 64<n->Gn ps n->g=0:=fun h i=>by rw [<-k];unfold Ul;rw [if_neg (by rw [List.length_map,j];exact h),Ls oz i];rfl
 obtain⟨X,Y,a2,a3,a4⟩:=Zh5 B j U V W;clear B j k U V W;go_enter Tryz.func205,Tryz.ntmps205;by_cases v:64<n;case pos=>
  have i:(n:Int) > 64:=by omega
  have D:g=12:=a2.out v;subst D;go_wp2;go_ret;exact⟨rfl,Q0.refl _ _⟩
 have c0:¬ (n:Int) > 64:=by omega
 have G:=Zh v;clear v;go_wp2
 refine wp_loop (fun a K=>∃(c:Nat),c<=n/\a.defers=[]/\(a.tmps.size=19/\a.tmps.getD 0 undef=.slice lo n lc/\a.tmps.getD 3 undef=.int .i64 c)/\Gn ps c/\Ext w K)
  (fun a _=>((n:Int) - intOf (a.tmps.getD 3 undef)).toNat) ?_ ?_
 ·exact⟨0,by omega,rfl,⟨rfl,rfl,rfl⟩,by simp [Gn],Q0.refl _ _⟩
 rintro⟨b5,_⟩ K ⟨c,z,a6,⟨R,t,u⟩,P,M⟩;subst a6;obtain⟨b6,S⟩:=Qv R;obtain⟨d,rfl⟩:∃ x,x=b6:=⟨_,rfl⟩;have b1:b5=#[d 0,d 1,d 2,d 3,d 4,d 5,d 6,d 7,d 8,d 9,d 10,d 11,d 12,d 13,d 14,d 15,d 16,d 17,d 18]:=S;clear S;subst b1;change d 0=_ at t;change d 3=_ at u;rw [t,u];clear t u R;have s:=Zh P;have m:=Zh M;clear P M;by_cases a8:c<n;case pos=>
  have i:(c:Int)<(n:Int):=by omega
  have b9:(0:Int)<=(c:Int):=by omega
  have A:c<ps.length:=by rw [Y.out];exact a8
  obtain⟨a5,b3,b8,Q,a7,r,q,o⟩:=(X.out.ext m.out).at A;simp only [zV] at Q;obtain⟨rfl,b0,rfl⟩:=Q;have l:=a3.out G.out c A;have f:=fun h=>Pk A s.out h;obtain⟨E,C⟩:=zE (ps[c]);rw [C] at r q o l;simp only [C] at f;obtain⟨T,b4⟩:=E;dsimp only at r q o l f;have c1:IntKind.i64.wrap ((c:Int)+1)=(c:Int)+1:=IntWalk.i64_in _ oz;obtain⟨L,p⟩:=zE (Yg T);have O:Un T=if L=true then 0 else 17:=by unfold Un;rw [p]
  rw [p] at l;simp only [p] at f;have y:=Mf q;rw [O] at y;obtain⟨H,J,F,a1,Z⟩:=Zh5 y r o l f;clear b0 C q o r l f O p s a7 y
  go_wp2_with (refine Y5 (by rfl) 102 (.tmp 15) rfl a5 (b3+c*18) zr b4 _ J.out Tryz.underlying102 rfl (by rw [F.out];kernel_rfl) ?_)
  refine H.out.mono ?_;rintro e b7 ⟨rfl,N⟩;have I:=Zh (m.out.trans N);clear N H m J F;cases L with
  | true=>
   have f:=Z.out rfl;have a0:=Zh f;clear f;go_wp2;exact⟨⟨c+1,by omega,tz,⟨rfl,rfl,rfl⟩,a0.out,I.out⟩,mz⟩
  | false=>
   have D:g=17:=a1.out uz;subst D;go_wp2;go_ret;exact⟨rfl,I.out⟩
 obtain rfl:c=n:=by omega
 have i:¬ (c:Int)<(c:Int):=by omega
 have b2:g=0:=a4.out G.out s.out;subst b2;go_wp2;go_ret;exact⟨rfl,m.out⟩
theorem Kb{w:World}{ps:Qi}{qs:Q9}{lo:Option Addr}{n lc:Nat}{Y:Option Addr}{m X:Nat}(b6:Z5 w (.slice lo n lc) ps) (y:ps.length=n) (b7:Z7 w (.slice Y m X) qs) (J:qs.length=m) :
  Calls Tryz.prog 94 #[.slice lo n lc,.slice Y m X] w fun e w'=>e=.returned (.int .i64 (Qu (ps.map (·.1)) (qs.map (·.1))))/\Ext w w':=by
 have i8:n<=maxLen:=by rw [<-y];exact b6.1.2.1
 have i7:m<=maxLen:=by rw [<-J];exact b7.1.2.1
 unfold maxLen at i8 i7;obtain⟨g,C⟩:=zE (Qu (ps.map (·.1)) (qs.map (·.1)));rw [C];have f8:6<n->g=12:=fun h=>by rw [<-C];unfold Qu;rw [if_pos (by rw [List.length_map,y];exact h)]
 have f9:¬ 6<n->∀ f (b4:f<ps.length),Yg ps[f].1=false->g=17:=fun h f b4 r=>by rw [<-C];unfold Qu;rw [if_neg (by rw [List.length_map,y];exact h),Tb b4 r];rfl
 have g0:¬ 6<n->Gn ps n->32<m->g=12:=fun h r G=>by rw [<-C];unfold Qu;rw [if_neg (by rw [List.length_map,y];exact h),Ls oz r,if_pos rfl,if_pos (by rw [List.length_map,J];exact G)]
 have g1:¬ 6<n->Gn ps n->¬ 32<m->g=Xf ((qs.map (·.1)).map wpE):=fun h r G=>by rw [<-C];unfold Qu;rw [if_neg (by rw [List.length_map,y];exact h),Ls oz r,if_pos rfl,if_neg (by rw [List.length_map,J];exact G)]
 obtain⟨c8,g4,d3,d4,d5,d6,g7,c9⟩:=Zh8 b6 y f8 f9 g0 g1 b7 J;clear b6 y b7 J C f8 f9 g0 g1;go_enter Tryz.func94,Tryz.ntmps94;by_cases a6:6<n;case pos=>
  have r:(n:Int) > 6:=by omega
  have i:g=12:=d3.out a6;subst i;go_wp2;go_ret;exact⟨rfl,Q0.refl _ _⟩
 have i3:¬ (n:Int) > 6:=by omega
 have M:=Zh a6;clear a6;go_wp2
 refine wp_loop (fun a Q=>∃(f:Nat),f<=n/\a.defers=[]/\(a.tmps.size=49/\a.tmps.getD 0 undef=.slice lo n lc/\a.tmps.getD 1 undef=.slice Y m X/\a.tmps.getD 5 undef=.int .i64 f)/\Gn ps f/\Ext w Q)
  (fun a _=>((n:Int) - intOf (a.tmps.getD 5 undef)).toNat) ?_ ?_
 ·exact⟨0,by omega,rfl,⟨rfl,rfl,rfl,rfl⟩,by simp [Gn],Q0.refl _ _⟩
 rintro⟨c3,_⟩ Q ⟨f,b4,b1,⟨L,a3,t,a4⟩,f1,H⟩;subst b1;obtain⟨c4,z⟩:=Qv L;obtain⟨c,rfl⟩:∃ x,x=c4:=⟨_,rfl⟩;have c0:c3=#[c 0,c 1,c 2,c 3,c 4,c 5,c 6,c 7,c 8,c 9,c 10,c 11,c 12,c 13,c 14,c 15,c 16,c 17,c 18,c 19,c 20,c 21,c 22,c 23,c 24,c 25,c 26,c 27,c 28,c 29,c 30,c 31,c 32,c 33,c 34,c 35,c 36,c 37,c 38,c 39,c 40,c 41,c 42,c 43,c 44,c 45,c 46,c 47,c 48]:=z;clear z;subst c0;change c 0=_ at a3;change c 1=_ at t;change c 5=_ at a4;rw [a3,t,a4];clear a3 t a4 L;have E:=Zh f1;have j:=Zh H;clear f1 H;by_cases i6:f<n;case pos=>
  have r:(f:Int)<(n:Int):=by omega
  have i1:(0:Int)<=(f:Int):=by omega
  have b5:f<ps.length:=by rw [g4.out];exact i6
  obtain⟨d8,f6,j8,k,b3,o,U,R⟩:=(c8.out.ext j.out).at b5;simp only [zV] at k;obtain⟨rfl,i9,rfl⟩:=k;have K:=d4.out M.out f b5;have s:=fun h=>Pk b5 E.out h;obtain⟨c2,b8⟩:=zE (ps[f]);rw [b8] at o U R K;simp only [b8] at s;obtain⟨f7,j2⟩:=c2;dsimp only at o U R K s;have j1:IntKind.i64.wrap ((f:Int)+1)=(f:Int)+1:=IntWalk.i64_in _ oz;obtain⟨d7,T⟩:=zE (Yg f7);have e9:Un f7=if d7=true then 0 else 17:=by unfold Un;rw [T]
  rw [T] at K;simp only [T] at s;have b0:=Mf U;rw [e9] at b0;obtain⟨c6,d1,c5,g8,g5⟩:=Zh5 b0 o R K s;clear i9 b8 U R o K s e9 T E b3 b0
  go_wp2_with (refine Y5 (by rfl) 102 (.tmp 19) rfl d8 (f6+f*18) zr j2 _ d1.out Tryz.underlying102 rfl (by rw [c5.out];kernel_rfl) ?_)
  refine c6.out.mono ?_;rintro e i0 ⟨rfl,u⟩;have B:=Zh (j.out.trans u);clear u c6 j d1 c5;cases d7 with
  | true=>
   have s:=g5.out rfl;have g6:=Zh s;clear s;go_wp2;exact⟨⟨f+1,by omega,tz,⟨rfl,rfl,rfl,rfl⟩,g6.out,B.out⟩,mz⟩
  | false=>
   have i:g=17:=g8.out uz;subst i;go_wp2;go_ret;exact⟨rfl,B.out⟩
 obtain rfl:f=n:=by omega
 have r:¬ (f:Int)<(f:Int):=by omega
 by_cases d9:32<m;case pos=>
  have G:(m:Int) > 32:=by omega
  have i:g=12:=d5.out M.out E.out d9;subst i;go_wp2;go_ret;exact⟨rfl,j.out⟩
 have G:¬ (m:Int) > 32:=by omega
 have i:=d6.out M.out E.out d9;have a0:=Zh i;clear i d3 d4 d5 d6 M E i3;go_wp2
 refine wp_loop (fun a Q=>∃(d:Nat),d<=m/\a.defers=[]/\(a.tmps.size=49/\a.tmps.getD 1 undef=.slice Y m X/\a.tmps.getD 6 undef=.int .i64 d)/\Mr (qs.map (·.1)) d/\Ext w Q)
  (fun a _=>((m:Int) - intOf (a.tmps.getD 6 undef)).toNat) ?_ ?_
 ·exact⟨0,by omega,rfl,⟨rfl,rfl,rfl⟩,rfl,j.out⟩
 clear j c8;rintro⟨c3,_⟩ g9 ⟨d,k3,b1,⟨L,t,a5⟩,e4,H⟩;subst b1;obtain⟨c4,z⟩:=Qv L;obtain⟨c,rfl⟩:∃ x,x=c4:=⟨_,rfl⟩;have c0:c3=#[c 0,c 1,c 2,c 3,c 4,c 5,c 6,c 7,c 8,c 9,c 10,c 11,c 12,c 13,c 14,c 15,c 16,c 17,c 18,c 19,c 20,c 21,c 22,c 23,c 24,c 25,c 26,c 27,c 28,c 29,c 30,c 31,c 32,c 33,c 34,c 35,c 36,c 37,c 38,c 39,c 40,c 41,c 42,c 43,c 44,c 45,c 46,c 47,c 48]:=z;clear z;subst c0;change c 1=_ at t;change c 6=_ at a5;rw [t,a5];clear t a5 L;have Z:=Zh e4;have j:=Zh H;clear e4 H;have f0:((qs.map (·.1)).map wpE).length=m:=by rw [List.length_map,List.length_map,c9.out]
 by_cases i5:d<m;case neg=>
  obtain rfl:d=m:=by omega
  have i2:¬ (d:Int)<(d:Int):=by omega
  have c1:g=0:=by
   rw [a0.out];have:=Z.out;unfold Mr at this
   rwa [List.take_of_length_le oz] at this
  subst c1;clear f0;go_wp2;go_ret;exact⟨rfl,j.out⟩
 have i2:(d:Int)<(m:Int):=by omega
 have i1:(0:Int)<=(d:Int):=by omega
 have e7:d<qs.length:=by rw [c9.out];exact i5
 have e6:((qs.map (·.1)).map wpE)[d]' oz=wpE qs[d].1:=by rw [List.getElem_map,List.getElem_map]
 have b2:Xf (((qs.map (fun(q:(Wd × Wd) × List Value)=>q.1)).map wpE).take d)=0:=Z.out;have I:=Sl (l:=(qs.map (fun(q:(Wd × Wd) × List Value)=>q.1)).map wpE) (n:=d) oz b2;have v:=S7 (l:=(qs.map (fun(q:(Wd × Wd) × List Value)=>q.1)).map wpE) (n:=d) oz b2;rw [e6] at I v;obtain⟨d8,f6,j7,k,o,⟨c,k7,e3,z,j0⟩,j3⟩:=U9.at (Qg g7.out j.out) e7;replace k:=k zd;obtain⟨k,b3⟩:=k;simp only [zV] at k;obtain⟨rfl,c1,rfl⟩:=k;rw [e3] at o;obtain⟨k1,j9,rfl,f3,j4⟩:=z;obtain⟨k5,k4,rfl,f4,j5⟩:=j0;have a2:=o 0 _ rfl;have F:=o 1 _ rfl;rw [Nat.add_zero] at a2;obtain⟨p,a7⟩:=zE (wE qs[d].1.1);obtain⟨A,a8⟩:=zE (wE qs[d].1.2);have f5:wpE qs[d].1=if p=0 then A else p:=by unfold wpE;rw [a7,a8]
 rw [f5] at I v;have e1:p≠0->g=p:=fun h=>by rw [if_neg h] at v;rw [a0.out];exact v h
 have e2:p=0->A≠0->g=A:=fun h h'=>by rw [if_pos h] at v;rw [a0.out];exact v h'
 have f2:p=0->A=0->Mr (qs.map (·.1)) (d+1):=fun h h'=>by rw [if_pos h,h'] at I;exact I
 have V:=W6 f3;have W:=fun(D:World) (hD:Ext g9 D)=>W6 (f4.ext hD);rw [a7] at V;simp only [a8] at W;obtain⟨k0,e5⟩:=zE (qs[d].1.1.length);obtain⟨k6,b9⟩:=zE (qs[d].1.2.length);rw [e5] at a2 V;rw [b9] at F;simp only [b9] at W;obtain⟨N,O,P,d2,a1,g2⟩:=Zh6 e1 e2 f2 V W F;have j1:IntKind.i64.wrap ((d:Int)+1)=(d:Int)+1:=IntWalk.i64_in _ oz;clear f0 e6 I v b2 c1 j3 j4 j5 e3 o f3 f4 a7 a8 f5 e1 e2 f2 V W e5 b9 b3 e7 Z F;go_wp2_with fail;refine d2.out.mono ?_;rintro e i0 ⟨rfl,u⟩;have d0:=Zh u;have B:=Zh (j.out.trans u);have F:=u.cell_some g2.out id;clear u d2 a2 j;by_cases S:p=0;case neg=>
  have i:g=p:=N.out S;subst i;have k2:(g == 0)=false:=by rw [beq_eq_false_iff_ne];exact S
  have i4:(g != 0)=true:=by rw [bne_iff_ne];exact S
  clear N O P a1;go_wp2;go_ret;exact⟨rfl,B.out⟩
 subst S;go_wp2_with fail;refine(a1.out _ d0.out).mono ?_;rintro e j6 ⟨rfl,e0⟩;have c7:=Zh (B.out.trans e0);clear e0 a1 F B d0;by_cases a9:A=0
 ·subst a9;have e8:=P.out uz uz;have g3:=Zh e8;clear e8 P N O;go_wp2;exact⟨⟨d+1,by omega,tz,⟨rfl,rfl,rfl⟩,g3.out,c7.out⟩,mz⟩
 ·have i:g=A:=O.out uz a9;subst i;have i4:(g != 0)=true:=by rw [bne_iff_ne];exact a9
  clear N O P;go_wp2;go_ret;exact⟨rfl,c7.out⟩
def Xi(W:World)(u v x:Value):Prop:=Qw (fun g=>g<W.heap.size/\u.ownBlock≠some g/\v.ownBlock≠some g) x
structure TrP (b:Nat) (W:World) (u v:Value) (vals:List Value) (tr:List (Nat × Wd)):Prop where
 ou:W.ownsRow b 3 1 u tr.length (Qc (tr.map (·.1)))
 ov:W.ownsRow b 99 1 v tr.length vals
 wd:Yk W vals (tr.map (·.2))
 wk:∀ x∈vals,Xi W u v x
theorem TrP.nil(b:Nat)(W:World):TrP b W (.slice none 0 0) (.slice none 0 0) [] []:=⟨World.ownsRow_nil _ _ _ _,World.ownsRow_nil _ _ _ _,trivial,fun x hx=>by cases hx⟩
theorem TrP.ext{b:Nat}{A B:World}{u v:Value}{vals:List Value}{tr:List (Nat × Wd)} (h:TrP b A u v vals tr) (ht:Ext A B):TrP b B u v vals tr:=
 ⟨Q7 h.ou ht,Q7 h.ov ht,h.wd.ext ht,fun x hx=>(h.wk x hx).mono fun _g hg=>⟨Nat.lt_of_lt_of_le hg.1 ht.size,hg.2⟩⟩
theorem TrP.out{b:Nat}{A:World}{u v:Value}{vals:List Value}{tr:List (Nat × Wd)} (h:TrP b A u v vals tr):Xy b A u v tr:=⟨h.ou,vals,h.ov,h.wd⟩
theorem Xi.ext{A B:World}{u v x:Value}(h:Xi A u v x)(ht:Ext A B):Xi B u v x:=h.mono fun _g hg=>⟨Nat.lt_of_lt_of_le hg.1 ht.size,hg.2⟩
theorem Xi.low{W:World}{b:Nat}{e1 e2:TypeId}{s1 s2 n1 n2:Nat}{u v x:Value}{x1 x2:List Value}(hu:W.ownsRow b e1 s1 u n1 x1)(hv:W.ownsRow b e2 s2 v n2 x2)(hx:Qw (fun g=>g<b/\g<W.heap.size) x):Xi W u v x:=
 hx.mono fun g hg=>⟨hg.2,fun e=>by have:=(hu.lt g e).1;omega,fun e=>by have:=(hv.lt g e).1;omega⟩
theorem Xi.own{W:World}{b k:Nat}{i j f:TypeId}{s t w p q r:Nat}{u v x:Value}{y z A:List Value}(n:W.ownsRow b i s u p y)(o:W.ownsRow b j t v q z)(d:W.ownsRow k f w x r A)(l:i≠f)(m:j≠f):Xi W u v x:=by
 intro c H G B a F;have g:x.ownBlock=some c:=by
  rcases d.2 with ⟨e,_⟩ | ⟨E,C,D,e,_⟩
  ·rw [e] at a;cases a
  ·rw [e] at a;cases a;rw [e];rfl
 exact⟨(d.lt c g).2,fun hu'=>Jp n d l c hu' g,fun hv'=>Jp o d m c hv' g⟩
theorem TrP.push{b:Nat}{V W:World}{u v u' v':Value}{e:List Value}{c:List (Nat × Wd)} (h:TrP b V u v e c) {i:Nat} {r:Wd} {x:Value} (o:Zl V x r) (j:Xi V u v x)
  (s:W.ownsRow b 3 1 u' (c.length+1) (Qc (c.map (·.1))++[.int .i64 (i:Int)])) (t:W.ownsRow b 99 1 v' (c.length+1) (e++[x]))
  (m:Q0 (fun b=>u.ownBlock=some b\/v.ownBlock=some b) V W) (z:u'.ownBlock=u.ownBlock\/∃ k,V.heap.size<=k/\u'.ownBlock=some k) (A:v'.ownBlock=v.ownBlock\/∃ k,V.heap.size<=k/\v'.ownBlock=some k) :
  TrP b W u' v' (e++[x]) (c++[(i,r)])/\Zl W x r/\Xi W u' v' x:=by
 have q:∀ {y y':Value} (g:Nat),y.ownBlock≠some g->g<V.heap.size->(y'.ownBlock=y.ownBlock\/∃ k,V.heap.size<=k/\y'.ownBlock=some k)->y'.ownBlock≠some g:=fun g h1 h2 d=>by
  rcases d with d | ⟨k,d,w⟩
  ·rw [d];exact h1
  ·rw [w];intro f;cases f;omega
 have l:∀ y∈e++[x],Xi V u v y:=fun y a=>by
  rcases List.mem_append.1 a with a | a
  ·exact h.wk y a
  ·simp only [List.mem_singleton] at a;subst a;exact j
 have p:∀ y,Xi V u v y->Xi W u' v' y:=fun y a=>a.mono fun g hg=>⟨Nat.lt_of_lt_of_le hg.1 m.size,q g hg.2.1 hg.1 z,q g hg.2.2 hg.1 A⟩;have n:Q0 (fun b=>¬ (b<V.heap.size/\u.ownBlock≠some b/\v.ownBlock≠some b)) V W:=m.mono fun b _ f hn=>f.elim hn.2.1 hn.2.2;refine⟨⟨?_,?_,?_,fun y a=>p y (l y a)⟩,o.keepS n j,p x j⟩
 ·rw [List.length_append,List.map_append];show W.ownsRow _ _ _ _ _ (Qc (c.map (·.1)++[i]));rw [Yu];exact s
 ·rw [List.length_append];exact t
 ·rw [List.map_append];exact(h.wd.snoc o).keepS n l
theorem TrP.push2{b:Nat}{V W:World}{u v u' v':Value}{f:List Value}{c:List (Nat × Wd)} (h:TrP b V u v f c) {i:Nat} {r:Wd} {x:Value} (w:Zl W x r) (p:Xi W u' v' x)
  (m:W.ownsRow b 3 1 u' (c.length+1) (Qc (c.map (·.1))++[.int .i64 (i:Int)])) (n:W.ownsRow b 99 1 v' (c.length+1) (f++[x]))
  (j:Q0 (fun b=>u.ownBlock=some b\/v.ownBlock=some b) V W) (s:u'.ownBlock=u.ownBlock\/∃ k,V.heap.size<=k/\u'.ownBlock=some k) (t:v'.ownBlock=v.ownBlock\/∃ k,V.heap.size<=k/\v'.ownBlock=some k) :
  TrP b W u' v' (f++[x]) (c++[(i,r)]):=by
 have l:∀ {y y':Value} (g:Nat),y.ownBlock≠some g->g<V.heap.size->(y'.ownBlock=y.ownBlock\/∃ k,V.heap.size<=k/\y'.ownBlock=some k)->y'.ownBlock≠some g:=fun g h1 h2 d=>by
  rcases d with d | ⟨k,d,o⟩
  ·rw [d];exact h1
  ·rw [o];intro e;cases e;omega
 have z:∀ y,Xi V u v y->Xi W u' v' y:=fun y a=>a.mono fun g hg=>⟨Nat.lt_of_lt_of_le hg.1 j.size,l g hg.2.1 hg.1 s,l g hg.2.2 hg.1 t⟩;have q:Q0 (fun b=>¬ (b<V.heap.size/\u.ownBlock≠some b/\v.ownBlock≠some b)) V W:=j.mono fun b _ e hn=>e.elim hn.2.1 hn.2.2;refine⟨?_,?_,?_,fun y a=>?_⟩
 ·rw [List.length_append,List.map_append];show W.ownsRow _ _ _ _ _ (Qc (c.map (·.1)++[i]));rw [Yu];exact m
 ·rw [List.length_append];exact n
 ·rw [List.map_append];exact(h.wd.keepS q h.wk).snoc w
 ·rcases List.mem_append.1 a with a | a
  ·exact z y (h.wk y a)
  ·simp only [List.mem_singleton] at a;subst a;exact p
theorem Pv{w:World}{cs:List Value}{l:Q5}{vo:Option Addr}{vn vc:Nat}{ws:Wd}(f4:Zf w l cs)(L:Q6 w (.slice vo vn vc) ws) (i9:ws.length=vn) (F:vn<=vc) (i:Nat) (G:i+l.ifs.length<=vn)
  (a9:∀ x∈l.outs,Yl l.ifs.length x=true) (j2:l.outs.length<=100) (j4:vn<=800) :
  Calls Tryz.prog 286 #[.agg cs.toArray,.slice vo vn vc,.int .i64 i] w fun e w'=>∃ u,e=.returned u/\w'.ownsRow w.heap.size 95 2 u (Y1 l ws i).length (Za (Y1 l ws i))/\Ext w w':=by
 subst i9;obtain⟨c0,b3,c8,b5,b8,W,Y,c1,U,a0,b4,c9,b6,b9,X,Z,c2,V,a1,b2,f,b1,c7,p,c6,b7,rfl,d6,i0,i1,g7,g9,k3,k1,k2,d7,Q,k0,l5,l6,l7,l8,l9⟩:=Zr f4;rw [d7.out] at G a9;rw [Q.out] at j2;have g:Q6 w _ _:=Q6.cut L (a:=0) (b:=i) oz oz F;have M:Q6 w _ _:=Q6.cut L (a:=i) (b:=i+f) oz G F;have N:Q6 w _ _:=Q6.cut L (a:=i+f) (b:=ws.length) G oz F;rw [take_zero] at g;rw [show i+f - i=f by omega] at M;rw [Wp rfl] at N;have g6:=fun D=>Rz (A:=vo) (n:=ws.length) (c:=vc) Jn Uf i oz D;have d0:=fun D=>P2 (A:=vo) (n:=ws.length) (c:=vc) Jn Uf i (i+f) oz oz D;have d1:=fun D=>Mp (A:=vo) (n:=ws.length) (c:=vc) Jn Uf (i+f) oz D;simp only [Int.natCast_add] at d0 d1;obtain⟨m4,o,k7,g0⟩:∃ y z e,sliced vo 0 i vc 2=.slice y z e:=⟨_,_,_,rfl⟩;obtain⟨m5,m7,k8,g1⟩:∃ y z e,sliced vo i (i+f) vc 2=.slice y z e:=⟨_,_,_,rfl⟩;obtain⟨m6,j9,k9,g2⟩:∃ y z e,sliced vo (i+f) ws.length vc 2=.slice y z e:=⟨_,_,_,rfl⟩;rw [g0] at g g6;rw [g1] at M d0;rw [g2] at N d1;clear g0 g1 g2;have f5:((ws.drop i).take f).length=f:=by rw [List.length_take,List.length_drop];omega
 have J:=fun(D:World) (hE:Ext w D)=>Q0c (d6.out.ext hE) (M.ext hE) (by rw [f5];exact a9) (by rw [Q.out];omega);have s:Hid (Y1 l ws i=ws.take i++Yz l ((ws.drop i).take f)++ws.drop (i+f)):=Zh (by unfold Y1 Ku;rw [d7.out]);have I:=Yw l ((ws.drop i).take f);rw [Q.out] at I J;obtain⟨B,e4⟩:=zE (Yz l ((ws.drop i).take f));rw [e4] at J s I;obtain⟨t,e2⟩:=zE (Y1 l ws i);rw [e2] at s ⊢;obtain⟨rfl,f6⟩:=Mn g (show (ws.take i).length=i by rw [List.length_take];omega);obtain⟨vn,f9⟩:=zE ws.length;obtain⟨d,l1⟩:=zE (vn - (o+f));obtain⟨rfl,f7⟩:=Mn N (show (ws.drop (o+f)).length=d by rw [List.length_drop];omega);have d3:Hid (t.length=o+p+j9):=Zh (by rw [s.out,List.length_append,List.length_append,I,List.length_take,List.length_drop];omega);have P:Hid (Za t=Za (ws.take o)++(Za B++Za (ws.drop (o+f)))):=Zh (by rw [s.out,Zn,Zn,List.append_assoc]);rw [d3.out];rw [f9] at G F j4 g6 d0 d1 ⊢;obtain⟨T,i3,i4⟩:=Zh3 J f6 f7;have P:=P;clear f4 L g M N a9 J f5 I e4 e2 f6 f7 f9 s d3 g7 g9 i0 i1 d6;go_enter Tryz.func286,Tryz.ntmps286;go_upto_region 1 with (fail)
 obtain⟨m,g⟩:=zE (w.alloc (.cells #[.string c0,.int .i64 b3,.int .u32 (c8:Int),.int .u32 (b5:Int),.bool b8,.int .i64 W,.int .i64 Y,.slice c1 U a0,.int .i64 b4,.int .u32 (c9:Int),.int .u32 (b6:Int),.bool b9,.int .i64 X,.int .i64 Z,.slice c2 V a1,.slice b2 f b1,.slice c7 p c6,.int .i64 b7] 102));have a4:Ext w m:=by rw [<-g];exact(Q0.refl _ w).alloc _
 have H:m.heap[w.heap.size]?=some (.cells #[.string c0,.int .i64 b3,.int .u32 (c8:Int),.int .u32 (b5:Int),.bool b8,.int .i64 W,.int .i64 Y,.slice c1 U a0,.int .i64 b4,.int .u32 (c9:Int),.int .u32 (b6:Int),.bool b9,.int .i64 X,.int .i64 Z,.slice c2 V a1,.slice b2 f b1,.slice c7 p c6,.int .i64 b7] 102 (0,0)):=by rw [<-g];exact Q3 rfl
 have b0:m.heap.size=w.heap.size+1:=by rw [<-g];simp
 rw [g];obtain⟨j,a3⟩:=zE w.heap.size;rw [a3] at H b0 ⊢;have d4:=Zh H;have r:=Zh a3;have a2:Ext m (m.alloc (.cells #[] 95)):=(Q0.refl _ m).alloc _;have a7:=World.ownsRow_made (base:=j+1) (e:=95) (size:=2) m #[] 0 oz zd rfl;rw [b0] at a7;obtain⟨d8,e0,O⟩:=Zh3 a7 (i3.out.ext (a4.trans a2)) a2;have i6:=cell_of_row _ _ 15 _ _ _ H;clear a7 a2 g a3 H
 go_wp2_with (at_builtin;refine Jo rfl (.tmp 12) (.tmp 15) 99 rfl (j+1) 95 _ 2 8 Tryz.underlying99 @Xt rfl zd _ 0 [] rfl d8.out _ _ _ _ rfl e0.out (Uz _) ?c3 ?c4 ?c5 ?_)
 case c3=>unfold maxLen;omega
 case c4=>omega
 case c5=>have:=O.out.size;omega
 intro k4 m1 q e5 f1 _;have C:Ext m q:=O.out.after f1 (fun b h1 e=>by simp [Value.ownBlock] at e;omega);have a5:=a4.trans C;have d5:=Zh (C.keep d4.out);have R:=Zh e5;have l2:j+1<=q.heap.size:=by have:=C.size;omega
 have j0:=T.out q.drew a5.drew;have i2:=Zh (fun(D:World) (hD:Ext w D)=>T.out D hD);clear j0 e5 f1 d4 i6 e0 O d8 C a4 b0 T;go_upto_region 3 with (fail)
 have j3:IntKind.i64.wrap ((o:Int)+(f:Int))=(o:Int)+(f:Int):=IntWalk.i64_in _ oz;refine Z0 (S:=fun D=>D.heap[j]?=some (.cells #[.string c0,.int .i64 b3,.int .u32 (c8:Int),.int .u32 (b5:Int),.bool b8,.int .i64 W,.int .i64 Y,.slice c1 U a0,.int .i64 b4,.int .u32 (c9:Int),.int .u32 (b6:Int),.bool b9,.int .i64 X,.int .i64 Z,.slice c2 V a1,.slice b2 f b1,.slice c7 p c6,.int .i64 b7] 102 (0,0))) [] kz (Y4 d5.out) ?_;intro k;refine tE 0 17 k ?_;refine tkE (i:=1) (d:=18) (v:=?_) rfl (Or.inl ⟨by rfl,?_⟩) k ?_;rotate_left
 ·intro w f0;(try dsimp only at f0);have j1:=f0;refine Uq (x:=.tmp 3) ?_ j ?_ _ _ _ j1 Tryz.underlying102 Tryz.lawInfo <;> rfl
 try simp only [Act.put,pq]
 refine tE 2 19 k ?_;refine tE 3 20 k ?_;refine tE 4 21 k ?_;refine tE 5 22 k ?_;refine tE 6 23 k ?_;refine tE 7 24 k ?_;refine rE [8] ?_;refine Q1.cons rfl (fun K hK=>?_) Q1.nil;refine iw rfl ?_;go_simp;refine(i2.out _ (a5.drew)).mono ?_;rintro e d2 ⟨m0,rfl,e7,E⟩;have i7:Ext w d2:=(a5.drew).trans E;have a6:=E.keep (Y4 d5.out);obtain⟨j6,j5,rfl⟩:=Zd e7;have f3:Rd d2 (.slice j6 p j5) p 2 (Za B):=Rd.of_own e7;have e6:=Q7 R.out (Q0.trans (Q0.drew (Q0.refl (fun _=>False) q)) E);have l3:j+1<=d2.heap.size:=by have:=E.size;have l0:q.drew.heap.size=q.heap.size:=rfl;omega
 refine hK.out _ _ a6 (fun hS5=>?_);clear hK K;try simp only [Act.put,pq]
 refine rE [9] ?_;refine Q1.cons rfl (fun K hK=>?_) Q1.nil;refine iw rfl ?_;refine Fk (.tmp 17) (.tmp 25) 99 rfl (j+1) 95 _ 2 8 Tryz.underlying99 @Xt rfl zd _ _ _ rfl e6 _ _ _ _ rfl f3 (Uz _) (by unfold maxLen;omega) oz (by have:=r.out;omega) ?_;intro k5 m2 j7 e8 a8 _;have e3:=a8.heap a6 (fun e=>by have:=(R.out.lt _ e).1;omega);have e1:Ext w j7:=i7.after a8 (fun b hb e=>by have:=(R.out.lt _ e).1;have:=r.out;omega);have l4:=a8.size;refine hK.out _ _ e3 (fun hS6=>?_);clear hK K;try simp only [Act.put,List.setIfInBounds_toArray]
 refine tE 10 8 hS6 ?_;try simp only [Act.put]
 refine Ql kz ?_ _;have f8:=i4.out.ext e1;have i5:=Zh f8;have d9:=Zh e8;clear f8 e8 f3 e6 a6 e3 hS6 hS5 k j3
 go_wp2_with (at_builtin;refine Jo rfl (.tmp 27) (.tmp 32) 99 rfl (j+1) 95 _ 2 8 Tryz.underlying99 @Xt rfl zd _ _ _ rfl d9.out _ _ _ _ rfl i5.out (Uz _) ?g3 ?g4 ?g5 ?_)
 case g3=>unfold maxLen;omega
 case g4=>omega
 case g5=>have:=r.out;omega
 intro k6 m3 j8 e9 f2 _;have i8:Ext w j8:=e1.after f2 (fun b hb e=>by have:=(d9.out.lt _ e).1;have:=r.out;omega);have g8:=Zh e9;clear e9 f2;go_wp2;go_ret;exact⟨_,rfl,by rw [P.out];refine Zb (base:=j+1) ?_ (by have:=r.out;omega);exact g8.out,i8⟩
def Wj(l:List Bool)(b:Bool):Int:=match l.findIdx? (· == b) with | some i=>(i:Int) | none=>-1
def Q6h(l:List Bool)(b:Bool)(k:Nat):Prop:=∀ x∈l.take k,(x == b)=false
theorem Qfi{l:List Bool}{b:Bool}{k:Nat}(c:k<l.length)(h:Q6h l b k)(a:l[k]=b):Wj l b=(k:Int):=by
 unfold Wj;have:l.findIdx? (· == b)=some k:=by
  rw [List.findIdx?_eq_some_iff_getElem];refine⟨c,by simp [a],fun j hj=>?_⟩;have:=h l[j] (List.mem_take_iff_getElem.2 ⟨j,by omega,rfl⟩);simp [this]
 rw [this]
theorem Qdr{l:List Bool}{b:Bool}{k:Nat}(a:l.length<=k)(h:Q6h l b k):Wj l b=-1:=by
 unfold Wj;have:l.findIdx? (· == b)=none:=by
  rw [List.findIdx?_eq_none_iff];intro d c;exact h d (by rw [List.take_of_length_le a];exact c)
 rw [this]
theorem Q7w{w:World}{l:List Bool}{ao:Option Addr}{n c:Nat}(b:Bool)(h:Rd w (.slice ao n c) n 1 (l.map .bool)) (A:l.length=n) :
  Calls Tryz.prog 85 #[.slice ao n c,.bool b] w fun e w'=>e=.returned (.int .i64 (Wj l b))/\w'=w:=by
 have N:=h.2.1;unfold maxLen at N;have H:=Zh h;have t:=Zh A;obtain⟨x,o⟩:=zE (Wj l b);rw [o];have u:=Zh o;clear h A o;go_enter Tryz.func85,Tryz.ntmps85;go_wp2
 refine wp_loop (fun a v=>∃(d:Nat),d<=n/\a.defers=[]/\gS a [0,1,7,8]=(19,[.slice ao n c,.bool b,.int .i64 n,.int .i64 d])/\Q6h l b d/\v=w)
  (fun a _=>((n:Int) - intOf (a.tmps.getD 8 undef)).toNat) ?_ ?_
 ·exact⟨0,by omega,rfl,rfl,fun i f=>(by simp at f),rfl⟩
 rintro⟨W,_⟩ v ⟨d,T,L,E,C,rfl⟩;subst L;obtain⟨X,rfl⟩:=Qj E;clear E;have m:=Zh C;clear C;by_cases M:d<n
 ·have K:(d:Int)<(n:Int):=by omega
  have R:(0:Int)<=(d:Int):=by omega
  have j:d<l.length:=by rw [t.out];exact M
  obtain⟨F,G,O,P,D,r⟩:=H.out;simp only [zV,true_and] at D;obtain⟨rfl,rfl⟩:=D;obtain⟨Q,V,rfl,_,s⟩:=r oz;have J:=s d oz;obtain⟨i,f⟩:=zE (l[d]);have p:(l.map Value.bool).getD d undef=.bool i:=by rw [List.getD_eq_getElem?_getD,List.getElem?_map,List.getElem?_eq_getElem j,f];rfl
  rw [p] at J;have U:IntKind.i64.wrap ((d:Int)+1)=(d:Int)+1:=IntWalk.i64_in _ oz;by_cases k:b=i
  ·have q:x=(d:Int):=u.out.symm.trans (Qfi j m.out (f.trans k.symm));subst k;subst q;clear p F G r s f;cases b
   all_goals
    go_wp2;go_ret;exact⟨rfl,rfl⟩
  ·have B:Q6h l b (d+1):=fun y g=>by
    rw [List.take_succ_eq_append_getElem j] at g;rcases List.mem_append.1 g with g | g
    ·exact m.out y g
    ·simp at g;subst g;rw [f,beq_eq_false_iff_ne];exact fun e=>k e.symm
   have I:=Zh B;have S:(b == i)=false:=by rw [beq_eq_false_iff_ne];exact k
   clear p F G r s f B j;go_wp2;exact⟨⟨d+1,by omega,tz,rfl,I.out,by first | trivial | rfl⟩,mz⟩
 ·obtain rfl:d=n:=by omega
  have K:¬ (d:Int)<(d:Int):=by omega
  have q:x=-1:=u.out.symm.trans (Qdr (by rw [t.out];exact Nat.le_refl _) m.out);subst q;go_wp2;go_ret;exact⟨rfl,rfl⟩
def Yi:Nat->List Nat->List (List Nat)
 | 0,_=>[[]]
 | n+1,av=>av.flatMap fun i=>(Yi n (av.filter (· != i))).map (i::·)
def Qo:Nat->List (List Nat)
 | 0=>[[]]
 | n+1=>(List.range (n+1)).flatMap fun f=>(Qo n).map fun r=>f::r.map fun x=>if f<=x then x+1 else x
theorem Fx{α β:Type}{l:List α}{f g:α->List β}(h:∀ x∈l,f x=g x):l.flatMap f=l.flatMap g:=by
 rw [List.flatMap_def,List.flatMap_def,List.map_congr_left h]
theorem P5{b:List Nat}(h:b.Nodup){f:Nat}(c:f<b.length):b.filter (· != b[f])=b.eraseIdx f:=by
 induction b generalizing f with
 | nil=>cases c
 | cons a b ih=>
  rw [List.nodup_cons] at h;cases f with
  | zero=>
   simp only [List.getElem_cons_zero,List.eraseIdx_cons_zero];rw [List.filter_cons_of_neg zy,List.filter_eq_self.2];intro i g;simp only [bne_iff_ne,ne_eq];rintro rfl;exact h.1 g
  | succ f=>
   have d:f<b.length:=by simpa using c
   simp only [List.getElem_cons_succ,List.eraseIdx_cons_succ];rw [List.filter_cons_of_pos (by simp only [bne_iff_ne,ne_eq];intro e;exact h.1 (e ▸ List.getElem_mem d)),ih h.2 d]
theorem Q6t(a:List Nat)(f x:Nat):(a.eraseIdx f).getD x 0=a.getD (if f<=x then x+1 else x) 0:=by
 rw [List.getD_eq_getElem?_getD,List.getD_eq_getElem?_getD,List.getElem?_eraseIdx];by_cases b:f<=x
 ·rw [if_pos b,if_neg oz]
 ·rw [if_neg b,if_pos oz]
theorem Pq:∀(n:Nat) (av:List Nat),av.Nodup->av.length=n->Yi n av=(Qo n).map fun o=>o.map fun x=>av.getD x 0
 | 0,_,_,_=>rfl
 | n+1,av,hn,hl=>by
  unfold Yi Qo;have hav:av=(List.range (n+1)).map fun f=>av.getD f 0:=by
   apply List.ext_getElem
   ·simp [hl]
   ·intro e c d;simp [List.getD_eq_getElem?_getD,c]
  conv=>lhs;arg 2;rw [hav]
  rw [List.flatMap_map,List.map_flatMap];refine Fx fun f hf=>?_
  have a:f<av.length:=by rw [hl];exact List.mem_range.1 hf
  have b:av.getD f 0=av[f]:=by rw [List.getD_eq_getElem?_getD,List.getElem?_eq_getElem a];rfl
  rw [b,P5 hn a,Pq n (av.eraseIdx f) (hn.sublist (List.eraseIdx_sublist ..)) (by rw [List.length_eraseIdx_of_lt a,hl];rfl),List.map_map,List.map_map];refine List.map_congr_left fun r _=>?_
  simp only [Function.comp,List.map_cons,List.map_map];rw [b]
  congr 1
  exact List.map_congr_left fun x _=>Q6t av f x
theorem Ua:∀(n:Nat),∀ o∈Qo n,o.length=n/\∀ x∈o,x<n
 | 0,o,h=>by
  unfold Qo at h;rw [List.mem_singleton] at h;subst h;exact⟨rfl,fun x hx=>by cases hx⟩
 | n+1,o,h=>by
  unfold Qo at h;obtain⟨f,hf,h⟩:=List.mem_flatMap.1 h;obtain⟨r,hr,rfl⟩:=List.mem_map.1 h;obtain⟨h1,h2⟩:=Ua n r hr;refine⟨by simp [h1],fun x hx=>?_⟩;rcases List.mem_cons.1 hx with rfl | hx
  ·exact List.mem_range.1 hf
  ·obtain⟨y,hy,rfl⟩:=List.mem_map.1 hx;have:=h2 y hy
   split <;> omega
theorem Kf(n:Nat):Yi n (List.range n)=Qo n:=by
 rw [Pq n _ List.nodup_range zy];conv=>rhs;rw [<-List.map_id (Qo n)]
 refine List.map_congr_left fun o ho=>?_
 conv=>rhs;rw [id,<-List.map_id o]
 refine List.map_congr_left fun x hx=>?_
 have:=(Ua n o ho).2 x hx;simp [List.getD_eq_getElem?_getD,this]
def Gs(n:Nat)(p:List Nat):List Nat:=(List.range n).filter fun i=>!p.contains i
def Wo(n m:Nat)(p:List Nat):List (List Nat):=(Yi m (Gs n p)).map (p++·)
def Kk(n m:Nat)(p:List Nat)(k:Nat):List (List Nat):=(Gs k p).flatMap fun i=>Wo n m (p++[i])
theorem Qbv(n:Nat)(p:List Nat):Wo n 0 p=[p]:=by
 unfold Wo Yi;simp
theorem Q8r(n:Nat)(p:List Nat)(i:Nat):Gs n (p++[i])=(Gs n p).filter (· != i):=by
 unfold Gs;rw [List.filter_filter];apply List.filter_congr;intro b _;by_cases a:b=i
 ·subst a;simp
 ·simp [a]
theorem Q82(n m:Nat)(p:List Nat):Kk n m p 0=[]:=rfl
theorem Q34{n m k:Nat}{p:List Nat}(h:k∈p):Kk n m p (k+1)=Kk n m p k:=by
 unfold Kk Gs;rw [List.range_succ,List.filter_append];simp [h]
theorem R4{n m k:Nat}{p:List Nat}(h:k ∉ p):Kk n m p (k+1)=Kk n m p k++Wo n m (p++[k]):=by
 unfold Kk Gs;rw [List.range_succ,List.filter_append];simp [h]
theorem Q0g(n m:Nat)(p:List Nat):Kk n m p n=Wo n (m+1) p:=by
 have c:Yi (m+1) (Gs n p)=(Gs n p).flatMap fun a=>(Yi m ((Gs n p).filter (· != a))).map (a::·):=rfl;unfold Kk Wo;rw [c,List.map_flatMap];apply Fx;intro a _;rw [Q8r,List.map_map];apply List.map_congr_left;intro b _;show (p++[a])++b=p++a::b;simp
theorem Q85{n m k:Nat}{p:List Nat}(i:k<n)(h:k ∉ p):∃ rest,Wo n (m+1) p=Kk n m p k++Wo n m (p++[k])++rest:=by
 have g:∀ b a,a+b=n->∃ rest,Kk n m p n=Kk n m p a++rest:=by
  intro b
  induction b with
  | zero=>
   intro a f;obtain rfl:a=n:=by omega
   exact⟨[],by simp⟩
  | succ b ih=>
   intro a f;obtain⟨d,c⟩:=ih (a+1) oz;by_cases e:a∈p
   ·exact⟨d,by rw [c,Q34 e]⟩
   ·exact⟨_,by rw [c,R4 e,List.append_assoc]⟩
 obtain⟨d,c⟩:=g (n - (k+1)) (k+1) oz;exact⟨d,by rw [<-Q0g,c,R4 h]⟩
theorem Q8d{LD:List Q5}{p:List Nat}{i:Nat}{l:Q5}(a:LD[i]?=some l)(s:Option Wd):Jm LD (p++[i]) s=X6 l (Jm LD p s):=by
 unfold Jm;rw [List.foldl_append];simp only [List.foldl_cons,List.foldl_nil,a]
def Vx(n:Nat)(p:List Nat):Nat:=Yt n fun i=>p.contains i
theorem Q60(n:Nat)(p:List Nat):Vx n p<2 ^ n:=Hj _ _
theorem Qc9(n:Nat):Vx n []=0:=by unfold Vx;rw [show (fun i=>([]:List Nat).contains i)=fun _=>false from rfl,Uc]
theorem Qci{n k:Nat}{p:List Nat}(a:k<n):(Vx n p).testBit k=decide (k∈p):=by
 unfold Vx;rw [Ys];simp [a]
theorem Qft{n k:Nat}{p:List Nat}(b:k<n):Vx n p ||| 2 ^ k=Vx n (p++[k]):=by
 unfold Vx;rw [Xp b,Gl];apply X7;intro c _;by_cases a:c=k
 ·subst a;simp
 ·simp [a]
end Go.Proofs.YtfdlhlghcbeblaaGreatDoor
