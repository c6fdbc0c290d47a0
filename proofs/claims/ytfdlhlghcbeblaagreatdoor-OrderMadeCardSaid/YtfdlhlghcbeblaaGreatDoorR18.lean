/- order.check (printed by genordk.py). ablautref10.Check, ablautref14.check. -/
import Derived.Test.YtfdlhlghcbeblaaGreatDoorR12
set_option maxRecDepth 100000
set_option maxHeartbeats 16000000
namespace Go.Proofs.YtfdlhlghcbeblaaGreatDoor
open Go.RowKit Go.Ab
attribute [local go_sem] Oper.semAt_some Zk Qx
def wpE(q:Wd × Wd):Int:=if wE q.1=0 then wE q.2 else wE q.1
def Z6(LD:List Qe)(QS:List (Wd × Wd)):Int:=if 6<LD.length then 12 else if LD.all Zx=true then(if 32<QS.length then 12 else Yv (QS.map wpE)) else 17
def Fh(ps:Qs)(k:Nat):Prop:=(ps.take k).all (fun p=>Zx p.1)=true
def Cw(QS:List (Wd × Wd)) (k:Nat):Prop:=Yv ((QS.map wpE).take k)=0
def Q8y(A B:Int)(i:Nat):Prop:=(1<=i->A=0)/\(2<=i->B=0)
theorem Q3w{ps:Qs}{k:Nat}(b:k<ps.length)(h:Fh ps k)(a:Zx ps[k].1=true):Fh ps (k+1):=by
 unfold Fh at *;rw [List.take_succ_eq_append_getElem b,List.all_append,h];simp [a]
theorem Q6p{ps:Qs}{k:Nat}(b:k<ps.length)(a:Zx ps[k].1=false):(ps.map (·.1)).all Zx=false:=by
 rw [List.all_map,List.all_eq_false];exact⟨_,List.getElem_mem b,by simp [a]⟩
theorem Cl{ps:Qs}{k:Nat}(a:ps.length<=k)(h:Fh ps k):(ps.map (·.1)).all Zx=true:=by
 unfold Fh at h;rw [List.take_of_length_le a] at h;rw [List.all_map];exact h
theorem Kj{w:World}{ps:Qs}{qs:Qi}{lo:Option Addr}{n lc:Nat}{c9:Option Addr}{m a9:Nat}(f7:Za w (.slice lo n lc) ps) (M:ps.length=n) (f8:Zg w (.slice c9 m a9) qs) (a6:qs.length=m) (k7:Tab w) :
  Calls Tryz.prog 89 #[.slice lo n lc,.slice c9 m a9] w fun e w'=>e=.returned (.int .i64 (Z6 (ps.map (·.1)) (qs.map (·.1))))/\Ext w w':=by
 have l3:=fun(k:World) (H:Ext w k) (l:Qe) (cs:List Value) (h:Zm k l cs)=>Dz h (k7.keep H id);obtain⟨j,Q⟩:=zE (Z6 (ps.map (·.1)) (qs.map (·.1)));rw [Q];have o4:6<n->j=12:=fun h=>by rw [<-Q];unfold Z6;rw [if_pos (by rw [List.length_map,M];exact h)]
 have o5:¬ 6<n->∀ f (f5:f<ps.length),Zx ps[f].1=false->j=17:=fun h f f5 A=>by rw [<-Q];unfold Z6;rw [if_neg (by rw [List.length_map,M];exact h),Q6p f5 A];rfl
 have o6:¬ 6<n->Fh ps n->32<m->j=12:=fun h A Z=>by rw [<-Q];unfold Z6;rw [if_neg (by rw [List.length_map,M];exact h),Cl oz A,if_pos rfl,if_pos (by rw [List.length_map,a6];exact Z)]
 have o7:¬ 6<n->Fh ps n->¬ 32<m->j=Yv ((qs.map (·.1)).map wpE):=fun h A Z=>by rw [<-Q];unfold Z6;rw [if_neg (by rw [List.length_map,M];exact h),Cl oz A,if_pos rfl,if_neg (by rw [List.length_map,a6];exact Z)]
 have r3:n<=maxLen:=by rw [<-M];exact f7.1.2.1
 have r2:m<=maxLen:=by rw [<-a6];exact f8.1.2.1
 unfold maxLen at r3 r2;obtain⟨g6,g9,p3,q0,i1,j0,j1,j2⟩:=Zh8 l3 f7 M f8 a6 o4 o5 o6;have j3:=Zh o7;clear l3 f7 M f8 a6 k7 Q o4 o5 o6 o7;go_enter Tryz.func89,Tryz.ntmps89;by_cases e4:6<n;case pos=>
  have A:(n:Int) > 6:=by omega
  have o:j=12:=j0.out e4;subst o;go_wp2;go_ret;exact⟨rfl,Qa.refl _ _⟩
 have q8:¬ (n:Int) > 6:=by omega
 have b5:=Zh e4;clear e4;go_wp2
 refine wp_loop (fun a t=>∃(f:Nat),f<=n/\a.defers=[]/\(a.tmps.size=51/\a.tmps.getD 1 undef=.slice c9 m a9/\a.tmps.getD 15 undef=.slice lo n lc/\a.tmps.getD 16 undef=.int .i64 n/\a.tmps.getD 17 undef=.int .i64 f)/\Fh ps f/\Ext w t)
  (fun a _=>((n:Int) - intOf (a.tmps.getD 17 undef)).toNat) ?_ ?_
 ·exact⟨0,by omega,rfl,⟨rfl,rfl,rfl,rfl,rfl⟩,by simp [Fh],Qa.refl _ _⟩
 rintro⟨b2,_⟩ t ⟨f,f5,a3,⟨C,d5,d6,d7,d8⟩,m2,H⟩;subst a3;obtain⟨b4,r⟩:=Zi C;obtain⟨c,rfl⟩:∃ x,x=b4:=⟨_,rfl⟩;have a8:b2=#[c 0,c 1,c 2,c 3,c 4,c 5,c 6,c 7,c 8,c 9,c 10,c 11,c 12,c 13,c 14,c 15,c 16,c 17,c 18,c 19,c 20,c 21,c 22,c 23,c 24,c 25,c 26,c 27,c 28,c 29,c 30,c 31,c 32,c 33,c 34,c 35,c 36,c 37,c 38,c 39,c 40,c 41,c 42,c 43,c 44,c 45,c 46,c 47,c 48,c 49,c 50]:=r;clear r;subst a8;change c 1=_ at d5;change c 15=_ at d6;change c 16=_ at d7;change c 17=_ at d8;rw [d5,d6,d7,d8];clear d5 d6 d7 d8 C;have U:=Zh m2;have i:=Zh H;clear m2 H;by_cases r1:f<n;case pos=>
  have A:(f:Int)<(n:Int):=by omega
  have q6:(0:Int)<=(f:Int):=by omega
  have f6:f<ps.length:=by rw [p3.out];exact r1
  obtain⟨e2,g3,s2,u,f3,v,c6,e3⟩:=(g9.out.ext i.out).at f6;simp only [zV] at u;obtain⟨rfl,r4,rfl⟩:=u;have a7:=j1.out b5.out f f6;have B:=fun h=>Q3w f6 U.out h;obtain⟨g4,f9⟩:=zE (ps[f]);rw [f9] at v c6 e3 a7;simp only [f9] at B;obtain⟨o3,s5⟩:=g4;dsimp only at v c6 e3 a7 B;obtain⟨n6,m9,o1,n1,n4,j7,j9,n7,i6,k2,n0,o2,n2,n5,j8,k0,n8,i7,k3,m8,i8,m7,o0,i9,n9,n3,c5,i0,q1,q2,o9,p9,p6,b7,b8,p4,p5,p2,s6,s7,s8,s9,t0⟩:=Yb c6;subst c5;have r6:IntKind.i64.wrap ((f:Int)+1)=(f:Int)+1:=IntWalk.i64_in _ oz;obtain⟨k1,c4⟩:=zE (Zx o3);have m0:He o3=if k1=true then 0 else 17:=by unfold He;rw [c4]
  rw [c4] at a7;simp only [c4] at B;obtain⟨i2,q3,p7,p1⟩:=Zh4 v a7 B m0;clear r4 f9 c6 e3 v a7 B m0 c4 q1 q2 o9 p9 p6 b7 b8 p4 p5 p2 U f3;obtain⟨d3,c1⟩:=zE (t.alloc (.cells #[.string n6,.int .i64 m9,.int .u32 (o1:Int),.int .u32 (n1:Int),.bool n4,.int .i64 j7,.int .i64 j9,.slice n7 i6 k2,.int .i64 n0,.int .u32 (o2:Int),.int .u32 (n2:Int),.bool n5,.int .i64 j8,.int .i64 k0,.slice n8 i7 k3,.slice m8 i8 m7,.slice o0 i9 n9,.int .i64 n3] 102));have I:Ext t d3:=by rw [<-c1];exact(Qa.refl _ t).alloc _
  have g1:d3.heap[t.heap.size]?=some (.cells #[.string n6,.int .i64 m9,.int .u32 (o1:Int),.int .u32 (n1:Int),.bool n4,.int .i64 j7,.int .i64 j9,.slice n7 i6 k2,.int .i64 n0,.int .u32 (o2:Int),.int .u32 (n2:Int),.bool n5,.int .i64 j8,.int .i64 k0,.slice n8 i7 k3,.slice m8 i8 m7,.slice o0 i9 n9,.int .i64 n3] 102 (0,0)):=by rw [<-c1];exact Qc rfl
  obtain⟨j5,K⟩:=zE t.heap.size;rw [K] at g1;have i4:=Zh g1;have i3:=Zh c1;clear g1 c1;go_upto_region 6 with (refine Yp (by rfl) 102 (.tmp 19) rfl e2 (g3+f*18) zr _ _ i2.out Tryz.underlying102 rfl kz ?_)
  rw [i3.out];have f0:=g6.out d3 (i.out.trans I) _ _ (i0.out.ext I);rw [p1.out] at f0;obtain⟨g5,g7,q4⟩:=Zh3 f0 (i.out.trans I) K;clear f0 I K i3 i2 i0
  go_wp2_with (refine wpList_load_row rfl 102 (.tmp 6) rfl j5 rfl _ _ _ _ i4.out Tryz.underlying102 rfl Tryz.lawInfo ?_)
  refine g5.out.mono ?_;rintro e s0 ⟨rfl,a1⟩;have g8:=Zh (g7.out.trans a1);clear a1 g5 i4 g7;cases k1 with
  | true=>
   have B:=p7.out rfl;have p8:=Zh B;clear B;go_wp2;exact⟨⟨f+1,by omega,tz,⟨rfl,rfl,rfl,rfl,rfl⟩,p8.out,g8.out⟩,mz⟩
  | false=>
   have o:j=17:=q3.out uz;subst o;go_wp2;go_ret;exact⟨rfl,g8.out⟩
 obtain rfl:f=n:=by omega
 have A:¬ (f:Int)<(f:Int):=by omega
 by_cases k6:32<m;case pos=>
  have Z:(m:Int) > 32:=by omega
  have o:j=12:=j2.out b5.out U.out k6;subst o;go_wp2;go_ret;exact⟨rfl,i.out⟩
 have Z:¬ (m:Int) > 32:=by omega
 have o:=j3.out b5.out U.out k6;have d2:=Zh o;clear o j0 j1 j2 j3 b5 U q8;go_wp2
 refine wp_loop (fun a t=>∃(d:Nat),d<=m/\a.defers=[]/\(a.tmps.size=51/\a.tmps.getD 28 undef=.slice c9 m a9/\a.tmps.getD 29 undef=.int .i64 m/\a.tmps.getD 30 undef=.int .i64 d)/\Cw (qs.map (·.1)) d/\Ext w t)
  (fun a _=>((m:Int) - intOf (a.tmps.getD 30 undef)).toNat) ?_ ?_
 ·exact⟨0,by omega,rfl,⟨rfl,rfl,rfl,rfl⟩,rfl,i.out⟩
 clear i g6 g9;rintro⟨b2,_⟩ k ⟨d,s4,a3,⟨C,E,F,G⟩,l4,H⟩;subst a3;obtain⟨b4,r⟩:=Zi C;obtain⟨c,rfl⟩:∃ x,x=b4:=⟨_,rfl⟩;have a8:b2=#[c 0,c 1,c 2,c 3,c 4,c 5,c 6,c 7,c 8,c 9,c 10,c 11,c 12,c 13,c 14,c 15,c 16,c 17,c 18,c 19,c 20,c 21,c 22,c 23,c 24,c 25,c 26,c 27,c 28,c 29,c 30,c 31,c 32,c 33,c 34,c 35,c 36,c 37,c 38,c 39,c 40,c 41,c 42,c 43,c 44,c 45,c 46,c 47,c 48,c 49,c 50]:=r;clear r;subst a8;change c 28=_ at E;change c 29=_ at F;change c 30=_ at G;rw [E,F,G];clear E F G C;have d0:=Zh l4;have i:=Zh H;clear l4 H;have m1:((qs.map (·.1)).map wpE).length=m:=by rw [List.length_map,List.length_map,i1.out]
 by_cases r0:d<m;case neg=>
  obtain rfl:d=m:=by omega
  have q7:¬ (d:Int)<(d:Int):=by omega
  have g2:j=0:=by
   rw [d2.out];have:=d0.out;unfold Cw at this
   rwa [List.take_of_length_le oz] at this
  subst g2;clear m1;go_wp2;go_ret;exact⟨rfl,i.out⟩
 have q7:(d:Int)<(m:Int):=by omega
 have q6:(0:Int)<=(d:Int):=by omega
 have l8:d<qs.length:=by rw [i1.out];exact r0
 have l5:((qs.map (·.1)).map wpE)[d]' oz=wpE qs[d].1:=by rw [List.getElem_map,List.getElem_map]
 have f2:Yv (((qs.map (fun(q:(Wd × Wd) × List Value)=>q.1)).map wpE).take d)=0:=d0.out;have a4:=Q0q (l:=(qs.map (fun(q:(Wd × Wd) × List Value)=>q.1)).map wpE) (n:=d) oz f2;have L:=Q0b (l:=(qs.map (fun(q:(Wd × Wd) × List Value)=>q.1)).map wpE) (n:=d) oz f2;rw [l5] at a4 L;obtain⟨e2,g3,s1,u,v,⟨c,t1,c5,r,r5⟩,r7⟩:=Jj.at (Z3 q0.out i.out) l8;replace u:=u zd;obtain⟨u,f3⟩:=u;simp only [zV] at u;obtain⟨rfl,g2,rfl⟩:=u;rw [c5] at v;obtain⟨Y,W,rfl,m4,r8⟩:=r;obtain⟨b1,b0,rfl,m5,r9⟩:=r5;have d4:=v 0 _ rfl;have k5:=v 1 _ rfl;rw [Nat.add_zero] at d4;obtain⟨p,e5⟩:=zE (wE qs[d].1.1);obtain⟨s,e6⟩:=zE (wE qs[d].1.2);have m6:wpE qs[d].1=if p=0 then s else p:=by unfold wpE;rw [e5,e6]
 rw [m6] at a4 L;have l1:p≠0->j=p:=fun h=>by rw [if_neg h] at L;rw [d2.out];exact L h
 have l2:p=0->s≠0->j=s:=fun h h'=>by rw [if_pos h] at L;rw [d2.out];exact L h'
 have m3:p=0->s=0->Cw (qs.map (·.1)) (d+1):=fun h h'=>by rw [if_pos h,h'] at a4;exact a4
 have c7:=fun(g:World) (hD:Ext k g)=>Uv (m4.ext hD);have c8:=fun(g:World) (hD:Ext k g)=>Uv (m5.ext hD);simp only [e5] at c7;simp only [e6] at c8;obtain⟨X,f1⟩:=zE (qs[d].1.1.length);obtain⟨b3,g0⟩:=zE (qs[d].1.2.length);rw [f1] at d4;rw [g0] at k5;simp only [f1] at c7;simp only [g0] at c8;obtain⟨R,S,b6,b9,c0⟩:=Zh5 l1 l2 m3 c7 c8;have r6:IntKind.i64.wrap ((d:Int)+1)=(d:Int)+1:=IntWalk.i64_in _ oz;clear m1 l5 a4 L f2 g2 r7 r8 r9 c5 v m4 m5 e5 e6 m6 l1 l2 m3 c7 c8 f1 g0 f3 l8 d0;go_upto_region 14 with (fail)
 obtain⟨P,c2⟩:=zE (k.alloc (.cells #[.slice Y X W,.slice b1 b3 b0] 105));have I:Ext k P:=by rw [<-c2];exact(Qa.refl _ k).alloc _
 have e8:P.heap[k.heap.size]?=some (.cells #[.slice Y X W,.slice b1 b3 b0] 105 (0,0)):=by rw [<-c2];exact Qc rfl
 rw [c2];obtain⟨j5,K⟩:=zE k.heap.size;rw [K] at e8 ⊢;have q5:=fun d=>cell_of_row _ _ d _ _ _ e8;have b7:=Zh I;have q4:=Zh K;clear c2 e8 K I d4 k5;go_wp2;obtain⟨j4,c3⟩:=zE (P.alloc (.cells #[.slice Y X W,.slice b1 b3 b0] 99));have a1:Ext k j4:=by rw [<-c3];exact b7.out.trans ((Qa.refl _ P).alloc _)
 have e9:j4.heap[P.heap.size]?=some (.cells #[.slice Y X W,.slice b1 b3 b0] 99 (0,0)):=by rw [<-c3];exact Qc rfl
 rw [c3];obtain⟨j6,k9⟩:=zE P.heap.size;rw [k9] at e9 ⊢;have b8:=Zh a1;have i5:=Zh e9;clear c3 a1 e9 k9 q5 b7
 refine wp_loop (fun a g=>∃(N:Nat),N<=2/\a.defers=[]/\(a.tmps.size=51/\a.tmps.getD 28 undef=.slice (some ⟨e2,g3,none⟩) m a9/\a.tmps.getD 29 undef=.int .i64 m/\a.tmps.getD 30 undef=.int .i64 d/\a.tmps.getD 38 undef=.slice (some ⟨j6,0,none⟩) 2 2/\a.tmps.getD 39 undef=.int .i64 2/\a.tmps.getD 40 undef=.int .i64 N)/\g.heap[j6]?=some (.cells #[.slice Y X W,.slice b1 b3 b0] 99 (0,0))/\Q8y p s N/\Ext k g)
  (fun a _=>(2 - intOf (a.tmps.getD 40 undef)).toNat) ?_ ?_
 ·exact⟨0,by omega,rfl,⟨rfl,rfl,rfl,rfl,rfl,rfl,rfl⟩,i5.out,⟨fun h=>by omega,fun h=>by omega⟩,b8.out⟩
 clear b8 i5;rintro⟨b2,_⟩ g ⟨N,s3,a3,⟨C,E,F,G,d9,e0,e1⟩,l0,l7,k8⟩;subst a3;obtain⟨b4,r⟩:=Zi C;obtain⟨c,rfl⟩:∃ x,x=b4:=⟨_,rfl⟩;have a8:b2=#[c 0,c 1,c 2,c 3,c 4,c 5,c 6,c 7,c 8,c 9,c 10,c 11,c 12,c 13,c 14,c 15,c 16,c 17,c 18,c 19,c 20,c 21,c 22,c 23,c 24,c 25,c 26,c 27,c 28,c 29,c 30,c 31,c 32,c 33,c 34,c 35,c 36,c 37,c 38,c 39,c 40,c 41,c 42,c 43,c 44,c 45,c 46,c 47,c 48,c 49,c 50]:=r;clear r;subst a8;change c 28=_ at E;change c 29=_ at F;change c 30=_ at G;change c 38=_ at d9;change c 39=_ at e0;change c 40=_ at e1;rw [E,F,G,d9,e0,e1];clear E F G d9 e0 e1 C;obtain⟨O,y,z⟩:=Zh3 l0 l7 k8;clear l0 l7 k8;by_cases f4:N=2
 ·subst f4;have l9:=b6.out (y.out.1 oz) (y.out.2 oz);have p0:=Zh l9;have T:=Zh (i.out.trans z.out);clear l9 b6 y z O b9 c0 R S;go_wp2;exact⟨⟨d+1,by omega,tz,⟨rfl,rfl,rfl,rfl⟩,p0.out,T.out⟩,mz⟩
 have k4:=fun d=>cell_of_row _ _ d _ _ _ O.out;by_cases l6:N=0
 ·subst l6;clear f4;go_wp2_with fail;refine(b9.out _ z.out).mono ?_;rintro e o8 ⟨rfl,J⟩;have a2:=J.keep O.out;have V:=Zh a2;have D:=Zh (z.out.trans J);clear a2 J k4 O z b9;by_cases a0:p=0
  ·subst a0;have a5:Q8y 0 s 1:=⟨fun _=>rfl,fun h=>by omega⟩;have d1:=Zh a5;clear a5 y R;go_wp2;exact⟨⟨1,by omega,tz,⟨rfl,rfl,rfl,rfl,rfl,rfl,rfl⟩,V.out,d1.out,D.out⟩,by simp [intOf]⟩
  ·have q9:(p != 0)=true:=by rw [bne_iff_ne];exact a0
   have o:j=p:=R.out a0;subst o;have T:=Zh (i.out.trans D.out);clear R S b6 y c0 V D;go_wp2;go_ret;exact⟨rfl,T.out⟩
 ·obtain rfl:N=1:=by omega
  clear f4 l6;have a0:p=0:=y.out.1 oz;subst a0;go_wp2_with fail;refine(c0.out _ z.out).mono ?_;rintro e o8 ⟨rfl,J⟩;have a2:=J.keep O.out;have V:=Zh a2;have D:=Zh (z.out.trans J);clear a2 J k4 O z c0;by_cases e7:s=0
  ·subst e7;have a5:Q8y 0 0 2:=⟨fun _=>rfl,fun _=>rfl⟩;have d1:=Zh a5;clear a5 y S;go_wp2;exact⟨⟨2,by omega,tz,⟨rfl,rfl,rfl,rfl,rfl,rfl,rfl⟩,V.out,d1.out,D.out⟩,by simp [intOf]⟩
  ·have q9:(s != 0)=true:=by rw [bne_iff_ne];exact e7
   have o:j=s:=S.out uz e7;subst o;have T:=Zh (i.out.trans D.out);clear R S b6 y b9 V D;go_wp2;go_ret;exact⟨rfl,T.out⟩
end Go.Proofs.YtfdlhlghcbeblaaGreatDoor
