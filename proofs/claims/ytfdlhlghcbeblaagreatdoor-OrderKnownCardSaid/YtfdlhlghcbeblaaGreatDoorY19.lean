/- ablautref08.replace (printed by genrefrepl.py). -/
import Derived.Test.YtfdlhlghcbeblaaGreatDoorY18
set_option maxRecDepth 100000
set_option maxHeartbeats 16000000
namespace Go.Proofs.YtfdlhlghcbeblaaGreatDoor
open Go.RowKit Go.Ab
attribute [local go_sem] Oper.semAt_some Zf Qp
def wpE(q:Wd × Wd):Int:=if wE q.1=0 then wE q.2 else wE q.1
def Qh(LD:List Q7)(QS:List (Wd × Wd)):Int:=if 6<LD.length then 12 else if LD.all X8=true then(if 32<QS.length then 12 else Xa (QS.map wpE)) else 17
def Sz(QS:List (Wd × Wd)) (k:Nat):Prop:=Xa ((QS.map wpE).take k)=0
def Q3a(A B:Int)(i:Nat):Prop:=(1<=i->A=0)/\(2<=i->B=0)
theorem Vj{w:World}{ps:Qy}{qs:Qa}{lo:Option Addr}{n lc:Nat}{c8:Option Addr}{m pc:Nat}(f6:Z9 w (.slice lo n lc) ps) (M:ps.length=n) (f7:Qu w (.slice c8 m pc) qs) (a6:qs.length=m) (k6:Tab w) :
  Calls Tryz.prog 89 #[.slice lo n lc,.slice c8 m pc] w fun e w'=>e=.returned (.int .i64 (Qh (ps.map (·.1)) (qs.map (·.1))))/\Ext w w':=by
 have l2:=fun(k:World) (H:Ext w k) (l:Q7) (cs:List Value) (h:Z2 k l cs)=>Me h (k6.keep H id);obtain⟨j,Q⟩:=zE (Qh (ps.map (·.1)) (qs.map (·.1)));rw [Q];have o3:6<n->j=12:=fun h=>by rw [<-Q];unfold Qh;rw [if_pos (by rw [List.length_map,M];exact h)]
 have o4:¬ 6<n->∀ f (f4:f<ps.length),X8 ps[f].1=false->j=17:=fun h f f4 A=>by rw [<-Q];unfold Qh;rw [if_neg (by rw [List.length_map,M];exact h),Q5e f4 A];rfl
 have o5:¬ 6<n->Df ps n->32<m->j=12:=fun h A Z=>by rw [<-Q];unfold Qh;rw [if_neg (by rw [List.length_map,M];exact h),Re oz A,if_pos rfl,if_pos (by rw [List.length_map,a6];exact Z)]
 have o6:¬ 6<n->Df ps n->¬ 32<m->j=Xa ((qs.map (·.1)).map wpE):=fun h A Z=>by rw [<-Q];unfold Qh;rw [if_neg (by rw [List.length_map,M];exact h),Re oz A,if_pos rfl,if_neg (by rw [List.length_map,a6];exact Z)]
 have r2:n<=maxLen:=by rw [<-M];exact f6.1.2.1
 have r1:m<=maxLen:=by rw [<-a6];exact f7.1.2.1
 unfold maxLen at r2 r1;obtain⟨g5,g8,p2,p9,i0,i9,j0,j1⟩:=Zh8 l2 f6 M f7 a6 o3 o4 o5;have j2:=Zh o6;clear l2 f6 M f7 a6 k6 Q o3 o4 o5 o6;go_enter Tryz.func89,Tryz.ntmps89;by_cases e3:6<n;case pos=>
  have A:(n:Int) > 6:=by omega
  have o:j=12:=i9.out e3;subst o;go_wp2;go_ret;exact⟨rfl,Q1.refl _ _⟩
 have q7:¬ (n:Int) > 6:=by omega
 have b4:=Zh e3;clear e3;go_wp2
 refine wp_loop (fun a t=>∃(f:Nat),f<=n/\a.defers=[]/\(a.tmps.size=51/\a.tmps.getD 1 undef=.slice c8 m pc/\a.tmps.getD 15 undef=.slice lo n lc/\a.tmps.getD 16 undef=.int .i64 n/\a.tmps.getD 17 undef=.int .i64 f)/\Df ps f/\Ext w t)
  (fun a _=>((n:Int) - intOf (a.tmps.getD 17 undef)).toNat) ?_ ?_
 ·exact⟨0,by omega,rfl,⟨rfl,rfl,rfl,rfl,rfl⟩,by simp [Df],Q1.refl _ _⟩
 rintro⟨b1,_⟩ t ⟨f,f4,a3,⟨C,d4,d5,d6,d7⟩,m1,H⟩;subst a3;obtain⟨b3,r⟩:=Zd C;obtain⟨c,rfl⟩:∃ x,x=b3:=⟨_,rfl⟩;have a8:b1=#[c 0,c 1,c 2,c 3,c 4,c 5,c 6,c 7,c 8,c 9,c 10,c 11,c 12,c 13,c 14,c 15,c 16,c 17,c 18,c 19,c 20,c 21,c 22,c 23,c 24,c 25,c 26,c 27,c 28,c 29,c 30,c 31,c 32,c 33,c 34,c 35,c 36,c 37,c 38,c 39,c 40,c 41,c 42,c 43,c 44,c 45,c 46,c 47,c 48,c 49,c 50]:=r;clear r;subst a8;change c 1=_ at d4;change c 15=_ at d5;change c 16=_ at d6;change c 17=_ at d7;rw [d4,d5,d6,d7];clear d4 d5 d6 d7 C;have U:=Zh m1;have i:=Zh H;clear m1 H;by_cases r0:f<n;case pos=>
  have A:(f:Int)<(n:Int):=by omega
  have q5:(0:Int)<=(f:Int):=by omega
  have f5:f<ps.length:=by rw [p2.out];exact r0
  obtain⟨e1,g2,s1,u,f2,v,c5,e2⟩:=(g8.out.ext i.out).at f5;simp only [zV] at u;obtain⟨rfl,r3,rfl⟩:=u;have a7:=j0.out b4.out f f5;have B:=fun h=>Q2t f5 U.out h;obtain⟨g3,f8⟩:=zE (ps[f]);rw [f8] at v c5 e2 a7;simp only [f8] at B;obtain⟨o2,s4⟩:=g3;dsimp only at v c5 e2 a7 B;obtain⟨n5,m8,o0,n0,n3,j6,j8,n6,i5,k1,m9,o1,n1,n4,j7,j9,n7,i6,k2,m7,i7,m6,n9,i8,n8,n2,c4,g9,q0,q1,o8,p8,p5,b6,b7,p3,p4,p1,s5,s6,s7,s8,s9⟩:=Yr c5;subst c4;have r5:IntKind.i64.wrap ((f:Int)+1)=(f:Int)+1:=IntWalk.i64_in _ oz;obtain⟨k0,c3⟩:=zE (X8 o2);have l9:Hg o2=if k0=true then 0 else 17:=by unfold Hg;rw [c3]
  rw [c3] at a7;simp only [c3] at B;obtain⟨i1,q2,p6,p0⟩:=Zh4 v a7 B l9;clear r3 f8 c5 e2 v a7 B l9 c3 q0 q1 o8 p8 p5 b6 b7 p3 p4 p1 U f2;obtain⟨d2,c0⟩:=zE (t.alloc (.cells #[.string n5,.int .i64 m8,.int .u32 (o0:Int),.int .u32 (n0:Int),.bool n3,.int .i64 j6,.int .i64 j8,.slice n6 i5 k1,.int .i64 m9,.int .u32 (o1:Int),.int .u32 (n1:Int),.bool n4,.int .i64 j7,.int .i64 j9,.slice n7 i6 k2,.slice m7 i7 m6,.slice n9 i8 n8,.int .i64 n2] 102));have I:Ext t d2:=by rw [<-c0];exact(Q1.refl _ t).alloc _
  have g0:d2.heap[t.heap.size]?=some (.cells #[.string n5,.int .i64 m8,.int .u32 (o0:Int),.int .u32 (n0:Int),.bool n3,.int .i64 j6,.int .i64 j8,.slice n6 i5 k1,.int .i64 m9,.int .u32 (o1:Int),.int .u32 (n1:Int),.bool n4,.int .i64 j7,.int .i64 j9,.slice n7 i6 k2,.slice m7 i7 m6,.slice n9 i8 n8,.int .i64 n2] 102 (0,0)):=by rw [<-c0];exact Q3 rfl
  obtain⟨j4,K⟩:=zE t.heap.size;rw [K] at g0;have i3:=Zh g0;have i2:=Zh c0;clear g0 c0;go_upto_region 6 with (refine Kc (by rfl) 102 (.tmp 19) rfl e1 (g2+f*18) zr _ _ i1.out Tryz.underlying102 rfl kz ?_)
  rw [i2.out];have e9:=g5.out d2 (i.out.trans I) _ _ (g9.out.ext I);rw [p0.out] at e9;obtain⟨g4,g6,q3⟩:=Zh3 e9 (i.out.trans I) K;clear e9 I K i2 i1 g9
  go_wp2_with (refine wpList_load_row rfl 102 (.tmp 6) rfl j4 rfl _ _ _ _ i3.out Tryz.underlying102 rfl Tryz.lawInfo ?_)
  refine g4.out.mono ?_;rintro e r9 ⟨rfl,a1⟩;have g7:=Zh (g6.out.trans a1);clear a1 g4 i3 g6;cases k0 with
  | true=>
   have B:=p6.out rfl;have p7:=Zh B;clear B;go_wp2;exact⟨⟨f+1,by omega,tz,⟨rfl,rfl,rfl,rfl,rfl⟩,p7.out,g7.out⟩,mz⟩
  | false=>
   have o:j=17:=q2.out uz;subst o;go_wp2;go_ret;exact⟨rfl,g7.out⟩
 obtain rfl:f=n:=by omega
 have A:¬ (f:Int)<(f:Int):=by omega
 by_cases k5:32<m;case pos=>
  have Z:(m:Int) > 32:=by omega
  have o:j=12:=j1.out b4.out U.out k5;subst o;go_wp2;go_ret;exact⟨rfl,i.out⟩
 have Z:¬ (m:Int) > 32:=by omega
 have o:=j2.out b4.out U.out k5;have d1:=Zh o;clear o i9 j0 j1 j2 b4 U q7;go_wp2
 refine wp_loop (fun a t=>∃(d:Nat),d<=m/\a.defers=[]/\(a.tmps.size=51/\a.tmps.getD 28 undef=.slice c8 m pc/\a.tmps.getD 29 undef=.int .i64 m/\a.tmps.getD 30 undef=.int .i64 d)/\Sz (qs.map (·.1)) d/\Ext w t)
  (fun a _=>((m:Int) - intOf (a.tmps.getD 30 undef)).toNat) ?_ ?_
 ·exact⟨0,by omega,rfl,⟨rfl,rfl,rfl,rfl⟩,rfl,i.out⟩
 clear i g5 g8;rintro⟨b1,_⟩ k ⟨d,s3,a3,⟨C,E,F,G⟩,l3,H⟩;subst a3;obtain⟨b3,r⟩:=Zd C;obtain⟨c,rfl⟩:∃ x,x=b3:=⟨_,rfl⟩;have a8:b1=#[c 0,c 1,c 2,c 3,c 4,c 5,c 6,c 7,c 8,c 9,c 10,c 11,c 12,c 13,c 14,c 15,c 16,c 17,c 18,c 19,c 20,c 21,c 22,c 23,c 24,c 25,c 26,c 27,c 28,c 29,c 30,c 31,c 32,c 33,c 34,c 35,c 36,c 37,c 38,c 39,c 40,c 41,c 42,c 43,c 44,c 45,c 46,c 47,c 48,c 49,c 50]:=r;clear r;subst a8;change c 28=_ at E;change c 29=_ at F;change c 30=_ at G;rw [E,F,G];clear E F G C;have c9:=Zh l3;have i:=Zh H;clear l3 H;have m0:((qs.map (·.1)).map wpE).length=m:=by rw [List.length_map,List.length_map,i0.out]
 by_cases q9:d<m;case neg=>
  obtain rfl:d=m:=by omega
  have q6:¬ (d:Int)<(d:Int):=by omega
  have g1:j=0:=by
   rw [d1.out];have:=c9.out;unfold Sz at this
   rwa [List.take_of_length_le oz] at this
  subst g1;clear m0;go_wp2;go_ret;exact⟨rfl,i.out⟩
 have q6:(d:Int)<(m:Int):=by omega
 have q5:(0:Int)<=(d:Int):=by omega
 have l7:d<qs.length:=by rw [i0.out];exact q9
 have l4:((qs.map (·.1)).map wpE)[d]' oz=wpE qs[d].1:=by rw [List.getElem_map,List.getElem_map]
 have f1:Xa (((qs.map (fun(q:(Wd × Wd) × List Value)=>q.1)).map wpE).take d)=0:=c9.out;have a4:=Bc (l:=(qs.map (fun(q:(Wd × Wd) × List Value)=>q.1)).map wpE) (n:=d) oz f1;have L:=Bj (l:=(qs.map (fun(q:(Wd × Wd) × List Value)=>q.1)).map wpE) (n:=d) oz f1;rw [l4] at a4 L;obtain⟨e1,g2,s0,u,v,⟨c,t0,c4,r,r4⟩,r6⟩:=Jr.at (Zc p9.out i.out) l7;replace u:=u zd;obtain⟨u,f2⟩:=u;simp only [zV] at u;obtain⟨rfl,g1,rfl⟩:=u;rw [c4] at v;obtain⟨Y,W,rfl,m3,r7⟩:=r;obtain⟨b0,a9,rfl,m4,r8⟩:=r4;have d3:=v 0 _ rfl;have k4:=v 1 _ rfl;rw [Nat.add_zero] at d3;obtain⟨p,e4⟩:=zE (wE qs[d].1.1);obtain⟨s,e5⟩:=zE (wE qs[d].1.2);have m5:wpE qs[d].1=if p=0 then s else p:=by unfold wpE;rw [e4,e5]
 rw [m5] at a4 L;have l0:p≠0->j=p:=fun h=>by rw [if_neg h] at L;rw [d1.out];exact L h
 have l1:p=0->s≠0->j=s:=fun h h'=>by rw [if_pos h] at L;rw [d1.out];exact L h'
 have m2:p=0->s=0->Sz (qs.map (·.1)) (d+1):=fun h h'=>by rw [if_pos h,h'] at a4;exact a4
 have c6:=fun(g:World) (hD:Ext k g)=>Wv (m3.ext hD);have c7:=fun(g:World) (hD:Ext k g)=>Wv (m4.ext hD);simp only [e4] at c6;simp only [e5] at c7;obtain⟨X,f0⟩:=zE (qs[d].1.1.length);obtain⟨b2,f9⟩:=zE (qs[d].1.2.length);rw [f0] at d3;rw [f9] at k4;simp only [f0] at c6;simp only [f9] at c7;obtain⟨R,S,b5,b8,b9⟩:=Zh5 l0 l1 m2 c6 c7;have r5:IntKind.i64.wrap ((d:Int)+1)=(d:Int)+1:=IntWalk.i64_in _ oz;clear m0 l4 a4 L f1 g1 r6 r7 r8 c4 v m3 m4 e4 e5 m5 l0 l1 m2 c6 c7 f0 f9 f2 l7 c9;go_upto_region 14 with (fail)
 obtain⟨P,c1⟩:=zE (k.alloc (.cells #[.slice Y X W,.slice b0 b2 a9] 105));have I:Ext k P:=by rw [<-c1];exact(Q1.refl _ k).alloc _
 have e7:P.heap[k.heap.size]?=some (.cells #[.slice Y X W,.slice b0 b2 a9] 105 (0,0)):=by rw [<-c1];exact Q3 rfl
 rw [c1];obtain⟨j4,K⟩:=zE k.heap.size;rw [K] at e7 ⊢;have q4:=fun d=>cell_of_row _ _ d _ _ _ e7;have b6:=Zh I;have q3:=Zh K;clear c1 e7 K I d3 k4;go_wp2;obtain⟨j3,c2⟩:=zE (P.alloc (.cells #[.slice Y X W,.slice b0 b2 a9] 99));have a1:Ext k j3:=by rw [<-c2];exact b6.out.trans ((Q1.refl _ P).alloc _)
 have e8:j3.heap[P.heap.size]?=some (.cells #[.slice Y X W,.slice b0 b2 a9] 99 (0,0)):=by rw [<-c2];exact Q3 rfl
 rw [c2];obtain⟨j5,k8⟩:=zE P.heap.size;rw [k8] at e8 ⊢;have b7:=Zh a1;have i4:=Zh e8;clear c2 a1 e8 k8 q4 b6
 refine wp_loop (fun a g=>∃(N:Nat),N<=2/\a.defers=[]/\(a.tmps.size=51/\a.tmps.getD 28 undef=.slice (some ⟨e1,g2,none⟩) m pc/\a.tmps.getD 29 undef=.int .i64 m/\a.tmps.getD 30 undef=.int .i64 d/\a.tmps.getD 38 undef=.slice (some ⟨j5,0,none⟩) 2 2/\a.tmps.getD 39 undef=.int .i64 2/\a.tmps.getD 40 undef=.int .i64 N)/\g.heap[j5]?=some (.cells #[.slice Y X W,.slice b0 b2 a9] 99 (0,0))/\Q3a p s N/\Ext k g)
  (fun a _=>(2 - intOf (a.tmps.getD 40 undef)).toNat) ?_ ?_
 ·exact⟨0,by omega,rfl,⟨rfl,rfl,rfl,rfl,rfl,rfl,rfl⟩,i4.out,⟨fun h=>by omega,fun h=>by omega⟩,b7.out⟩
 clear b7 i4;rintro⟨b1,_⟩ g ⟨N,s2,a3,⟨C,E,F,G,d8,d9,e0⟩,k9,l6,k7⟩;subst a3;obtain⟨b3,r⟩:=Zd C;obtain⟨c,rfl⟩:∃ x,x=b3:=⟨_,rfl⟩;have a8:b1=#[c 0,c 1,c 2,c 3,c 4,c 5,c 6,c 7,c 8,c 9,c 10,c 11,c 12,c 13,c 14,c 15,c 16,c 17,c 18,c 19,c 20,c 21,c 22,c 23,c 24,c 25,c 26,c 27,c 28,c 29,c 30,c 31,c 32,c 33,c 34,c 35,c 36,c 37,c 38,c 39,c 40,c 41,c 42,c 43,c 44,c 45,c 46,c 47,c 48,c 49,c 50]:=r;clear r;subst a8;change c 28=_ at E;change c 29=_ at F;change c 30=_ at G;change c 38=_ at d8;change c 39=_ at d9;change c 40=_ at e0;rw [E,F,G,d8,d9,e0];clear E F G d8 d9 e0 C;obtain⟨O,y,z⟩:=Zh3 k9 l6 k7;clear k9 l6 k7;by_cases f3:N=2
 ·subst f3;have l8:=b5.out (y.out.1 oz) (y.out.2 oz);have o9:=Zh l8;have T:=Zh (i.out.trans z.out);clear l8 b5 y z O b8 b9 R S;go_wp2;exact⟨⟨d+1,by omega,tz,⟨rfl,rfl,rfl,rfl⟩,o9.out,T.out⟩,mz⟩
 have k3:=fun d=>cell_of_row _ _ d _ _ _ O.out;by_cases l5:N=0
 ·subst l5;clear f3;go_wp2_with fail;refine(b8.out _ z.out).mono ?_;rintro e o7 ⟨rfl,J⟩;have a2:=J.keep O.out;have V:=Zh a2;have D:=Zh (z.out.trans J);clear a2 J k3 O z b8;by_cases a0:p=0
  ·subst a0;have a5:Q3a 0 s 1:=⟨fun _=>rfl,fun h=>by omega⟩;have d0:=Zh a5;clear a5 y R;go_wp2;exact⟨⟨1,by omega,tz,⟨rfl,rfl,rfl,rfl,rfl,rfl,rfl⟩,V.out,d0.out,D.out⟩,by simp [intOf]⟩
  ·have q8:(p != 0)=true:=by rw [bne_iff_ne];exact a0
   have o:j=p:=R.out a0;subst o;have T:=Zh (i.out.trans D.out);clear R S b5 y b9 V D;go_wp2;go_ret;exact⟨rfl,T.out⟩
 ·obtain rfl:N=1:=by omega
  clear f3 l5;have a0:p=0:=y.out.1 oz;subst a0;go_wp2_with fail;refine(b9.out _ z.out).mono ?_;rintro e o7 ⟨rfl,J⟩;have a2:=J.keep O.out;have V:=Zh a2;have D:=Zh (z.out.trans J);clear a2 J k3 O z b9;by_cases e6:s=0
  ·subst e6;have a5:Q3a 0 0 2:=⟨fun _=>rfl,fun _=>rfl⟩;have d0:=Zh a5;clear a5 y S;go_wp2;exact⟨⟨2,by omega,tz,⟨rfl,rfl,rfl,rfl,rfl,rfl,rfl⟩,V.out,d0.out,D.out⟩,by simp [intOf]⟩
  ·have q8:(s != 0)=true:=by rw [bne_iff_ne];exact e6
   have o:j=s:=S.out uz e6;subst o;have T:=Zh (i.out.trans D.out);clear R S b5 y b8 V D;go_wp2;go_ret;exact⟨rfl,T.out⟩
theorem Es{w:World}{g o:Nat}{a:Array Value}{t:TypeId}{m:Nat × Nat}(h:w.heap[g]?=some (.cells a t m)):w.cell? ⟨g,o,none⟩=a[o]?:=by simp [World.cell?,h]
def Ht(K:Value->Prop)(w:World)(v:Value):Prop:=∀ g cur t m,v.ownBlock=some g->w.heap[g]?=some (.cells cur t m)->∀ x∈cur.toList,K x
theorem Ht.nil{K:Value->Prop}(w:World):Ht K w (.slice none 0 0):=fun _ _ _ _ h=>by simp [Value.ownBlock] at h
theorem Ht.keep{K:Value->Prop}{S:Nat->Prop}{A B:World}{v:Value}{base:Nat}{e:TypeId}{sz n:Nat}{xs:List Value}(h:Ht K A v)(f:A.ownsRow base e sz v n xs)(i:Q1 S A B)(c:∀ g,v.ownBlock=some g->¬ S g):Ht K B v:=by
 intro g b k j a d;refine h g b k j a ?_;rw [<-d];exact(i.block g (f.lt g a).2 (c g a)).symm
def Q5b(v:Value):Prop:=∃ ao n c,v=.slice ao n c
theorem Ex{w:World}{v u:Value}{base:Nat}{e:TypeId}{sz n:Nat}{xs:List Value}{ws:Wd}(q:Zu w u ws)(p:Ht Q5b w v)(o:w.ownsRow base e sz v n xs):Qr (fun b=>¬ v.ownBlock=some b) u:=by
 rintro k B A x rfl g d;obtain⟨t,y,a,r,_⟩:=q;simp only [zV] at a;obtain⟨rfl,rfl,rfl⟩:=a;obtain⟨⟨_,_,_,_,a,l⟩,_⟩:=r;cases a;obtain⟨z,C,a,_,m⟩:=l g;cases a;obtain⟨j,f⟩:=Z3 o d;have c:=m 0 oz;cases ws with
 | nil=>cases g
 | cons s ws=>
  rw [Nat.add_zero,Es f] at c;obtain⟨_,_,_,i⟩:=p k j _ _ d f _ (Array.mem_toList_iff.2 (Array.mem_of_getElem? c));rw [U3] at i;cases i
theorem Zu.row{A B:World}{v u:Value}{base:Nat}{e:TypeId}{sz n:Nat}{xs:List Value}{ws:Wd}(h:Zu A u ws)(hr:Ht Q5b A v)(ho:A.ownsRow base e sz v n xs)(ht:Q1 (fun b=>v.ownBlock=some b) A B):Zu B u ws:=
 h.keepS (ht.mono fun _ _ hb hn=>hn hb) (Ex h hr ho)
theorem Us.row{A B:World}{v:Value}{base:Nat}{e:TypeId}{sz n:Nat}{xs cs:List Value}{p:Wd × Wd}(h:Us A p cs)(c:Ht Q5b A v)(a:A.ownsRow base e sz v n xs)(d:Q1 (fun b=>v.ownBlock=some b) A B):Us B p cs:=by
 obtain⟨j,v,f,g,i⟩:=h;exact⟨j,v,f,g.row c a d,i.row c a d⟩
theorem Q7e:(Tryz.prog.info? 105).map (fun i=>(i.zero,i.size,i.bytes))=some (some (.agg #[.slice none 0 0,.slice none 0 0]),2,48):=by kernel_rfl
theorem Py(w:World):Qu w (.slice none 0 0) []:=⟨⟨rfl,by simp [maxLen],none,0,rfl,fun h=>by simp at h⟩,fun _ h=>by cases h⟩
theorem Q7z{w:World}{v:Value}{n:Nat}{xs:List Value}(h:Rd w v n 1 xs){k:Nat}(l:k<n):∃ g off cap,v=.slice (some ⟨g,off,none⟩) n cap/\g<w.heap.size/\w.cell? ⟨g,off+k,none⟩=some (xs.getD k undef):=by
 obtain⟨i,j,f,cap,e,a⟩:=h;obtain⟨g,off,b,d,c⟩:=a oz;exact⟨g,off,cap,by rw [e,b],d,c k oz⟩
def Ns(w:World)(v:Value)(us:List Wd):Prop:=∃ vs,Rd w v us.length 1 vs/\∀ i (h:i<us.length),Zu w (vs.getD i undef) us[i]
theorem Ns.ext{A B:World}{v:Value}{us:List Wd}(h:Ns A v us)(a:Ext A B):Ns B v us:=by
 obtain⟨d,b,c⟩:=h;exact⟨d,b.ext a,fun i hi=>(c i hi).ext a⟩
theorem Lr(W:World):Zu W (.slice none 0 0) []:=⟨none,0,rfl,⟨⟨rfl,by simp [maxLen],none,0,rfl,fun h=>by simp at h⟩,by simp [Zt]⟩,Nat.le_refl _⟩
end Go.Proofs.YtfdlhlghcbeblaaGreatDoor
