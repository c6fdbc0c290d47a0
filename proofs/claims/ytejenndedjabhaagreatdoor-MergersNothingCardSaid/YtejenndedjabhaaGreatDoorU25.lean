/- mergers.Phonemes. -/
import Derived.Test.YtejenndedjabhaaGreatDoorU23
set_option maxRecDepth 100000
set_option maxHeartbeats 16000000
namespace Go.Proofs.YtejenndedjabhaaGreatDoor
open Go.RowKit Go.Ab
attribute [local go_sem] Oper.semAt_some Z3 Qj
attribute [local go_sem high] Dx
theorem Q41{ls:List Q4}{us:List Wd}{ss:Wd}(h:Xw ls us ss≠0):Vx ls us ss=[]:=if_neg h
theorem Hk{w:World}{base g n i:Nat}{xs:List Value}(b:w.ownsRow base 3 1 (.slice (some ⟨g,0,none⟩) n n) n xs) (d:i<n) {x:Value} (c:xs[i]?=some x):w.cell? ⟨g,i,none⟩=some x/\w.frozen? ⟨g,i,none⟩=false:=by
 have a:=b.cellAt i oz;rw [c] at a;exact⟨a,b.frozenAt i⟩
theorem Hd{xs:List Value}{i:Nat}(h:i<xs.length):xs[i]?=some (xs.getD i undef):=by
 rw [List.getD_eq_getElem?_getD,List.getElem?_eq_getElem h];rfl
theorem Tl{ss:Wd}{i k:Nat}(h:ss.Nodup)(b:i<ss.length)(c:k<i):ss.getD i (0,0)≠ss.getD k (0,0):=by
 intro a;rw [List.getD_eq_getElem?_getD,List.getD_eq_getElem?_getD,List.getElem?_eq_getElem b,List.getElem?_eq_getElem oz] at a;exact(List.pairwise_iff_getElem.1 h k i oz b c) (by simpa using a.symm)
theorem Q0f{ss:Wd}{m:Nat}(h:Yd ss m=0):ss.Nodup/\ss.length<=m/\∀ s∈ss,okS s=true:=by
 unfold Yd at h
 split at h
 ·cases h
 ·split at h
  ·rename_i c a
   split at h
   ·rename_i b;exact⟨b,by omega,fun s hs=>List.all_eq_true.1 a s hs⟩
   ·cases h
  ·cases h
theorem Ta{w:World}{ps:Ze}{lo:Option Addr}{n lc:Nat}(q3:Z5 w (.slice lo n lc) ps) (q6:ps.length=n) {c6:Option Addr} {N c5:Nat} {us:List Wd} (I:Vf w (.slice c6 N c5) us) (c0:us.length=N) {j7:Option Addr} {M V:Nat} {ss:Wd} (a8:Q5 w (.slice j7 M V) ss) (i6:ss.length=M) (x5:M<=V) (o5:Tab w) :
  Calls Tryz.prog 50 #[.slice lo n lc,.slice c6 N c5,.slice j7 M V] w fun e w'=>∃ vo vc,e=.returned (.tuple #[.slice vo (Vx (ps.map (·.1)) us ss).length vc,.int .i64 (Xw (ps.map (·.1)) us ss)])/\w'.ownsRow w.heap.size 3 1 (.slice vo (Vx (ps.map (·.1)) us ss).length vc) (Vx (ps.map (·.1)) us ss).length (Ja (Vx (ps.map (·.1)) us ss))/\Ext w w':=by
 have D2:N<=maxLen:=by obtain⟨F3,F,_⟩:=I;rw [<-c0];exact F.2.1
 have D1:M<=maxLen:=by rw [<-i6];exact a8.1.2.1
 unfold maxLen at D2 D1;have F:=Gi q3 q6 o5;have Z:=fun(r:World) (a0:Ext w r)=>Nv 16 (a8.ext a0) i6 x5;have p6:=fun {r:World} {f O:Nat} (a0:Ext w r) (e3:w.heap.size<=f) (b1:w.heap.size<=O) (hKO:f≠O) {P Q T:Nat} {y A G H:Nat} (l3:Qd (y,A)) (e4:Qd (G,H)) (hav:okS (y,A)=true) (hbv:okS (G,H)=true) (l4:(y,A)≠(G,H)) (hB:Gq r lo n lc f O P Q T y A G H) {K:List (List UInt8)} {W:Nat} (e2:JAt Tryz.prog 9 3 (ps.map (·.1)) r f O K W) (l5:W<=800000) (o3:N<=32) (m0:∀ uw∈us,Zz (ps.map (·.1)) uw=0)=>Pw q3 q6 o5 e3 b1 hKO l3 e4 hav hbv l4 a0 hB e2 l5 I c0 o3 m0;obtain⟨l,o2⟩:=zE (ps.map (·.1));rw [o2] at F ⊢;simp only [o2] at p6;have r0:Qz l≠0->Xw l us ss=Qz l:=fun h=>by unfold Xw;rw [if_neg h]
 have r1:Qz l=0->32<N->Xw l us ss=12:=fun h Z=>by unfold Xw;rw [if_pos h,c0,if_pos Z]
 have f0:Qz l=0->¬ 32<N->Km us≠0->Xw l us ss=Km us:=fun h Z i2=>by unfold Xw;rw [if_pos h,c0,if_neg Z,if_neg i2]
 have c3:Qz l=0->¬ 32<N->Km us=0->Xw l us ss=Yd ss 16:=fun h Z i2=>by unfold Xw;rw [if_pos h,c0,if_neg Z,if_pos i2]
 have q8:=@Q41 l us ss;obtain⟨q,o9⟩:∃ q:Nat->Nat->Bool,(fun i k=>apL l us (ss.getD i (0,0)) (ss.getD k (0,0)))=q:=⟨_,rfl⟩;have A1:Hid (∀ i k,q i k=apL l us (ss.getD i (0,0)) (ss.getD k (0,0))):=Zh fun i k=>by rw [<-o9]
 have c4:Xw l us ss=0->Vx l us ss=U3 q M:=fun h=>by unfold Vx;rw [if_pos h,i6,o9]
 clear o9
 have g5:Qz l=0->Km us=0->∀ uw∈us,Zz l uw=0:=fun h Z uw hm=>by
  unfold Zz;rw [if_pos h];exact Mf Z _ (List.mem_map.2 ⟨uw,hm,rfl⟩)
 have r2:=@Q0f ss 16;obtain⟨r4,k6⟩:=zE (Qz l);obtain⟨F4,b5⟩:=zE (Yd ss 16);obtain⟨A0,k8⟩:=zE (Km us);obtain⟨v5,l1⟩:=zE (Xw l us ss);obtain⟨F5,o4⟩:=zE (Vx l us ss);rw [k6] at F;simp only [b5] at Z r2;rw [k6,l1] at r0 r1 f0 c3;rw [k8] at f0 c3;rw [b5] at c3;rw [k6,k8] at g5;rw [l1,o4] at q8 c4;rw [l1,o4];have z4:(us.map wE).length=N:=by rw [List.length_map,c0]
 have z3:Ql (us.map wE)=A0:=k8;have r5:=Zh F;have r6:=Zh Z;have A6:Hid (∀ {r:World} {f O:Nat},Ext w r->w.heap.size<=f->w.heap.size<=O->f≠O->∀ {P Q T:Nat} {y A G H:Nat},Qd (y,A)->Qd (G,H)->okS (y,A)=true->okS (G,H)=true->(y,A)≠(G,H)->Gq r lo n lc f O P Q T y A G H->∀ {K:List (List UInt8)} {W:Nat},JAt Tryz.prog 9 3 l r f O K W->W<=800000->N<=32->(∀ uw∈us,Zz l uw=0)->Calls Tryz.prog 81 #[.slice c6 N c5,.func (.func 94) #[] #[.pointer (some ⟨P,0,none⟩),.pointer (some ⟨Q,0,none⟩),.pointer (some ⟨T,0,none⟩)]] r (ApR Tryz.prog 9 3 l r f O K (W+64*N) (apL l us (y,A) (G,H)))):=Zh p6;obtain⟨u9,v0,v1,v3,g9,b9,t3,u0⟩:=Zh8 r0 r1 f0 c3 q8 c4 g5 r2;obtain⟨C1,t6,i0,m4,A5,u6,m6⟩:=Zh7 I c0 a8 i6 x5 z4 z3;clear q3 q6 I c0 a8 i6 o5 F Z p6 r0 r1 f0 c3 q8 c4 g5 r2 k6 b5 k8 l1 o4 o2 z4 z3;go_enter Tryz.func50,Tryz.ntmps50;go_wp2_with fail;refine r5.out.mono ?_;rintro e H3 ⟨rfl,b4⟩;have C:=Zh b4;clear r5 b4;by_cases t:r4=0;case neg=>
  have g6:(r4 != 0)=true:=by simpa using t
  have a7:=u9.out t;subst a7;have f1:=g9.out t;subst f1;go_wp2;refine bodyPost_ret (Qi rfl _ _ _) rfl ⟨_,_,rfl,World.ownsRow_nil _ _ _ _,C.out⟩
 subst t;by_cases p2:32<N
 ·have F:(N:Int) > 32:=by omega
  have a7:=v0.out uz p2;subst a7;have f1:=g9.out zd;subst f1;go_wp2;refine bodyPost_ret (Qi rfl _ _ _) rfl ⟨_,_,rfl,World.ownsRow_nil _ _ _ _,C.out⟩
 have F:¬ (N:Int) > 32:=by omega
 have f0:=v1.out uz p2;have c3:=v3.out uz p2;have g5:=t3.out uz;obtain⟨v2,v4,t4⟩:=Zh3 f0 c3 g5;clear u9 v0 v1 v3 t3 f0 c3 g5;go_wp2;clear F
 refine wp_loop (fun a m7=>∃(k:Nat),k<=N/\a.defers=[]/\(a.tmps.size=119/\a.tmps.getD 0 undef=.slice lo n lc/\a.tmps.getD 1 undef=.slice c6 N c5/\a.tmps.getD 2 undef=.slice j7 M V/\a.tmps.getD 31 undef=.slice c6 N c5/\a.tmps.getD 32 undef=.int .i64 N/\a.tmps.getD 33 undef=.int .i64 k)/\Ql ((us.map wE).take k)=0/\Ext w m7)
  (fun a _=>N - (intOf (a.tmps.getD 33 undef)).toNat) ?_ ?_
 ·exact⟨0,by omega,rfl,⟨rfl,rfl,rfl,rfl,rfl,rfl,rfl⟩,rfl,C.out⟩
 clear C;rintro⟨f6,_⟩ m7 ⟨k,y2,e7,⟨a9,n0,S,U,n3,n4,n5⟩,j0,a0⟩;subst e7;obtain⟨f7,I⟩:=Zg a9;obtain⟨c,rfl⟩:∃ o,o=f7:=⟨_,rfl⟩;have f3:f6=#[c 0,c 1,c 2,c 3,c 4,c 5,c 6,c 7,c 8,c 9,c 10,c 11,c 12,c 13,c 14,c 15,c 16,c 17,c 18,c 19,c 20,c 21,c 22,c 23,c 24,c 25,c 26,c 27,c 28,c 29,c 30,c 31,c 32,c 33,c 34,c 35,c 36,c 37,c 38,c 39,c 40,c 41,c 42,c 43,c 44,c 45,c 46,c 47,c 48,c 49,c 50,c 51,c 52,c 53,c 54,c 55,c 56,c 57,c 58,c 59,c 60,c 61,c 62,c 63,c 64,c 65,c 66,c 67,c 68,c 69,c 70,c 71,c 72,c 73,c 74,c 75,c 76,c 77,c 78,c 79,c 80,c 81,c 82,c 83,c 84,c 85,c 86,c 87,c 88,c 89,c 90,c 91,c 92,c 93,c 94,c 95,c 96,c 97,c 98,c 99,c 100,c 101,c 102,c 103,c 104,c 105,c 106,c 107,c 108,c 109,c 110,c 111,c 112,c 113,c 114,c 115,c 116,c 117,c 118]:=I;clear I;subst f3;change c 0=_ at n0;change c 1=_ at S;change c 2=_ at U;change c 31=_ at n3;change c 32=_ at n4;change c 33=_ at n5;rw [n0,S,U,n3,n4,n5];clear n0 S U n3 n4 n5 a9;have j9:=Zh j0;have B:=Zh a0;clear j0 a0;by_cases q2:k<N;case pos=>
  have F:(k:Int)<(N:Int):=by omega
  have C9:(0:Int)<=(k:Int):=by omega
  have y3:k<us.length:=by rw [t6.out];exact q2
  have q1:k<(us.map wE).length:=by rw [u6.out];exact q2
  obtain⟨F3,a7,z5⟩:=C1.out;rw [t6.out] at a7;obtain⟨m,H1,F9,g7,j2,p5⟩:=Zq (a7.ext B.out) q2;simp only [zV,true_and] at g7;obtain⟨rfl,rfl⟩:=g7;obtain⟨H8,H6,z2,z6⟩:=Ly z5 y3;rw [z2] at p5;have l7:=Vh (z6.ext B.out);have l8:=Vu q1 j9.out;have j1:=K4 q1 j9.out;rw [List.getElem_map] at l8 j1;rw [m6.out] at j1;obtain⟨o,m1⟩:=zE (wE us[k]);rw [m1] at l7 l8 j1;obtain⟨H7,z8⟩:=zE (us[k].length);rw [z8] at p5 l7;obtain⟨s1,A8,A7⟩:=Zh3 l7 l8 j1;clear l7 l8 j1 a7 z5 z2 z6 m1 z8 j2 y3 q1;go_wp2_with fail;refine s1.out.mono ?_;rintro e F6 ⟨rfl,b4⟩;have C:=Zh (B.out.trans b4);clear s1 b4 p5 B;by_cases t:o=0;case neg=>
   have g6:(o != 0)=true:=by simpa using t
   have F1:=A7.out t;subst F1;have a7:=v2.out t;subst a7;have f1:=g9.out t;subst f1;go_wp2;refine bodyPost_ret (Qi rfl _ _ _) rfl ⟨_,_,rfl,World.ownsRow_nil _ _ _ _,C.out⟩
  subst t;go_wp2;exact⟨⟨k+1,by omega,by first | trivial | rfl,⟨rfl,rfl,rfl,rfl,rfl,rfl,rfl⟩,A8.out,C.out⟩,nz⟩
 obtain rfl:k=N:=by omega
 have F:¬ (k:Int)<(k:Int):=by omega
 have j0:=j9.out;rw [List.take_of_length_le (by rw [u6.out];exact Nat.le_refl _),m6.out] at j0;subst j0;have a7:=v4.out uz;subst a7;have m0:=t4.out uz;have B3:=Zh m0;clear v2 v4 t4 m0 j9 m6;go_wp2_with fail;refine(r6.out m7 B.out).mono ?_;rintro e J ⟨rfl,b5⟩;have c8:=Zh (B.out.trans b5);clear r6 b5 B F;by_cases t:v5=0;case neg=>
  have g6:(v5 != 0)=true:=by simpa using t
  have f1:=g9.out t;subst f1;go_wp2;refine bodyPost_ret (Qi rfl _ _ _) rfl ⟨_,_,rfl,World.ownsRow_nil _ _ _ _,c8.out⟩
 subst t;have F2:=b9.out uz;subst F2;obtain⟨y7,D0,b2⟩:=u0.out uz;rw [m4.out] at D0;have B4:=Zh y7;have t9:=Zh b2;clear y7 b2 b9 u0 g9;obtain⟨b3,x2⟩:=zE w.heap.size;have g0:=Zh x2;have D4:b3<=J.heap.size:=by have:=c8.out.size;omega
 clear x2;have E4:(Instr.makeMap 100 none).run Tryz.prog J=.ok (.map (some J.heap.size)) (J.alloc (.map #[] 0)):=rfl;have E5:(Instr.makeMap 100 none).run Tryz.prog (J.alloc (.map #[] 0))=.ok (.map (some (J.alloc (.map #[] 0)).heap.size)) ((J.alloc (.map #[] 0)).alloc (.map #[] 0)):=rfl;obtain⟨f,e3⟩:=zE J.heap.size;have E9:(J.alloc (.map #[] 0)).heap.size=f+1:=by simp [e3]
 have y4:Z9 Tryz.prog 9 3 (J.alloc (.map #[] 0)) f 0 (fun _=>none) 0:=Z9.made rfl e3;have y5:Z9 Tryz.prog 9 3 ((J.alloc (.map #[] 0)).alloc (.map #[] 0)) (f+1) 0 (fun _=>none) 0:=Z9.made rfl E9;obtain⟨c7,f4⟩:=zE (((J.alloc (.map #[] 0)).alloc (.map #[] 0)).alloc (.cells #[.slice lo n lc,.map (some f),.map (some (f+1))] 125));have w2:Ext J c7:=by rw [<-f4];exact(((Q0.refl _ J).alloc _).alloc _).alloc _
 have x9:c7.heap[f+2]?=some (.cells #[.slice lo n lc,.map (some f),.map (some (f+1))] 125 (0,0)):=by rw [<-f4];exact new_at (by simp [e3])
 have j4:JAt Tryz.prog 9 3 l c7 f (f+1) [] 0:=by
  have C7:Ext (J.alloc (.map #[] 0)) c7:=by rw [<-f4];exact((Q0.refl _ _).alloc _).alloc _
  have C8:Ext ((J.alloc (.map #[] 0)).alloc (.map #[] 0)) c7:=by rw [<-f4];exact(Q0.refl _ _).alloc _
  exact⟨_,_,0,y4.keep C7 id,y5.keep C8 id,JOk.start l,Nat.le_refl _⟩
 have z0:c7.heap.size=f+3:=by rw [<-f4];simp [e3]
 obtain⟨u5,B1,a1,k0,j8,m5⟩:=Zh6 f4 e3 x9 j4 (c8.out.trans w2) z0;have G5:b3<=f:=by omega
 clear f4 y4 y5 w2 x9 j4 z0 c8;go_upto_region 17 with (fail)
 rw [show f+1+1=f+2 from rfl,u5.out];clear E4 E5 u5;have x3:b3<=c7.heap.size:=by rw [m5.out];omega
 go_wp2_with (at_make;refine Kj rfl (.tmp 53) (.tmp 53) 36 rfl b3 3 _ 8 Tryz.underlying36 Tryz.infoD rfl .i64 .i64 M M M rfl rfl rfl rfl ?c1 ?c2 x3 ?_)
 case c1=>omega
 case c2=>unfold maxLen;omega
 intro H4 l0 k7;rw [<-Bl M] at l0;obtain⟨m,j2⟩:=zE c7.heap.size;rw [j2] at l0 ⊢;have x7:m=f+3:=by rw [<-j2];exact m5.out
 obtain⟨t8,s4,s7,t0,c9⟩:=Zh5 l0 (j8.out.trans k7) (k0.out.keep k7 id id) (k7.keep a1.out) x7;clear l0 k7 j2 x3 j8 k0 a1 m5 B1 D4 x7;go_wp2
 refine wp_loop (fun a r=>∃(i:Nat) (K:List (List UInt8)),i<=M/\a.defers=[]/\(a.tmps.size=119/\a.tmps.getD 1 undef=.slice c6 k c5/\a.tmps.getD 2 undef=.slice j7 M V/\a.tmps.getD 13 undef=.pointer (some ⟨f+2,0,none⟩)/\a.tmps.getD 14 undef=.slice (some ⟨m,0,none⟩) M M/\a.tmps.getD 55 undef=.slice j7 M V/\a.tmps.getD 56 undef=.int .i64 M/\a.tmps.getD 57 undef=.int .i64 i)/\r.ownsRow b3 3 1 (.slice (some ⟨m,0,none⟩) M M) M (Y3 M (U3 q i))/\JAt Tryz.prog 9 3 l r f (f+1) K (i*32768)/\r.heap[f+2]?=some (.cells #[.slice lo n lc,.map (some f),.map (some (f+1))] 125 (0,0))/\Ext w r)
  (fun a _=>M - (intOf (a.tmps.getD 57 undef)).toNat) ?_ ?_
 ·exact⟨0,[],by omega,rfl,⟨rfl,rfl,rfl,rfl,rfl,rfl,rfl,rfl⟩,t8.out,s7.out,t0.out,s4.out⟩
 clear t8 s7 t0 s4;rintro⟨f6,_⟩ r ⟨i,K,G7,e7,⟨a9,S,U,a2,a3,a4,a5,a6⟩,b1,e2,i3,a0⟩;subst e7;obtain⟨f7,I⟩:=Zg a9;obtain⟨c,rfl⟩:∃ o,o=f7:=⟨_,rfl⟩;have f3:f6=#[c 0,c 1,c 2,c 3,c 4,c 5,c 6,c 7,c 8,c 9,c 10,c 11,c 12,c 13,c 14,c 15,c 16,c 17,c 18,c 19,c 20,c 21,c 22,c 23,c 24,c 25,c 26,c 27,c 28,c 29,c 30,c 31,c 32,c 33,c 34,c 35,c 36,c 37,c 38,c 39,c 40,c 41,c 42,c 43,c 44,c 45,c 46,c 47,c 48,c 49,c 50,c 51,c 52,c 53,c 54,c 55,c 56,c 57,c 58,c 59,c 60,c 61,c 62,c 63,c 64,c 65,c 66,c 67,c 68,c 69,c 70,c 71,c 72,c 73,c 74,c 75,c 76,c 77,c 78,c 79,c 80,c 81,c 82,c 83,c 84,c 85,c 86,c 87,c 88,c 89,c 90,c 91,c 92,c 93,c 94,c 95,c 96,c 97,c 98,c 99,c 100,c 101,c 102,c 103,c 104,c 105,c 106,c 107,c 108,c 109,c 110,c 111,c 112,c 113,c 114,c 115,c 116,c 117,c 118]:=I;clear I;subst f3;change c 1=_ at S;change c 2=_ at U;change c 13=_ at a2;change c 14=_ at a3;change c 55=_ at a4;change c 56=_ at a5;change c 57=_ at a6;rw [S,U,a2,a3,a4,a5,a6];clear S U a2 a3 a4 a5 a6 a9;obtain⟨u,d0,a1,B⟩:=Zh4 b1 e2 i3 a0;clear b1 e2 i3 a0;by_cases g3:i<M;case neg=>
  obtain rfl:i=M:=by omega
  have F:¬ (i:Int)<(i:Int):=by omega
  have g:=u.out;rw [Eu (Ut q i)] at g;have X:=Zh g;clear g u d0 a1;go_wp2;refine bodyPost_ret (Qi rfl _ _ _) rfl ⟨some ⟨m,0,none⟩,i,by rw [Ut];rfl,by rw [Ut,g0.out];exact X.out,B.out⟩
 have F:(i:Int)<(M:Int):=by omega
 have C9:(0:Int)<=(i:Int):=by omega
 have j3:i<ss.length:=by rw [m4.out];exact g3
 obtain⟨e1,f5,G0,g7,p9,e5,e6⟩:=(i0.out.ext B.out).at j3;simp only [zV] at g7;obtain⟨rfl,t,rfl⟩:=g7;clear t;have e8:ss.getD i (0,0)=ss[i]:=by rw [List.getD_eq_getElem?_getD,List.getElem?_eq_getElem j3];rfl
 have b2:okS (ss.getD i (0,0))=true:=by rw [e8];exact t9.out _ (List.getElem_mem j3)
 have e9:Qd (ss.getD i (0,0)):=by rw [e8];exact i0.out.2 _ (List.getElem_mem j3)
 have p0:∀ k,q i k=apL l us (ss.getD i (0,0)) (ss.getD k (0,0)):=A1.out i;have q7:∀ k,k<i->ss.getD i (0,0)≠ss.getD k (0,0):=fun k y2=>Tl B4.out j3 y2;obtain⟨⟨y,A⟩,a8⟩:=zE (ss.getD i (0,0));rw [a8] at e5 e6 b2 e9;simp only [a8] at p0 q7;dsimp only at e5 e6;have A2:=Zh p0;have B6:=Zh q7;have B8:Hid (okS (y,A)=true):=Zh b2;have B7:Hid (Qd (y,A)):=Zh e9;clear e8 b2 e9 p0 q7 a8 p9;obtain⟨d4,i8⟩:=zE (r.alloc (.cells #[.int .u32 (y:Int),.int .u32 (A:Int)] 26));obtain⟨b0,i9⟩:=zE r.heap.size;have Y:Ext r d4:=by rw [<-i8];exact(Q0.refl _ _).alloc _
 have v7:d4.heap[b0]?=some (.cells #[.int .u32 (y:Int),.int .u32 (A:Int)] 26 (0,0)):=by rw [<-i8];exact new_at i9.symm
 have x8:m<b0:=by rw [<-i9];exact(u.out.lt m rfl).2
 have b6:=Qa u.out Y;have b7:(Y3 M (U3 q i)).length=M:=Wu (by rw [Ut];omega);obtain⟨c1,c2⟩:=Hk b6 g3 (Hd (by rw [b7];exact g3));obtain⟨H5,z7⟩:=zE ((Y3 M (U3 q i)).getD i undef);rw [z7] at c1;have f2:=U4 b6 i (.int .i64 (i:Int));rw [Ts (Ut q i) g3,<-Wh q i] at f2;have g2:=Q0.set1 d4 m i (.int .i64 (i:Int));have k9:=(show f≠m/\f+1≠m/\f+2≠m by have:=c9.out;omega);have o0:=(d0.out.keep Y id id).keep g2 k9.1 k9.2.1;have o1:=g2.heap (Y.keep a1.out) k9.2.2;have p3:=g2.heap v7 oz;have b4:Ext w (d4.setCell ⟨m,i,none⟩ (.int .i64 (i:Int))):=(B.out.trans Y).after g2 (fun b e4 e=>by have:=g0.out;have:=c9.out;omega);have E8:=g2.size;have F0:d4.heap.size=b0+1:=by rw [<-i8];simp [i9]
 have o7:b0+1<=(d4.setCell ⟨m,i,none⟩ (.int .i64 (i:Int))).heap.size:=by omega
 obtain⟨C6,o6⟩:=zE (d4.setCell ⟨m,i,none⟩ (.int .i64 (i:Int)));rw [o6] at f2 o0 o1 p3 b4 o7;obtain⟨u3,C3,u4,X,d1,b8,f8,C⟩:=Zh8 i8 i9 o6 f2 o0 o1 p3 b4;have m3:=Zh x8;have C4:=Zh o7;clear i8 i9 o6 Y v7 b6 b7 z7 f2 g2 o0 o1 p3 b4 E8 u d0 a1 B x8 o7 k9 F0;go_upto_region 21 with (fail)
 rw [C3.out,u3.out];clear u3 e5 e6;go_upto_region 22 with (fail)
 rw [u4.out];clear u4 c1 c2;have E1:(i:Int)<=(V:Int):=by have:=A5.out;omega
 go_wp2;have D3:Q5 C6 (.slice (some ⟨e1,f5,none⟩) M V) ss:=i0.out.ext C.out;clear E1 F
 refine wp_loop (fun a R=>∃(k':Nat) (K:List (List UInt8)),k'<=i/\a.defers=[]/\(a.tmps.size=119/\a.tmps.getD 1 undef=.slice c6 k c5/\a.tmps.getD 2 undef=.slice (some ⟨e1,f5,none⟩) M V/\a.tmps.getD 13 undef=.pointer (some ⟨f+2,0,none⟩)/\a.tmps.getD 14 undef=.slice (some ⟨m,0,none⟩) M M/\a.tmps.getD 15 undef=.int .i64 i/\a.tmps.getD 16 undef=.pointer (some ⟨b0,0,none⟩)/\a.tmps.getD 55 undef=.slice (some ⟨e1,f5,none⟩) M V/\a.tmps.getD 56 undef=.int .i64 M/\a.tmps.getD 57 undef=.int .i64 i/\a.tmps.getD 68 undef=.slice (some ⟨e1,f5,none⟩) i V/\a.tmps.getD 69 undef=.int .i64 i/\a.tmps.getD 70 undef=.int .i64 k')/\R.ownsRow b3 3 1 (.slice (some ⟨m,0,none⟩) M M) M (Y3 M (Jv q i (U3 q i) k'))/\JAt Tryz.prog 9 3 l R f (f+1) K (i*32768+k'*2048)/\R.heap[f+2]?=some (.cells #[.slice lo n lc,.map (some f),.map (some (f+1))] 125 (0,0))/\R.heap[b0]?=some (.cells #[.int .u32 (y:Int),.int .u32 (A:Int)] 26 (0,0))/\Ext w R)
  (fun a _=>i - (intOf (a.tmps.getD 70 undef)).toNat) ?_ ?_
 ·exact⟨0,K,by omega,rfl,⟨rfl,rfl,rfl,rfl,rfl,rfl,rfl,rfl,rfl,rfl,rfl,rfl,rfl⟩,X.out,d1.out,b8.out,f8.out,C.out⟩
 clear X d1 b8 f8 C D3 C4;rintro⟨f6,_⟩ R ⟨j,K,g7,e7,⟨a9,S,U,a2,a3,d6,d7,a4,a5,a6,d8,d9,e0⟩,b1,e2,i3,w0,a0⟩;subst e7;obtain⟨f7,I⟩:=Zg a9;obtain⟨c,rfl⟩:∃ o,o=f7:=⟨_,rfl⟩;have f3:f6=#[c 0,c 1,c 2,c 3,c 4,c 5,c 6,c 7,c 8,c 9,c 10,c 11,c 12,c 13,c 14,c 15,c 16,c 17,c 18,c 19,c 20,c 21,c 22,c 23,c 24,c 25,c 26,c 27,c 28,c 29,c 30,c 31,c 32,c 33,c 34,c 35,c 36,c 37,c 38,c 39,c 40,c 41,c 42,c 43,c 44,c 45,c 46,c 47,c 48,c 49,c 50,c 51,c 52,c 53,c 54,c 55,c 56,c 57,c 58,c 59,c 60,c 61,c 62,c 63,c 64,c 65,c 66,c 67,c 68,c 69,c 70,c 71,c 72,c 73,c 74,c 75,c 76,c 77,c 78,c 79,c 80,c 81,c 82,c 83,c 84,c 85,c 86,c 87,c 88,c 89,c 90,c 91,c 92,c 93,c 94,c 95,c 96,c 97,c 98,c 99,c 100,c 101,c 102,c 103,c 104,c 105,c 106,c 107,c 108,c 109,c 110,c 111,c 112,c 113,c 114,c 115,c 116,c 117,c 118]:=I;clear I;subst f3;change c 1=_ at S;change c 2=_ at U;change c 13=_ at a2;change c 14=_ at a3;change c 15=_ at d6;change c 16=_ at d7;change c 55=_ at a4;change c 56=_ at a5;change c 57=_ at a6;change c 68=_ at d8;change c 69=_ at d9;change c 70=_ at e0;rw [S,U,a2,a3,d6,d7,a4,a5,a6,d8,d9,e0];clear S U a2 a3 d6 d7 a4 a5 a6 d8 d9 e0 a9;obtain⟨u,d0,a1,f8,B⟩:=Zh5 b1 e2 i3 w0 a0;clear b1 e2 i3 w0 a0;by_cases E7:j<i;case neg=>
  obtain rfl:j=i:=by omega
  have F:¬ (j:Int)<(j:Int):=by omega
  have g:=u.out;rw [<-Kg] at g;have X:=Zh g;clear g u;go_wp2;exact⟨⟨j+1,by omega,by simp,X.out,⟨K,d0.out.mono oz⟩,a1.out,B.out⟩,nz⟩
 have F:(j:Int)<(i:Int):=by omega
 have Z:(0:Int)<=(j:Int):=by omega
 have G8:(i:Int)<(M:Int):=by omega
 have H0:(j:Int)<(M:Int):=by omega
 have j5:j<ss.length:=by rw [m4.out];omega
 obtain⟨G2,H2,G1,y8,p9,e5,e6⟩:=(i0.out.ext B.out).at j5;simp only [zV,Option.some.injEq,Addr.mk.injEq,and_true] at y8;obtain⟨⟨rfl,rfl⟩,t,rfl⟩:=y8;clear t;have e8:ss.getD j (0,0)=ss[j]:=by rw [List.getD_eq_getElem?_getD,List.getElem?_eq_getElem j5];rfl
 have b2:okS (ss.getD j (0,0))=true:=by rw [e8];exact t9.out _ (List.getElem_mem j5)
 have e9:Qd (ss.getD j (0,0)):=by rw [e8];exact i0.out.2 _ (List.getElem_mem j5)
 have g6:=B6.out j E7;have p1:=A2.out j;obtain⟨⟨G,H⟩,a8⟩:=zE (ss.getD j (0,0));rw [a8] at e5 e6 b2 e9 g6 p1;dsimp only at e5 e6;have C0:Hid (okS (G,H)=true):=Zh b2;have B9:Hid (Qd (G,H)):=Zh e9;have B5:Hid ((y,A)≠(G,H)):=Zh g6;have A3:=Zh p1;clear e8 b2 e9 g6 p1 a8 p9 j5;obtain⟨g1,l2⟩:=zE (R.alloc (.cells #[.int .u32 (G:Int),.int .u32 (H:Int)] 26));obtain⟨k5,o8⟩:=zE R.heap.size;have Y:Ext R g1:=by rw [<-l2];exact(Q0.refl _ _).alloc _
 have v8:g1.heap[k5]?=some (.cells #[.int .u32 (G:Int),.int .u32 (H:Int)] 26 (0,0)):=by rw [<-l2];exact new_at o8.symm
 obtain⟨L,i5⟩:=zE (Jv q i (U3 q i) j);have w6:L.length=i+1:=by rw [<-i5,Fi,Ut]
 have w7:∀ o∈L,o<=i:=by rw [<-i5];exact Ls q i (fun o m1=>Bt q i o m1) j
 have y9:Jv q i (U3 q i) (j+1)=Ue q i L j:=by rw [Ve,i5]
 have b6:=Qa u.out Y;rw [i5] at b6;have l3:=Wi (N:=M) (L:=L) (i:=i) oz;have e4:=Wi (N:=M) (L:=L) (i:=j) oz;have l9:∀ p,p<L.length->L.getD p 0<=i:=fun p q0=>by rw [List.getD_eq_getElem?_getD,List.getElem?_eq_getElem q0];exact w7 _ (List.getElem_mem q0)
 have D5:=l9 i oz;have D7:=l9 j oz;have b7:(Y3 M L).length=M:=Wu oz;have m8:=(Hk b6 (i:=i) g3 (Hd (by rw [b7];exact g3))).1;have m9:=(Hk b6 (i:=j) oz (Hd (by rw [b7];omega))).1;rw [l3] at m8;rw [e4] at m9;obtain⟨v,q4⟩:=zE (L.getD i 0);obtain⟨x,q5⟩:=zE (L.getD j 0);rw [q4] at m8 D5;rw [q5] at m9 D7;obtain⟨u2,u7,t7,k4,k1,t1,t2,A9⟩:=Zh8 l2 o8 b6 y9 w6 q4 q5 l9;obtain⟨s5,s8,r8,s3,s0⟩:=Zh5 (d0.out.keep Y id id) (Y.keep a1.out) (Y.keep f8.out) (B.out.trans Y) v8;have w5:f+2<k5/\b0<k5:=by
  have F7:=(Array.getElem?_eq_some_iff.1 a1.out).1;have F8:=(Array.getElem?_eq_some_iff.1 f8.out).1;omega
 have B2:=Zh w5;clear l2 o8 Y v8 i5 w6 w7 y9 b6 l3 e4 l9 b7 q4 q5 u d0 a1 f8 B w5;go_upto_region 25 with (fail)
 rw [u7.out,u2.out];clear u2 u7 e5 e6
 go_quiet (fail)
 have d5:Ext g1 (g1.drewN nq):=(Q0.refl _ g1).drewN _;obtain⟨X,d1,b8,g8,C,m2⟩:=Zh6 (Qa t7.out d5) (s5.out.keep d5 id id) (d5.keep s8.out) (d5.keep r8.out) (s3.out.trans d5) (d5.keep s0.out);obtain⟨C5,x1⟩:=zE (g1.drewN nq);rw [x1] at X d1 b8 g8 C m2 ⊢;clear d5 x1 m8 m9 t7 s5 s8 r8 s3 s0;by_cases l4:v=x
 ·have D6:((v:Int) ==(x:Int))=true:=by simp;omega
  have j6:Ue q i L j=L:=Nw (.inr (by rw [t1.out,t2.out];exact l4));have g:=X.out;rw [<-j6,<-k4.out] at g;have f9:=Zh g;clear g j6 l4 X;go_wp2;exact⟨⟨j+1,K,by omega,tz,⟨rfl,rfl,rfl,rfl,rfl,rfl,rfl,rfl,rfl,rfl,rfl,rfl,rfl⟩,f9.out,d1.out.mono oz,b8.out,g8.out,C.out⟩,nz⟩
 have D6:((v:Int) ==(x:Int))=false:=by simp;omega
 have o3:k<=32:=by omega
 have y1:Gq C5 lo n lc f (f+1) (f+2) b0 k5 y A G H:=⟨b8.out,g8.out,m2.out,by have:=B2.out;have:=m3.out;have:=c9.out;omega⟩;have p7:=A6.out C.out (by have:=g0.out;omega) (by have:=g0.out;omega) oz B7.out B9.out B8.out C0.out B5.out y1 d1.out oz o3 B3.out;rw [<-A3.out] at p7;have s2:=Zh p7;clear y1 p7;go_wp2_with fail;refine s2.out.mono ?_;rintro e v6 ⟨u8,rfl,w3,i7⟩;have w8:=Qc X.out i7 (fun z t e=>by simp only [Value.ownBlock,Option.some.injEq] at t;have:=c9.out;omega);have w4:=i7.heap b8.out oz;have w1:=i7.heap g8.out (by have:=m3.out;have:=c9.out;omega);have b5:Ext w v6:=C.out.after i7 (fun b e4 e=>by have:=g0.out;omega);obtain⟨z9,n9⟩:=zE (q i j);rw [n9];obtain⟨r7,f9,s6,s9,r9,c8⟩:=Zh6 n9 w8 (w3.mono (d:=i*32768+(j+1)*2048) oz) w4 w1 b5;clear n9 w8 w3 w4 w1 b5 i7 s2 X d1 b8 g8 C m2;cases z9;case true=>
  have j6:Ue q i L j=L:=Nw (.inl r7.out);have g:=f9.out;rw [<-j6,<-k4.out] at g;have k3:=Zh g;clear g j6 f9;go_wp2;exact⟨⟨j+1,K++u8,by omega,tz,⟨rfl,rfl,rfl,rfl,rfl,rfl,rfl,rfl,rfl,rfl,rfl,rfl,rfl⟩,k3.out,s6.out,s9.out,r9.out,c8.out⟩,nz⟩
 have z1:Ue q i L j=U0 L v x:=by rw [Q3t r7.out,t1.out,t2.out]
 have g:=f9.out;rw [<-Ez L v x] at g;have C2:=Zh (k4.out.trans z1);have k3:=Zh g;have E2:(i:Int)+1<=(M:Int):=by omega
 have E3:(0:Int)<=(i:Int)+1:=by omega
 obtain⟨r3,y6⟩:=zE (min v x);have t5:=Zh y6;clear g z1 f9 k4 y6;go_wp2;clear E2 E3
 refine wp_loop (fun a R=>∃(p:Nat),p<=i+1/\a.defers=[]/\(a.tmps.size=119/\a.tmps.getD 1 undef=.slice c6 k c5/\a.tmps.getD 2 undef=.slice (some ⟨e1,f5,none⟩) M V/\a.tmps.getD 13 undef=.pointer (some ⟨f+2,0,none⟩)/\a.tmps.getD 14 undef=.slice (some ⟨m,0,none⟩) M M/\a.tmps.getD 15 undef=.int .i64 i/\a.tmps.getD 16 undef=.pointer (some ⟨b0,0,none⟩)/\a.tmps.getD 19 undef=.int .i64 v/\a.tmps.getD 20 undef=.int .i64 x/\a.tmps.getD 55 undef=.slice (some ⟨e1,f5,none⟩) M V/\a.tmps.getD 56 undef=.int .i64 M/\a.tmps.getD 57 undef=.int .i64 i/\a.tmps.getD 68 undef=.slice (some ⟨e1,f5,none⟩) i V/\a.tmps.getD 69 undef=.int .i64 i/\a.tmps.getD 70 undef=.int .i64 j/\a.tmps.getD 94 undef=.slice (some ⟨m,0,none⟩) (i+1) M/\a.tmps.getD 95 undef=.int .i64 ((i:Int)+1)/\a.tmps.getD 96 undef=.int .i64 p)/\R.ownsRow b3 3 1 (.slice (some ⟨m,0,none⟩) M M) M (Y3 M (Xa L v x p))/\Q0 (fun b=>b=m) v6 R)
  (fun a _=>i+1 - (intOf (a.tmps.getD 96 undef)).toNat) ?_ ?_
 ·exact⟨0,by omega,rfl,⟨rfl,rfl,rfl,rfl,rfl,rfl,rfl,rfl,rfl,rfl,rfl,rfl,rfl,rfl,rfl,by first | rfl | (simp;done) | (simp;omega),by first | rfl | (simp;done) | (simp;omega),rfl⟩,k3.out,Q0.refl _ _⟩
 clear k3;rintro⟨f6,_⟩ R ⟨p,q0,e7,⟨a9,S,U,a2,a3,d6,d7,n1,n2,a4,a5,a6,d8,d9,e0,n6,n7,n8⟩,b1,w9⟩;subst e7;obtain⟨f7,I⟩:=Zg a9;obtain⟨c,rfl⟩:∃ o,o=f7:=⟨_,rfl⟩;have f3:f6=#[c 0,c 1,c 2,c 3,c 4,c 5,c 6,c 7,c 8,c 9,c 10,c 11,c 12,c 13,c 14,c 15,c 16,c 17,c 18,c 19,c 20,c 21,c 22,c 23,c 24,c 25,c 26,c 27,c 28,c 29,c 30,c 31,c 32,c 33,c 34,c 35,c 36,c 37,c 38,c 39,c 40,c 41,c 42,c 43,c 44,c 45,c 46,c 47,c 48,c 49,c 50,c 51,c 52,c 53,c 54,c 55,c 56,c 57,c 58,c 59,c 60,c 61,c 62,c 63,c 64,c 65,c 66,c 67,c 68,c 69,c 70,c 71,c 72,c 73,c 74,c 75,c 76,c 77,c 78,c 79,c 80,c 81,c 82,c 83,c 84,c 85,c 86,c 87,c 88,c 89,c 90,c 91,c 92,c 93,c 94,c 95,c 96,c 97,c 98,c 99,c 100,c 101,c 102,c 103,c 104,c 105,c 106,c 107,c 108,c 109,c 110,c 111,c 112,c 113,c 114,c 115,c 116,c 117,c 118]:=I;clear I;subst f3;change c 1=_ at S;change c 2=_ at U;change c 13=_ at a2;change c 14=_ at a3;change c 15=_ at d6;change c 16=_ at d7;change c 19=_ at n1;change c 20=_ at n2;change c 55=_ at a4;change c 56=_ at a5;change c 57=_ at a6;change c 68=_ at d8;change c 69=_ at d9;change c 70=_ at e0;change c 94=_ at n6;change c 95=_ at n7;change c 96=_ at n8;rw [S,U,a2,a3,d6,d7,n1,n2,a4,a5,a6,d8,d9,e0,n6,n7,n8];clear S U a2 a3 d6 d7 n1 n2 a4 a5 a6 d8 d9 e0 n6 n7 n8 a9;have u:=Zh b1;have d3:=Zh w9;clear b1 w9;by_cases G9:p<i+1;case neg=>
  obtain rfl:p=i+1:=by omega
  have i2:¬ ((i+1:Nat):Int)<(i:Int)+1:=by omega
  have g:=u.out;rw [Q13 v x (by rw [k1.out];exact Nat.le_refl _),<-C2.out] at g;have i4:f≠m/\f+1≠m/\f+2≠m/\b0≠m:=by have:=c9.out;have:=m3.out;omega
  have j4:=s6.out.keep d3.out i4.1 i4.2.1;have y0:=d3.out.heap s9.out i4.2.2.1;have x4:=d3.out.heap r9.out i4.2.2.2;have x6:Ext w R:=c8.out.after d3.out (fun b e4 e=>by have:=g0.out;have:=c9.out;omega);obtain⟨d2,k0,B0,A4,j8⟩:=Zh5 g j4 y0 x4 x6;clear g i4 j4 y0 x4 x6 u d3;go_wp2;exact⟨⟨j+1,by omega,by simp,d2.out,⟨K++u8,k0.out⟩,B0.out,A4.out,j8.out⟩,nz⟩
 have i2:(p:Int)<(i:Int)+1:=by omega
 have G3:(0:Int)<=(p:Int):=by omega
 have G4:(p:Int)<(M:Int):=by omega
 have g4:p<L.length:=by rw [k1.out];omega
 have p8:=Wi (N:=M) (L:=Xa L v x p) (i:=p) (by rw [Hf];exact g4);rw [Q2d v x g4] at p8;have b7:(Y3 M (Xa L v x p)).length=M:=Wu (by rw [Hf,k1.out];omega);obtain⟨v9,G6⟩:=Hk u.out (i:=p) oz (Hd (by rw [b7];omega));rw [p8] at v9;have E0:=A9.out p g4;have c4:=Q29 (N:=M) (a:=v) (b:=x) g4 (by rw [k1.out];omega);have q9:=Q3g (a:=v) (b:=x) g4;obtain⟨W,l5⟩:=zE (L.getD p 0);rw [l5] at v9 E0 c4 q9;rw [t5.out] at c4;have E6:min (v:Int) (x:Int)=(r3:Int):=by have:=t5.out;omega
 have f2:=U4 u.out p (.int .i64 (r3:Int));have x0:=d3.out.trans (Q0.set1 R m p (.int .i64 (r3:Int)));obtain⟨b9,k2,i1,u1⟩:=Zh4 c4 q9 f2 x0;clear c4 q9 f2 x0 p8 b7 l5 g4;by_cases l6:W=v
 ·have D8:((W:Int) ==(v:Int))=true:=by simp;omega
  have g:=i1.out;rw [b9.out (.inl l6)] at g;have d2:=Zh g;clear g l6 u i1 b9 k2;go_wp2;exact⟨⟨p+1,by omega,tz,⟨rfl,rfl,rfl,rfl,rfl,rfl,rfl,rfl,rfl,rfl,rfl,rfl,rfl,rfl,rfl,rfl,rfl,rfl⟩,d2.out,u1.out⟩,nz⟩
 have D8:((W:Int) ==(v:Int))=false:=by simp;omega
 by_cases p4:W=x
 ·have D9:((W:Int) ==(x:Int))=true:=by simp;omega
  have g:=i1.out;rw [b9.out (.inr p4)] at g;have d2:=Zh g;clear g l6 p4 u i1 b9 k2;go_wp2;exact⟨⟨p+1,by omega,tz,⟨rfl,rfl,rfl,rfl,rfl,rfl,rfl,rfl,rfl,rfl,rfl,rfl,rfl,rfl,rfl,rfl,rfl,rfl⟩,d2.out,u1.out⟩,nz⟩
 have D9:((W:Int) ==(x:Int))=false:=by simp;omega
 have g:=u.out;rw [<-k2.out oz] at g;have d2:=Zh g;clear g l6 p4 u i1 b9 k2 E6;go_wp2;exact⟨⟨p+1,by omega,tz,⟨rfl,rfl,rfl,rfl,rfl,rfl,rfl,rfl,rfl,rfl,rfl,rfl,rfl,rfl,rfl,rfl,rfl,rfl⟩,d2.out,d3.out⟩,nz⟩
end Go.Proofs.YtejenndedjabhaaGreatDoor
