/- law.run: -/
import Derived.Test.YtfdlhlghcbeblaaGreatDoorY08
set_option maxRecDepth 100000
set_option maxHeartbeats 16000000
namespace Go.Proofs.YtfdlhlghcbeblaaGreatDoor
open Go.RowKit Go.Ab
attribute [local go_sem] Oper.semAt_some Zf Qp
theorem Q14{w:World}{BW BL a3 a4:Nat}{l:Q7}{cs:List Value}{vo:Option Addr}{vc:Nat}{ws:Wd}{K:Nat->Prop}(k3:X8 l=true)(e7:l.mode=2)(o2:ws.length<=32)(e0:ws.length<=vc)(e4:Qr K (.slice vo ws.length vc))
  (i8:∀ b,K b->b<w.heap.size) (E:∀ W,Q1 (fun b=>¬ K b) w W->R7 W BW BL a3 a4 l cs vo vc ws) :
  Ut Tryz.prog 225 #[.pointer (some ⟨BW,0,none⟩),.pointer (some ⟨BL,0,none⟩),.pointer (some ⟨a3,0,none⟩),.pointer (some ⟨a4,0,none⟩)] (Yl 2) (Tg 2) (Z4 l ws) K w:=by
 intro a0 m9 p4 W f1 i4 n6 j4 i3;obtain⟨n9,k5,k2,_,j8,_,_,_⟩:=Gz k3;have b2:=E W f1;have k6:=b2.law.box.mode;rw [e7] at k6;obtain⟨l6,f2⟩:=zE ws.length;have a9:=cell_of_one b2.box;rw [f2] at a9 o2 e0 e4;obtain⟨g1,O,d3,l9,g4,I,d5,f9⟩:=Zh8 e4 f2 E j8 e7 i4 j4 i3;have d4:=Zh f1;have c3:=Zh b2;obtain⟨Z,e3⟩:=zE l.ifs.length;obtain⟨f4,e6⟩:=zE l.outs.length;rw [e3] at n9 k2;rw [e6] at k5 k2;have q:=Zh e3;have J:=Zh e6;clear E j8 e7 i4 n6 j4 i3 f1 b2 k3 f2 e4 e3 e6;show Calls _ _ #[.func (.yield a0) #[] #[],.pointer (some ⟨BW,0,none⟩),.pointer (some ⟨BL,0,none⟩),.pointer (some ⟨a3,0,none⟩),.pointer (some ⟨a4,0,none⟩)] _ _;go_enter Tryz.func225,Tryz.ntmps225;have d6:=c3.out.law.box.mode;rw [g4.out] at d6;go_upto_region 1 with (fail)
 obtain⟨N,p⟩:=zE (W.alloc (.cells #[.func (.yield a0) #[] #[]] 266));have G:Ext W N:=by rw [<-p];exact(Q1.refl _ W).alloc _
 have d9:N.heap[W.heap.size]?=some (.cells #[.func (.yield a0) #[] #[]] 266 (0,0)):=by rw [<-p];exact Q3 rfl
 have f0:N.heap.size=W.heap.size+1:=by rw [<-p];simp
 rw [p];obtain⟨e,b7⟩:=zE W.heap.size;rw [b7] at d9 f0 ⊢;have e2:=I.out;have f3:=d5.out;rw [b7] at e2 f3;have o7:=I;have I:=Zh e2;have d5:=Zh f3;clear e2 f3;have m1:Hid (∀ b,K b->b<e):=Zh fun b U=>by have:=i8 b U;have:=d4.out.size;omega
 have i1:=Zh b7;have a6:=Zh f0;clear i8;have a9:=G.cell_some a9 id;clear p b7 f0 k6;go_upto_region 2 with (fail)
 rw [a6.out];obtain⟨c2,Y⟩:=zE (N.alloc (.cells #[.slice vo l6 vc] 99));have C:Ext N c2:=by rw [<-Y];exact(Q1.refl _ N).alloc _
 have i9:Yz c2 (e+1) (.slice vo l6 vc):=by rw [<-Y];exact Q3 a6.out.symm
 have k8:c2.heap.size=e+2:=by rw [<-Y];simp [a6.out]
 have j5:=C.keep d9;rw [Y];have R:=G.trans C;have o0:=R.cell_some d6 id;have d1:=Zh k8;clear Y a9 d9 G C d6 k8;have i5:=I.out _ (fun b=>b=e\/b=e+1) [] _ _ f9.out (Ext.of R) (fun b U=>by have:=i1.out;have:=d1.out;omega);have g0:=Zh i5;have j2:Q1 (fun b=>¬ K b) w c2:=d4.out.trans (Ext.of R);clear i5;go_wp2;obtain⟨g9,i2,c7⟩:=Zh3 j2 j5 i9;clear j2 j5 i9 o0
 refine wp_loop (fun a P=>∃(a7:Nat->Prop) (A:List (Nat × Wd)) (u:Wd) (i:Nat) (f7:Option Addr) (f6:Nat),a.defers=[]/\gS a [0,1,2,3,4,5,6,10]=(117,[.func (.yield a0) #[] #[],.pointer (some ⟨BW,0,none⟩),.pointer (some ⟨BL,0,none⟩),.pointer (some ⟨a3,0,none⟩),.pointer (some ⟨a4,0,none⟩),.pointer (some ⟨e,0,none⟩),.pointer (some ⟨e+1,0,none⟩),.int .i64 i])/\Ja l ws A u i/\Yn w P K a7 m9 e a0 A u f7 f6)
  (fun a P=>S8 P (e+1)+1 - (intOf (a.tmps.getD 10 undef)).toNat) ?_ ?_
 ·refine⟨(fun b=>b=e\/b=e+1),[],ws,0,vo,vc,rfl,rfl,.start g4.out,⟨g0.out,.inl rfl,.inr rfl,fun b U=>by have:=d1.out;omega,g9.out,i2.out,?_,?_,?_,?_⟩⟩
  ·rw [O.out];exact c7.out
  ·exact c3.out.word.ext R
  ·rw [O.out];exact e0
  ·rw [O.out];exact fun g o n c L h0'=>.inl (g1.out g o n c L h0')
 clear g0 f9 g9 i2 c7 c3 R d4 i1 a6 d1 e0 g1;rintro⟨t,_⟩ P ⟨a7,A,o5,i,f7,f6,n7,l0,T,M⟩;obtain⟨H,rfl⟩:∃ x,x=o5:=⟨_,rfl⟩;subst n7;obtain⟨u,rfl⟩:=Y6 l0;clear l0;have E:=d3.out P M.t;obtain⟨c1,X⟩:=zE H.length;have f:=Va M.n;have B:=cell_of_one M.n;have b0:=cell_of_one M.y;have b1:=cell_of_one E.bk;have Q:=cell_of_one E.bm;rw [q.out] at b1;rw [J.out] at Q;rw [X] at B f;have n8:=few (t:=A.length) (n:=ws.length+1) (m:=f4) (by have:=T.2.1;omega) k5 (by rw [O.out];omega);have q9:c1<=230:=by
  have F:=T.2.2.1;rw [J.out,X,O.out] at F;omega
 have j9:=T.2.2.2;rw [X] at j9;obtain⟨d,c4,c9,a5,d0⟩:=Zh5 X f T M E;clear X f T M E n8;by_cases e5:i+Z<=c1;case neg=>
  have F:¬ ((i:Int)+(Z:Int)<=(c1:Int)):=by omega
  have j7:=c9.out.done (by rw [d.out,q.out];omega);have l8:=Zh j7;clear j7 Q b0;go_wp2;go_end0
  exact⟨⟨_,rfl⟩,a7,.inl (by rw [l8.out];exact a5.out.j)⟩
 have F:(i:Int)+(Z:Int)<=(c1:Int):=by omega
 go_upto_region 14 with (fail)
 obtain⟨S,b3⟩:=d0.out.law;obtain⟨r9,r2,s4,r4,r7,p9,q2,s0,p5,q5,r3,s5,r5,r8,q0,q3,s1,p6,q6,r1,p7,r0,s3,p8,s2,r6,rfl,o8,p2,p3,o6,m3,p1,r,c7,c8,p0,o9,s6,l3,o3,l4,s7⟩:=Yr b3;have c0:=a5.out.wd;have b8:=Bt b3 c0 d0.out.tab i (by rw [d.out];exact j9) (by rw [d.out,q.out];omega);rw [d.out] at b8 c0;obtain⟨U,e1⟩:=zE (Zx l H i);rw [e1] at b8;obtain⟨c5,c6,g2,m7,m2⟩:=Zh5 b8 e1 S c0 b3;clear b8 e1 S b3 c0 b1 Q b0
 go_wp2_with (first | (refine wpList_load_row rfl 102 (.tmp 2) rfl BL rfl _ _ _ _ g2.out Tryz.underlying102 rfl Tryz.lawInfo ?_) | fail)
 refine c5.out.mono ?_;rintro L n0 ⟨rfl,G⟩;have s:=a5.out.ext G I.out;have b6:=d3.out n0 s.t;cases U;case false=>
  have j0:=c9.out.miss (by rw [d.out,q.out];exact e5) c6.out;have m5:=Zh j0;have r:=Zh s;have f:=Va s.n;rw [d.out] at f;have l7:=Zh f;clear j0 s b6 c5 G B f;go_wp2;refine⟨⟨a7,A,H,i+1,f7,f6,tz,rfl,m5.out,r.out⟩,?_⟩;rw [c4.out,l7.out];simp [intOf];omega
 have B:=cell_of_one s.n;rw [d.out] at B;have p:=s.wd;rw [d.out] at p;have k7:=Lk b6.law.2 p d.out (by have:=s.cap;rw [d.out] at this;exact this) i (by rw [q.out];exact e5) l9.out (by rw [J.out];omega) oz;have S:=b6.law.1;have l1:Zt (Yh l H i):=by
  have F:=p.2;intro f5 k;unfold Yh Gm at k;rcases List.mem_append.1 k with k | k
  ·rcases List.mem_append.1 k with k | k
   ·exact F f5 (List.mem_of_mem_take k)
   ·exact L8 (fun x hx=>F x (List.mem_of_mem_drop (List.mem_of_mem_take hx))) m3.out.2 f5 k
  ·exact F f5 (List.mem_of_mem_drop k)
 obtain⟨g7,g3,r,i0⟩:=Zh4 k7 S s l1;obtain⟨j1,l5,k9⟩:=c9.out.hit c6.out;have g5:=Zh j1;have d2:=Zh k9;clear k7 S s b6 p l1 j1 k9 c5 G;go_upto_region 17 with (first | (refine wpList_load_row rfl 102 (.tmp 2) rfl BL rfl _ _ _ _ g3.out Tryz.underlying102 rfl Tryz.lawInfo ?_) | (go_at_call 230;refine g7.out.mono ?_;rintro L n1 ⟨s8,rfl,d7,C⟩;obtain⟨a2,a1,rfl⟩:=Zj d7;have n4:=cell_of_one (C.keep r.out.n);have n5:=free_of_one (C.keep r.out.n)))
 obtain⟨a8,v,_,b5⟩:=(r.out).put2 m1.out d7 C i0.out (Nat.le_refl 2) I.out;have o1:=(r.out.lt _ r.out.on).2;obtain⟨n2,j3⟩:=zE (n1.setCell ⟨e+1,0,none⟩ (.slice a2 (Yh l H i).length a1));rw [j3] at v b5 ⊢;clear j3 d7 C B n4 n5 g7 g3 g2 r i0 m2 m7 a5 d0;obtain⟨z,b9⟩:=zE (Yh l H i);rw [b9] at v b5 g5 d2;have k4:=Vw (l:=l) (u:=H) (i:=i) (by rw [d.out,q.out];exact e5);rw [b9,d.out,q.out,J.out] at k4;rw [b9];obtain⟨o4,V⟩:=zE z.length;rw [V] at k4;have B:=cell_of_one v.n;rw [V] at B;have b0:=cell_of_one v.y;obtain⟨q7,s9,q1,q4,l2,j6⟩:=d5.out a8 A (i,z) l5 n2 #[.int .i64 (i:Int),.slice a2 o4 a1] d2.out v.j ⟨a2,a1,by rw [V],v.wd,v.cap,fun g o n c L h0'=>by obtain⟨l3,o3,l4⟩:=b5 g o n c L h0';exact⟨l3,by omega,l4⟩⟩;clear b5 o1;obtain⟨m4,m8,g8⟩:=Zh3 v j6 V;clear v j6 V b9 c6;rw [g8.out];refine(wpIn_wide (n:=0)).1 ?_;gi_wp2;refine m8.out.mono ?_;rintro L n3 (⟨rfl,i6,k1⟩ | ⟨rfl,i7,_⟩)
 ·have b4:=m4.out.yielded i6 k1;have d8:=d3.out n3 b4.t;have b1:=cell_of_one d8.bk;have Q:=cell_of_one d8.bm;rw [q.out] at b1;rw [J.out] at Q;have f:=Va b4.n;rw [g8.out] at f;have c8:=Zh b4;have f8:=Zh f;clear b4 d8 f l2 B b0 i6 k1;have e8:=g5.out;rw [q.out,J.out] at e8;have g6:=Zh e8;clear e8;by_cases k0:Z=0
  ·subst k0;gi_wp2;go_wp2;refine⟨⟨a8,A++[(i,z)],z,i+f4+1,a2,a1,tz,rfl,g6.out,c8.out⟩,?_⟩;rw [c4.out,f8.out];simp [intOf];omega
  ·have q8:((Z:Int) == 0)=false:=by rw [beq_eq_false_iff_ne];omega
   have e9:=g6.out;rw [if_neg k0,Nat.add_zero] at e9;have m6:=Zh e9;clear e9;gi_wp2;go_wp2;refine⟨⟨a8,A++[(i,z)],z,i+f4,a2,a1,tz,rfl,m6.out,c8.out⟩,?_⟩;rw [c4.out,f8.out];simp [intOf];omega
 ·have m0:=Zh i7;clear i7 l2;gi_wp2;go_wp2;refine bodyPost_ret (results_none rfl _ _ _) rfl ?_;exact⟨⟨_,rfl⟩,a8,.inr ⟨A,(i,z),l5,d2.out,m0.out⟩⟩
theorem Q2g{w:World}{ao:Option Addr}{N cap:Nat}{l:List Yq}(J:J7 w (.slice ao N cap) l) (H:l.length=N) (T:N<=maxLen) (f:Nat) (lb:Array Value) (k:∀ args w,(callFunc f args).run Tryz.prog w=.ok (.enter f args) w)
  (F:Yq->Bool) (G:∀ x∈l,∀ V,Ext w V->Calls Tryz.prog f (#[.agg (Zy x).toArray]++lb) V fun e w'=>e=.returned (.bool (F x))/\Ext V w') :
  Calls Tryz.prog 199 #[.slice ao N cap,.func (.func f) #[] lb] w fun e w'=>∃ z:Int,e=.returned (.int .i64 z)/\decide (0<=z)=l.any F/\Ext w w':=by
 unfold maxLen at T;obtain⟨P,O,t,M⟩:=Zh4 J G H k;clear J G H k;go_enter Tryz.func199,Tryz.ntmps199;go_wp2
 refine wp_loop (fun a o=>∃(b:Nat),b<=N/\a.defers=[]/\gS a [0,1,7,8]=(19,[.slice ao N cap,.func (.func f) #[] lb,.int .i64 N,.int .i64 b])/\(l.take b).any F=false/\Ext w o)
  (fun a _=>N - (intOf (a.tmps.getD 8 undef)).toNat) ?_ ?_
 ·exact⟨0,by omega,rfl,rfl,by simp,Q1.refl _ _⟩
 rintro⟨a3,_⟩ o ⟨b,a1,R,L,I,g⟩;subst R;obtain⟨a4,rfl⟩:=Y6 L;clear L;have q:=Zh I;clear I;by_cases S:b<N
 ·have Q:(b:Int)<(N:Int):=by omega
  have m:b<l.length:=by rw [t.out];exact S
  obtain⟨Z,a2,Y,K,a0,_,u,v,y,A,B,C⟩:=(P.out.ext g).at m;simp only [zV] at K;obtain⟨rfl,U,rfl⟩:=K;clear U;have i:=O.out _ (List.getElem_mem m) o g;obtain⟨x,n⟩:=zE (l[b]);have W:Hid (l[b]=x):=Zh n;rw [n] at u v y A B C i;unfold Zy at i;obtain⟨j,p⟩:=zE (F x);rw [p] at i;have r:Hid (F l[b]=j):=Zh (by rw [n];exact p);have s:=Zh i;clear i n p;have k:=M.out;go_wp2_with fail;clear k;refine s.out.mono ?_;rintro e X ⟨rfl,E⟩;have D:=g.trans E;clear s g E u v y A B C;cases j
  ·have c:(l.take (b+1)).any F=false:=by
    rw [List.take_succ_eq_append_getElem m,List.any_append,q.out];simp [r.out]
   have d:=Zh c;clear c;go_wp2;exact⟨⟨b+1,by omega,tz,rfl,d.out,D⟩,nz⟩
  ·have c:l.any F=true:=List.any_eq_true.2 ⟨_,List.getElem_mem m,r.out⟩;have d:=Zh c;clear c;go_wp2;go_ret;exact⟨_,rfl,by rw [d.out];simp,D⟩
 ·obtain rfl:b=N:=by omega
  have Q:¬ (b:Int)<(b:Int):=by omega
  have c:l.any F=false:=by have:=q.out;rwa [List.take_of_length_le (by rw [t.out];exact Nat.le_refl _)] at this
  have d:=Zh c;clear c;go_wp2;go_ret;exact⟨_,rfl,by rw [d.out];simp,g⟩
theorem Tn{w:World}{ao:Option Addr}{N cap:Nat}{l:List Yq}(g:J7 w (.slice ao N cap) l) (c:l.length=N) (n:N<=maxLen) (a:Nat) (lb:Array Value) (d:∀ args w,(callFunc a args).run Tryz.prog w=.ok (.enter a args) w)
  (F:Yq->Bool) (b:∀ x∈l,∀ V,Ext w V->Calls Tryz.prog a (#[.agg (Zy x).toArray]++lb) V fun e w'=>e=.returned (.bool (F x))/\Ext V w') :
  Calls Tryz.prog 174 #[.slice ao N cap,.func (.func a) #[] lb] w fun e w'=>e=.returned (.bool (l.any F))/\Ext w w':=by
 have f:=Q2g g c n (cap:=cap) a lb d F b;have j:=Zh f;clear f b g d c;go_enter Tryz.func174,Tryz.ntmps174;go_wp2_with fail;refine j.out.mono ?_;rintro e o ⟨p,rfl,i,m⟩;have k:=Zh i;clear i;go_wp2;go_ret;exact⟨by rw [<-k.out];rfl,m⟩
theorem Q18{w:World}{ao:Option Addr}{N cap:Nat}{l:List (Nat × Nat)} (G:Q8 w (.slice ao N cap) l) (C:l.length=N) (Q:N<=maxLen) (f:Nat) (lb:Array Value) (o:∀ args w,(callFunc f args).run Tryz.prog w=.ok (.enter f args) w)
  (F:(Nat × Nat)->Bool) (B:∀ x∈l,∀ V,Ext w V->Calls Tryz.prog f (#[sV x]++lb) V fun e w'=>e=.returned (.bool (F x))/\Ext V w') :
  Calls Tryz.prog 198 #[.slice ao N cap,.func (.func f) #[] lb] w fun e w'=>∃ z:Int,e=.returned (.int .i64 z)/\decide (0<=z)=l.any F/\Ext w w':=by
 unfold maxLen at Q;obtain⟨L,K,v,J⟩:=Zh4 G B C o;clear G B C o;go_enter Tryz.func198,Tryz.ntmps198;go_wp2
 refine wp_loop (fun a p=>∃(b:Nat),b<=N/\a.defers=[]/\gS a [0,1,7,8]=(19,[.slice ao N cap,.func (.func f) #[] lb,.int .i64 N,.int .i64 b])/\(l.take b).any F=false/\Ext w p)
  (fun a _=>N - (intOf (a.tmps.getD 8 undef)).toNat) ?_ ?_
 ·exact⟨0,by omega,rfl,rfl,by simp,Q1.refl _ _⟩
 rintro⟨a1,_⟩ p ⟨b,Z,O,I,D,g⟩;subst O;obtain⟨a2,rfl⟩:=Y6 I;clear I;have s:=Zh D;clear D;by_cases P:b<N
 ·have M:(b:Int)<(N:Int):=by omega
  have i:b<l.length:=by rw [v.out];exact P
  obtain⟨X,a0,W,H,Y,k,m⟩:=(L.out.ext g).at i;simp only [zV] at H;obtain⟨rfl,R,rfl⟩:=H;clear R;have E:l.getD b (0,0)=l[b]:=by rw [List.getD_eq_getElem?_getD,List.getElem?_eq_getElem i];rfl
  rw [E] at k m;have n:=K.out _ (List.getElem_mem i) p g;obtain⟨x,r⟩:=zE (l[b]);rw [r] at k m n;obtain⟨S,T⟩:=x;dsimp only at k m;obtain⟨j,q⟩:=zE (F (S,T));rw [q] at n;have t:Hid (F l[b]=j):=Zh (by rw [r];exact q);have u:=Zh n;clear n r q E;have o:=J.out;go_wp2_with fail;clear o;refine u.out.mono ?_;rintro e U ⟨rfl,A⟩;have y:=g.trans A;clear u g A k m;cases j
  ·have c:(l.take (b+1)).any F=false:=by
    rw [List.take_succ_eq_append_getElem i,List.any_append,s.out];simp [t.out]
   have d:=Zh c;clear c;go_wp2;exact⟨⟨b+1,by omega,tz,rfl,d.out,y⟩,nz⟩
  ·have c:l.any F=true:=List.any_eq_true.2 ⟨_,List.getElem_mem i,t.out⟩;have d:=Zh c;clear c;go_wp2;go_ret;exact⟨_,rfl,by rw [d.out];simp,y⟩
 ·obtain rfl:b=N:=by omega
  have M:¬ (b:Int)<(b:Int):=by omega
  have c:l.any F=false:=by have:=s.out;rwa [List.take_of_length_le (by rw [v.out];exact Nat.le_refl _)] at this
  have d:=Zh c;clear c;go_wp2;go_ret;exact⟨_,rfl,by rw [d.out];simp,g⟩
theorem Tm{w:World}{ao:Option Addr}{N cap:Nat}{l:List (Nat × Nat)} (g:Q8 w (.slice ao N cap) l) (c:l.length=N) (n:N<=maxLen) (a:Nat) (lb:Array Value) (d:∀ args w,(callFunc a args).run Tryz.prog w=.ok (.enter a args) w)
  (F:(Nat × Nat)->Bool) (b:∀ x∈l,∀ V,Ext w V->Calls Tryz.prog a (#[sV x]++lb) V fun e w'=>e=.returned (.bool (F x))/\Ext V w') :
  Calls Tryz.prog 173 #[.slice ao N cap,.func (.func a) #[] lb] w fun e w'=>e=.returned (.bool (l.any F))/\Ext w w':=by
 have f:=Q18 g c n (cap:=cap) a lb d F b;have j:=Zh f;clear f b g d c;go_enter Tryz.func173,Tryz.ntmps173;go_wp2_with fail;refine j.out.mono ?_;rintro e o ⟨p,rfl,i,m⟩;have k:=Zh i;clear i;go_wp2;go_ret;exact⟨by rw [<-k.out];rfl,m⟩
theorem Q09{x:Yq}(p:Uf x){k d:Nat}(o:k<=9223372036854775807){w:World}(i:w.heap[d]?=some (.cells #[.int .i64 (k:Int)] 3 (0,0))) :
  Calls Tryz.prog 167 #[.agg (Zy x).toArray,.pointer (some ⟨d,0,none⟩)] w fun e w'=>e=.returned (.bool (!Xp k x))/\Ext w w':=by
 have b:Ext w (w.alloc (.cells (Zy x).toArray 109)):=(Q1.refl _ w).alloc _;have l:=cell_of_one (b.keep i);have c:=Q3k p k o (w.alloc (.cells (Zy x).toArray 109));obtain⟨a,j⟩:=zE (Xp k x);rw [j] at c ⊢;have f:=Zh c;have g:=Zh b;clear j c b i;unfold Zy at f l g ⊢;go_enter Tryz.func167,Tryz.ntmps167;go_wp2_with fail;refine f.out.mono ?_;rintro e q ⟨rfl,m⟩;have n:=g.out.trans m;cases a
 all_goals
  go_wp2;go_ret;exact⟨rfl,n⟩
theorem Q0b{s:Nat × Nat}(k:Y3 s)(w:World) :
  Calls Tryz.prog 169 #[sV s] w fun e w'=>e=.returned (.bool (!okS s))/\Ext w w':=by
 have c:Ext w (w.alloc (.cells #[.int .u32 (s.1:Int),.int .u32 (s.2:Int)] 95)):=(Q1.refl _ w).alloc _;have b:=Xw k (w.alloc (.cells #[.int .u32 (s.1:Int),.int .u32 (s.2:Int)] 95));obtain⟨a,d⟩:=zE (okS s);rw [d] at b ⊢;have f:=Zh b;have g:=Zh c;clear d b c;go_enter Tryz.func169,Tryz.ntmps169;go_wp2_with fail;refine f.out.mono ?_;rintro e l ⟨rfl,i⟩;have j:=g.out.trans i;cases a
 all_goals
  go_wp2;go_ret;exact⟨rfl,j⟩
theorem Tz(s:ByteArray):s=⟨s.data.toList.toArray⟩:=by
 cases s;simp
theorem Q4i(l:Q7):X8 l=if Kr l.name=false then false else if Y8 l.left≠0 then false else if Y8 l.right≠0 then false else if 4<l.ifs.length then false else if 6<l.outs.length then false else if l.ifs.length+l.outs.length=0 then false else
  if l.mode<1\/3<l.mode then false else if (l.ifs.any fun s=>!okS s)=true then false else if (l.outs.any fun x=>!Xp l.ifs.length x)=true then false else true:=by
 unfold X8;have g:l.ifs.all okS=!(l.ifs.any fun s=>!okS s):=by simp [List.any_eq_not_all_not]
 have i:l.outs.all (Xp l.ifs.length)=!(l.outs.any fun x=>!Xp l.ifs.length x):=by simp [List.any_eq_not_all_not]
 rw [g,i];cases Kr l.name
 ·simp
 rw [if_neg zd];by_cases b:Y8 l.left=0;case neg=>rw [if_pos b,decide_eq_false b];simp
 rw [if_neg (fun q=>q b),decide_eq_true b];by_cases c:Y8 l.right=0;case neg=>rw [if_pos c,decide_eq_false c];simp
 rw [if_neg (fun q=>q c),decide_eq_true c];by_cases e:4<l.ifs.length
 ·rw [if_pos e,decide_eq_false (by omega:¬ l.ifs.length<=4)];simp
 rw [if_neg e,decide_eq_true (by omega:l.ifs.length<=4)];by_cases f:6<l.outs.length
 ·rw [if_pos f,decide_eq_false (by omega:¬ l.outs.length<=6)];simp
 rw [if_neg f,decide_eq_true (by omega:l.outs.length<=6)];by_cases d:l.ifs.length+l.outs.length=0
 ·rw [if_pos d,decide_eq_false (by omega:¬ (l.ifs.length+l.outs.length≠0))];simp
 rw [if_neg d,decide_eq_true d];by_cases a:l.mode<1\/3<l.mode
 ·rw [if_pos a];rcases a with a | a
  ·rw [decide_eq_false (by omega:¬ 1<=l.mode)];simp
  ·rw [decide_eq_false (by omega:¬ l.mode<=3)];simp
 rw [if_neg a,decide_eq_true (by omega:1<=l.mode),decide_eq_true (by omega:l.mode<=3)];cases (l.ifs.any fun s=>!okS s) <;> cases (l.outs.any fun x=>!Xp l.ifs.length x) <;> rfl
theorem Gw{c:Prop} [Decidable c] {b:Bool} {z:Int} (h:(if b=true then(0:Int) else 17)=z):(if (if c then false else b)=true then(0:Int) else 17)=if c then 17 else z:=by
 subst h;by_cases a:c <;> simp [a]
theorem Q2d(l:Q7):Hg l=if Kr l.name=false then 17 else if Y8 l.left≠0 then 17 else if Y8 l.right≠0 then 17 else if 4<l.ifs.length then 17 else if 6<l.outs.length then 17 else if l.ifs.length+l.outs.length=0 then 17 else
  if l.mode<1\/3<l.mode then 17 else if (l.ifs.any fun s=>!okS s)=true then 17 else if (l.outs.any fun x=>!Xp l.ifs.length x)=true then 17 else 0:=by
 unfold Hg;rw [Q4i];exact Gw (Gw (Gw (Gw (Gw (Gw (Gw (Gw (Gw rfl))))))))
theorem Me{w:World}{l:Q7}{cs:List Value}(f3:Z2 w l cs)(d0:Tab w) :
  Calls Tryz.prog 127 #[.agg cs.toArray] w fun e w'=>e=.returned (.int .i64 (Hg l))/\Ext w w':=by
 obtain⟨n,T,a4,W,Y,H,J,a0,F,L,U,a5,X,Z,I,K,a1,G,M,S,a,R,a3,k,a2,p,rfl,f7,d7,d8,b0,c3,d6,f8,f9,c0,c1,d5,g4,i0,i1,g5,i2⟩:=Yr f3;have Q:=Tz n;have f6:n.data.toList.length<=9223372036854775807:=by rw [Array.length_toList];exact g4
 have c2:Hid (∀ V,Ext w V->Calls Tryz.prog 171 #[.string n] V fun e w'=>e=.returned (.bool (Kr n))/\Ext V w'):=Zh fun V _=>by
  have:=Q0p n.data.toList f6 V;rw [<-Q] at this;exact this
 have c4:Hid (∀ V,Ext w V->Calls Tryz.prog 172 #[.agg #[.int .i64 T,.int .u32 (a4:Int),.int .u32 (W:Int),.bool Y,.int .i64 H,.int .i64 J,.slice a0 F L]] V fun e w'=>e=.returned (.int .i64 (Y8 l.left))/\Ext V w'):=
  Zh fun V hE=>Du (d7.out.ext hE) (fun g hg=>Nat.lt_of_lt_of_le hg hE.size) (d0.keep hE id)
 have c5:Hid (∀ V,Ext w V->Calls Tryz.prog 172 #[.agg #[.int .i64 U,.int .u32 (a5:Int),.int .u32 (X:Int),.bool Z,.int .i64 I,.int .i64 K,.slice a1 G M]] V fun e w'=>e=.returned (.int .i64 (Y8 l.right))/\Ext V w'):=
  Zh fun V hE=>Du (d8.out.ext hE) (fun g hg=>Nat.lt_of_lt_of_le hg hE.size) (d0.keep hE id)
 have a9:Hid (∀ V,Ext w V->Calls Tryz.prog 173 #[.slice S a R,.func (.func 169) #[] #[]] V fun e w'=>e=.returned (.bool (l.ifs.any fun s=>!okS s))/\Ext V w'):=
  Zh fun V hE=>Tm (b0.out.ext hE) c0.out (by unfold maxLen;omega) _ #[] (enters_of Tryz.func169 kz rfl) (fun s=>!okS s) (fun s Q V2 _=>Q0b (b0.out.2 s Q) V2)
 have a8:Hid (∀(Bk:Nat) V,Ext w V->V.heap[Bk]?=some (.cells #[.int .i64 (a:Int)] 3 (0,0))->Calls Tryz.prog 174 #[.slice a3 k a2,.func (.func 167) #[] #[.pointer (some ⟨Bk,0,none⟩)]] V fun e w'=>e=.returned (.bool (l.outs.any fun x=>!Xp a x))/\Ext V w'):=
  Zh fun Bk V hE hb=>Tn (c3.out.ext hE) c1.out (by unfold maxLen;omega) _ #[.pointer (some ⟨Bk,0,none⟩)] (enters_of Tryz.func167 kz rfl) (fun x=>!Xp a x) (fun x hx V2 z=>Q09 (c3.out.2 x hx) g5 (z.keep hb))
 have i:Hid (Hg l=if Kr n=false then 17 else if Y8 l.left≠0 then 17 else if Y8 l.right≠0 then 17 else if 4<a then 17 else if 6<k then 17 else if a+k=0 then 17 else if p<1\/3<p then 17 else if (l.ifs.any fun s=>!okS s)=true then 17 else if (l.outs.any fun x=>!Xp a x)=true then 17 else 0):=Zh (by
  rw [Q2d,d6.out,c0.out,c1.out,d5.out])
 obtain⟨f,e7⟩:=zE (Hg l);rw [e7] at i ⊢;obtain⟨g3,f5⟩:=zE (Kr n);obtain⟨d9,f0⟩:=zE (Y8 l.left);obtain⟨e0,f1⟩:=zE (Y8 l.right);obtain⟨c8,e9⟩:=zE (l.ifs.any fun s=>!okS s);obtain⟨c7,e8⟩:∃ x,(l.outs.any fun x=>!Xp a x)=x:=⟨_,rfl⟩;rw [f5] at c2 i;rw [f0] at c4 i;rw [f1] at c5 i;rw [e9] at a9 i;rw [e8] at a8 i;clear f3 Q f6 d0 e7 f5 f0 f1 e9 e8 f7 d7 d8 b0 c3 d6 f8 f9 c0 c1 d5;go_enter Tryz.func127,Tryz.ntmps127;go_upto_region 1 with (fail)
 obtain⟨a6,C⟩:=zE (w.alloc (.cells #[.string n,.int .i64 T,.int .u32 (a4:Int),.int .u32 (W:Int),.bool Y,.int .i64 H,.int .i64 J,.slice a0 F L,.int .i64 U,.int .u32 (a5:Int),.int .u32 (X:Int),.bool Z,.int .i64 I,.int .i64 K,.slice a1 G M,.slice S a R,.slice a3 k a2,.int .i64 p] 102));have e5:Ext w a6:=by rw [<-C];exact(Q1.refl _ w).alloc _
 have P:a6.heap[w.heap.size]?=some (.cells #[.string n,.int .i64 T,.int .u32 (a4:Int),.int .u32 (W:Int),.bool Y,.int .i64 H,.int .i64 J,.slice a0 F L,.int .i64 U,.int .u32 (a5:Int),.int .u32 (X:Int),.bool Z,.int .i64 I,.int .i64 K,.slice a1 G M,.slice S a R,.slice a3 k a2,.int .i64 p] 102 (0,0)):=by rw [<-C];exact Q3 rfl
 have d1:a6.heap.size=w.heap.size+1:=by rw [<-C];simp
 rw [C];obtain⟨d2,e4⟩:=zE w.heap.size;rw [e4] at P d1 ⊢;have t:=cell_of_row _ _ 15 _ _ _ P;have c6:=Zh d1;have d3:=Zh P;clear C e4 d1 P;go_upto_region 4 with (fail)
 rw [c6.out];obtain⟨a7,E⟩:=zE (a6.alloc (.cells #[.int .i64 (a:Int)] 3));have c9:Ext w a7:=by rw [<-E];exact e5.alloc _
 have f2:a7.heap[d2+1]?=some (.cells #[.int .i64 (a:Int)] 3 (0,0)):=by rw [<-E];exact Q3 c6.out.symm
 have f4:a7.heap[d2]?=some (.cells #[.string n,.int .i64 T,.int .u32 (a4:Int),.int .u32 (W:Int),.bool Y,.int .i64 H,.int .i64 J,.slice a0 F L,.int .i64 U,.int .u32 (a5:Int),.int .u32 (X:Int),.bool Z,.int .i64 I,.int .i64 K,.slice a1 G M,.slice S a R,.slice a3 k a2,.int .i64 p] 102 (0,0)):=by rw [<-E];exact Q6 d3.out
 rw [E];have b6:=Zh f4;have b1:=Zh f2;clear E f2 f4 t d3 c6 e5;have t:=zR b6.out;have A:=cell_of_one b1.out;go_wp2_with fail;refine(c2.out a7 c9).mono ?_;rintro e g6 ⟨rfl,c⟩;have z:=c9.trans c;have b7:=Zh (c.keep b6.out);have b2:=Zh (c.keep b1.out);have t:=zR b7.out;have A:=cell_of_one b2.out;clear c b6 b1 c9 c2;cases g3
 ·have d:Hid (f=17):=Zh (by rw [i.out];rfl);clear i;go_wp2;go_ret;exact⟨by rw [d.out];rfl,z⟩
 go_wp2_with fail;refine(c4.out g6 z).mono ?_;rintro e g7 ⟨rfl,c⟩;have N:=z.trans c;have b8:=Zh (c.keep b7.out);have b3:=Zh (c.keep b2.out);have t:=zR b8.out;have A:=cell_of_one b3.out;clear c b7 b2 z c4;by_cases u:d9=0;case neg=>
  have g2:(d9 != 0)=true:=by rw [bne_iff_ne];exact u
  have d:Hid (f=17):=Zh (by rw [i.out,if_neg zd,if_pos u]);clear i;go_wp2;go_ret;exact⟨by rw [d.out];rfl,N⟩
 subst u;go_wp2_with fail;refine(c5.out g7 N).mono ?_;rintro e g8 ⟨rfl,c⟩;have o:=N.trans c;have b9:=Zh (c.keep b8.out);have b4:=Zh (c.keep b3.out);have t:=zR b9.out;have A:=cell_of_one b4.out;clear c b8 b3 N c5;by_cases u:e0=0;case neg=>
  have g2:(e0 != 0)=true:=by rw [bne_iff_ne];exact u
  have d:Hid (f=17):=Zh (by rw [i.out,if_neg zd,if_neg zd,if_pos u]);clear i;go_wp2;go_ret;exact⟨by rw [d.out];rfl,o⟩
 subst u;have m:Hid (f=if 4<a then 17 else if 6<k then 17 else if a+k=0 then 17 else if p<1\/3<p then 17 else if c8=true then 17 else if c7=true then 17 else 0):=Zh (by rw [i.out];rfl);clear i;by_cases y:4<a
 ·have e1:(4:Int)<(a:Int):=by omega
  have d:Hid (f=17):=Zh (by rw [m.out,if_pos y]);clear m;go_wp2;go_ret;exact⟨by rw [d.out];rfl,o⟩
 by_cases B:6<k
 ·have e1:¬ (4:Int)<(a:Int):=by omega
  have g0:(6:Int)<(k:Int):=by omega
  have d:Hid (f=17):=Zh (by rw [m.out,if_neg y,if_pos B]);clear m;go_wp2;go_ret;exact⟨by rw [d.out];rfl,o⟩
 have e1:¬ (4:Int)<(a:Int):=by omega
 have g0:¬ (6:Int)<(k:Int):=by omega
 by_cases r:a+k=0
 ·have g1:((a:Int)+(k:Int) == 0)=true:=by rw [beq_iff_eq];omega
  have d:Hid (f=17):=Zh (by rw [m.out,if_neg y,if_neg B,if_pos r]);clear m r;go_wp2;go_ret;exact⟨by rw [d.out];rfl,o⟩
 have g1:((a:Int)+(k:Int) == 0)=false:=by rw [beq_eq_false_iff_ne];omega
 by_cases e2:p<1
 ·have d:Hid (f=17):=Zh (by rw [m.out,if_neg y,if_neg B,if_neg r,if_pos (.inl e2)]);clear m r;go_wp2;go_ret;exact⟨by rw [d.out];rfl,o⟩
 by_cases e3:3<p
 ·have d:Hid (f=17):=Zh (by rw [m.out,if_neg y,if_neg B,if_neg r,if_pos (.inr e3)]);clear m r;go_wp2;go_ret;exact⟨by rw [d.out];rfl,o⟩
 have v:Hid (f=if c8=true then 17 else if c7=true then 17 else 0):=Zh (by rw [m.out,if_neg y,if_neg B,if_neg r,if_neg (fun q=>q.elim e2 e3)]);clear m r;go_wp2_with fail;refine(a9.out g8 o).mono ?_;rintro e g9 ⟨rfl,c⟩;have O:=o.trans c;have d4:=Zh (c.keep b9.out);have b5:=Zh (c.keep b4.out);have t:=zR d4.out;have A:=cell_of_one b5.out;clear c b9 b4 o a9;cases c8;case true=>
  have d:Hid (f=17):=Zh (by rw [v.out];rfl);clear v;go_wp2;go_ret;exact⟨by rw [d.out];rfl,O⟩
 go_wp2_with fail;refine(a8.out _ g9 O b5.out).mono ?_;rintro e i3 ⟨rfl,c⟩;have e6:=O.trans c;clear c d4 b5 O a8 t A;cases c7
 ·have d:Hid (f=0):=Zh (by rw [v.out];rfl);clear v;go_wp2;go_ret;exact⟨by rw [d.out];rfl,e6⟩
 ·have d:Hid (f=17):=Zh (by rw [v.out];rfl);clear v;go_wp2;go_ret;exact⟨by rw [d.out];rfl,e6⟩
theorem Tw{w:World}{l:Q7}{cs:List Value}{v:Value}{ws:Wd}(p:Z2 w l cs)(d:Q8 w v ws)(t:Tab w) :
  Calls Tryz.prog 200 #[.agg cs.toArray,v] w fun e w'=>e=.returned (.int .i64 (Jf l ws))/\Ext w w':=by
 obtain⟨c0,b8,rfl,_⟩:=d.slice;obtain⟨b9,u⟩:=zE ws.length;rw [u] at d ⊢;have r:=fun(V:World) (hE:Ext w V)=>Wv (d.ext hE);have q:=fun(V:World) (hE:Ext w V)=>Me (p.ext hE) (t.keep hE id);obtain⟨a5,Y,b0,a0,a3,O,Q,a6,K,S,Z,b1,a1,a4,P,R,a7,L,T,X,M,W,a9,N,a8,a2,rfl,y,H,I,x,G,F,B,C,D,E,A,b3,b4,b5,b6,b7⟩:=Yr p;have b:Hid (Jf l ws=if Hg l=0 then wE ws else Hg l):=Zh (by unfold Jf Hg;cases X8 l <;> rfl);obtain⟨a,k⟩:=zE (Jf l ws);obtain⟨g,m⟩:=zE (Hg l);obtain⟨U,o⟩:=zE (wE ws);rw [k,m,o] at b;rw [m] at q;rw [o] at r;rw [k];have J:=Zh r;have z:=Zh q;clear u k m o r q d p t y H I x G F B C D E A;have i:Ext w (w.alloc (.cells #[.string a5,.int .i64 Y,.int .u32 (b0:Int),.int .u32 (a0:Int),.bool a3,.int .i64 O,.int .i64 Q,.slice a6 K S,.int .i64 Z,.int .u32 (b1:Int),.int .u32 (a1:Int),.bool a4,.int .i64 P,.int .i64 R,.slice a7 L T,.slice X M W,.slice a9 N a8,.int .i64 a2] 102)):=(Q1.refl _ w).alloc _;go_enter Tryz.func200,Tryz.ntmps200
 go_wp2_with (refine wpList_load_row rfl 102 (.tmp 2) rfl w.heap.size rfl _ _ _ _ (Q3 rfl) Tryz.underlying102 rfl Tryz.lawInfo ?_)
 refine(z.out _ i).mono ?_;rintro e c1 ⟨rfl,c⟩;have j:=i.trans c;clear c i;by_cases s:g=0;case neg=>
  have b2:(g != 0)=true:=by rw [bne_iff_ne];exact s
  have f:Hid (a=g):=Zh (by rw [b.out,if_neg s]);clear b;go_wp2;go_ret;exact⟨by rw [f.out];rfl,j⟩
 subst s;have f:Hid (a=U):=Zh (by rw [b.out,if_pos rfl]);go_wp2_with fail;refine(J.out _ j).mono ?_;rintro e c2 ⟨rfl,c⟩;go_wp2;go_ret;exact⟨by rw [f.out];rfl,j.trans c⟩
abbrev Qb2:Nat->(Nat->Prop)->Nat->World->Array Value->Prop:=fun _ _ x _ ys=>ys=#[.int .i64 (x:Int)]
def Qar(l:Q7)(ws:Wd):List Nat:=if Jf l ws=0 then W4 l ws else []
theorem Q5v{ws:Wd}(h:wE ws=0):ws.length<=32:=by
 apply Nat.le_of_not_lt;intro a;unfold wE at h;rw [if_pos a] at h;cases h
theorem Dz{l:Q7}{ws:Wd}(h:Jf l ws=0):X8 l=true/\wE ws=0:=by
 unfold Jf at h
 split at h
 ·rename_i a;exact⟨a,h⟩
 ·cases h
def Q8v(l:Q7)(ws:Wd)(z:Int):Int:=
 if Jf l ws=0 then(if z<0\/(ws.length:Int)<z then 3 else if Zx l ws z.toNat=false then 5 else if 32<(Yh l ws z.toNat).length then 11 else 0) else Jf l ws
def Qao(l:Q7)(ws:Wd)(z:Int):Wd:=if Q8v l ws z=0 then Yh l ws z.toNat else []
theorem Q8w{w:World}{u v:Value}{us vs:Wd}(t:Q8 w u us)(x:Q8 w v vs) :
  Calls Tryz.prog 124 #[u,v] w fun e w'=>e=.returned (.bool (decide (us=vs)))/\Ext w w':=by
 obtain⟨b0,a9,rfl,a0⟩:=t.slice;obtain⟨b2,b1,rfl,a1⟩:=x.slice;unfold maxLen at a0 a1;obtain⟨c,G⟩:=zE us.length;obtain⟨z,F⟩:=zE vs.length;rw [G] at t a0 ⊢;rw [F] at x a1 ⊢;obtain⟨a7,a8,o,y⟩:=Zh4 t x G F;clear t x G F;go_enter Tryz.func124,Tryz.ntmps124;by_cases T:c=z;case neg=>
  have c1:((c:Int) ==(z:Int))=false:=by simp;omega
  have c4:¬ (c:Int)=(z:Int):=by omega
  have l:¬ us=vs:=by intro E;rw [E,y.out] at o;exact T o.out.symm
  have p:=Zh (decide_eq_false l);clear l;go_wp2;go_ret;exact⟨by rw [p.out];rfl,Q1.refl _ _⟩
 subst T;go_wp2
 refine wp_loop (fun a q=>∃(b:Nat),b<=c/\a.defers=[]/\gS a [0,1,12,13]=(26,[.slice b0 c a9,.slice b2 c b1,.int .i64 c,.int .i64 b])/\us.take b=vs.take b/\Ext w q)
  (fun a _=>c - (intOf (a.tmps.getD 13 undef)).toNat) ?_ ?_
 ·exact⟨0,by omega,rfl,rfl,by simp,Q1.refl _ _⟩
 rintro⟨M,_⟩ q ⟨b,c7,b6,a3,U,g⟩;subst b6;obtain⟨u,rfl⟩:=Y6 a3;clear a3;have N:=Zh U;clear U;by_cases Z:b<c
 ·have b3:(b:Int)<(c:Int):=by omega
  have H:b<us.length:=by rw [o.out];exact Z
  have I:b<vs.length:=by rw [y.out];exact Z
  obtain⟨b9,c8,b7,m,c5,A,B⟩:=(show Q8 q _ us from(a7.out.ext g)).at H;simp only [zV] at m;obtain⟨rfl,L,rfl⟩:=m;clear L;obtain⟨c0,c9,b8,m,c6,C,D⟩:=(show Q8 q _ vs from(a8.out.ext g)).at I;simp only [zV] at m;obtain⟨rfl,L,rfl⟩:=m;clear L;have X:us.getD b (0,0)=us[b]:=by rw [List.getD_eq_getElem?_getD,List.getElem?_eq_getElem H];rfl
  have Y:vs.getD b (0,0)=vs[b]:=by rw [List.getD_eq_getElem?_getD,List.getElem?_eq_getElem I];rfl
  rw [X] at A B;rw [Y] at C D;obtain⟨i,J⟩:=zE (us[b]);obtain⟨M,K⟩:=zE (vs[b]);have O:Hid (us[b]=i):=Zh J;have P:Hid (vs[b]=M):=Zh K;rw [J] at A B;rw [K] at C D;obtain⟨d,j⟩:=i;obtain⟨f,k⟩:=M;dsimp only at A B C D;clear X Y J K;by_cases s:d=f/\j=k
  ·obtain⟨rfl,rfl⟩:=s;have a2:us.take (b+1)=vs.take (b+1):=by
    rw [List.take_succ_eq_append_getElem H,List.take_succ_eq_append_getElem I,N.out,O.out,P.out]
   have a6:=Zh a2;clear a2;go_wp2
   go_quiet (fail)
   go_wp2;exact⟨⟨b+1,by omega,tz,rfl,a6.out,g.drewN _⟩,nz⟩
  ·have l:¬ us=vs:=by
    intro E;subst E;have r:=O.out.symm.trans P.out;simp only [Prod.mk.injEq] at r;exact s r
   have p:=Zh (decide_eq_false l);have V:(((d:Int) ==(f:Int)) && ((j:Int) ==(k:Int)))=false:=by
    by_cases r:d=f
    ·have Q:¬ j=k:=fun Q=>s ⟨r,Q⟩;simp;omega
    ·simp;omega
   have R:¬ ((d:Int)=(f:Int)/\(j:Int)=(k:Int)):=by omega
   have S:(d:Int)=(f:Int)->¬ (j:Int)=(k:Int):=by omega
   have a4:=Zh S;clear l s S;by_cases b4:(d:Int)=(f:Int)
   ·have c2:=a4.out b4;have c3:((j:Int) ==(k:Int))=false:=by simp;omega
    have b5:((d:Int) ==(f:Int))=true:=by simp;omega
    clear V R;go_wp2
    go_quiet (fail)
    go_wp2;go_ret;exact⟨by rw [p.out];rfl,g.drewN _⟩
   ·have b5:((d:Int) ==(f:Int))=false:=by simp;omega
    clear V R;go_wp2
    go_quiet (fail)
    go_wp2;go_ret;exact⟨by rw [p.out];rfl,g.drewN _⟩
 ·obtain rfl:b=c:=by omega
  have b3:¬ (b:Int)<(b:Int):=by omega
  have W:us=vs:=by have:=N.out;rwa [List.take_of_length_le (by rw [o.out];exact Nat.le_refl _),List.take_of_length_le (by rw [y.out];exact Nat.le_refl _)] at this
  have a5:=Zh (decide_eq_true W);clear W;go_wp2;go_ret;exact⟨by rw [a5.out];rfl,g⟩
theorem eqW{w:World}{u v:Value}{us vs:Wd}(a:Q8 w u us)(b:Q8 w v vs) :
  Calls Tryz.prog 70 #[u,v] w fun e w'=>e=.returned (.bool (decide (us=vs)))/\Ext w w':=by
 have c:=fun(D:World) (hD:Ext w D)=>Q8w (a.ext hD) (b.ext hD);obtain⟨i,g,rfl,l⟩:=a.slice;obtain⟨k,j,rfl,m⟩:=b.slice;have d:=Zh c;clear c a b;go_enter Tryz.func70,Tryz.ntmps70;go_wp2_with fail;refine(d.out _ (by first | exact Q1.refl _ _ | exact Q1.drew (Q1.refl _ _))).mono ?_;rintro e n ⟨rfl,f⟩;clear d;go_wp2;go_ret;exact⟨rfl,by first | exact f | exact Q1.trans (Q1.drew (Q1.refl _ _)) f⟩
abbrev Q5n:Nat->(Nat->Prop)->Int->World->Array Value->Prop:=fun _ _ x _ ys=>ys=#[.int .i64 x]
theorem Bq{w:World}{gf:Nat}{lb:Array Value}(Y:∀ args w,(callFunc gf args).run Tryz.prog w=.ok (.enter gf args) w) {M:Nat->Nat->Prop} {xs:List Int} (a0:∀ w1,Ext w w1->Ut Tryz.prog gf lb M Q5n xs (fun b=>b<w.heap.size) w1) (d1:xs.length<=1000) :
  Calls Tryz.prog 193 #[.slice none 0 0,.func (.func gf) #[] lb] w fun e w'=>∃ u,e=.returned u/\w'.ownsRow w.heap.size 3 1 u xs.length (Z7 xs)/\Ext w w':=by
 refine Qv Tryz.func193 rfl ?_;simp only [Tryz.ntmps193,zS,Nat.reduceAdd,Nat.reduceSub];have a8:=Zh a0;have a5:=Zh Y;clear a0 Y;go_wp2;obtain⟨c,B⟩:=zE w.heap.size;have H:(w.alloc (.cells #[.slice none 0 0] 48)).heap[c]?=some (.cells #[.slice none 0 0] 48 (0,0)):=Q3 B.symm;have C:Ext w (w.alloc (.cells #[.slice none 0 0] 48)):=(Q1.refl _ w).alloc _;have b8:(w.alloc (.cells #[.slice none 0 0] 48)).heap.size=c+1:=by rw [<-B];simp
 generalize (w.alloc (.cells #[.slice none 0 0] 48))=w1 at H C b8 ⊢;have L:=a8.out w1 C;rw [B] at L ⊢;have z:=Zh B;clear B
 refine Xu (xs:=xs) (K:=fun b=>b<c) rfl a5.out L (fun b a=>by omega) (fun _ _ x A y a=>by rw [a];rfl) (fun _ _ x A D y a _ _=>a)
  (fun k f g=>∃ u,g.heap[c]?=some (.cells #[u] 48 (0,0))/\g.ownsRow c 3 1 u f.length (Z7 f)/\(∀ d,u.ownBlock=some d->d≠c/\d≠c+1/\d≠c+2/\¬ k d)/\Ext w g)
  (fun _ _ _ _=>False) ?hI ?hIx ?h0 (fun y t=>(t.setIfInBounds 7 (y.getD 0 undef)).setIfInBounds 5 (y.getD 0 undef)) ?assign ?body ?done ?stop
 case hI=>
  rintro k c1 f b0 b1 ⟨u,j,i,n,v⟩ r b9 b5;have s:Q1 (fun b=>k b\/b=c+2) b0 b1:=b9.mono (fun b _ a=>a.elim (fun q=>.inl q.1) (fun q=>.inr oz));refine⟨u,s.heap j (fun a=>?_),Qd i s (fun b hb e=>?_),fun d p=>?_,v.after s (fun b' h1 h2=>?_)⟩
  ·rcases a with a | a
   ·have:=(r _ a).1;omega
   ·omega
  ·have:=n b hb;exact e.elim this.2.2.2 (fun q=>this.2.2.1 q)
  ·obtain⟨a2,a3,a4,O⟩:=n d p;exact⟨a2,a3,a4,fun a=>by rcases(b5 d a).1 with a | a;exact O a;have:=(i.lt _ p).2;omega⟩
  ·have:=z.out;rcases h2 with a | a
   ·have:=(r _ a).1;omega
   ·omega
 case hIx=>exact fun _ _ _ _ _ _ a _ _ _=>a
 case h0=>
  intro g X _;exact⟨.slice none 0 0,X.keep H,World.ownsRow_nil _ _ _ _,(fun d p=>by cases p),Q1.trans C X⟩
 case assign=>
  rintro _ _ G y g c0 rfl b4;gi_wp2;exact b4
 case body=>
  rintro k f G d4 y g N d3 r s ⟨u,j,i,n,v⟩ rfl;simp only [pq];have d2:f.length<1000:=by
   have:=congrArg List.length N;simp at this;omega
  have Q:=cell_of_one j;have b2:=free_of_one j;have c9:c<g.heap.size:=(Array.getElem?_eq_some_iff.1 j).1;have d0:=Zh N;have P:=Zh r;clear N r;refine wpIn_block ?_;refine Xc kz (by rintro⟨_,_,a⟩;exact a) ?_;have a9:=Zh j;clear j
  go_wp2_with (at_builtin;refine Zz rfl (.tmp 8) (.tmp 10) 48 rfl c 3 _ 1 8 Tryz.underlying48 Tryz.infoI rfl zd _ _ _ rfl (Qf i ((Q1.refl _ g).alloc _)) ⟨g.heap.size,0,none⟩ 1 1 [.int .i64 G] rfl rfl (Y5 rfl) ?c2 ?c3 ?c4 ?c5 ?_)
  case c2=>first | rfl | (intro u a1;simp at a1;rcases a1 with rfl;rfl)
  case c3=>unfold maxLen;omega
  case c4=>omega
  case c5=>simp;omega
  intro l m o V W R;have E:Q1 (fun b'=>u.ownBlock=some b') g o:=Q1.trans (Q1.alloc (Q1.refl _ g) _) W;have I:=E.heap a9.out (fun e=>(n _ e).1 rfl);have S:Ext w o:=Q1.after v E (fun b' h1 e=>by have:=(i.lt _ e).1;have:=z.out;omega);have J:∀ d,(Value.slice l (f.length+1) m).ownBlock=some d->d≠c/\d≠c+1/\d≠c+2/\¬ k d:=by
   intro d p;rcases R with e | e
   ·exact n d (e ▸ p)
   ·rw [p] at e;cases e;exact⟨by first | omega | (simp;omega),by first | omega | (simp;omega),by first | omega | (simp;omega),fun a=>by have:=(P.out _ a).2;first | omega | (simp at this;omega)⟩
  have c6:=cell_of_one I;have c8:=free_of_one I;have F:=Q1.set1 o c 0 (.slice l (f.length+1) m);have U:(o.setCell ⟨c,0,none⟩ (.slice l (f.length+1) m)).heap[c]?=some (.cells #[.slice l (f.length+1) m] 48 (0,0)):=by
   simp only [World.setCell,Array.getElem?_modify,I];simp
  have T:Q1 (fun b=>¬ (b<c\/k b\/b=c+1\/b=c+1+1)) g (o.setCell ⟨c,0,none⟩ (.slice l (f.length+1) m)):=by
   refine(E.mono (fun b' _ e hn=>?_)).trans (F.mono (fun b' _ e hn=>?_))
   ·obtain⟨a2,a3,a4,O⟩:=n _ e;have:=(i.lt _ e).1;rcases hn with a | a | a
    ·omega
    ·exact O a
    ·omega
   ·rcases hn with a | a | a
    ·omega
    ·have:=(P.out _ a).1;omega
    ·omega
  have Z:∃ u,(o.setCell ⟨c,0,none⟩ (.slice l (f.length+1) m)).heap[c]?=some (.cells #[u] 48 (0,0))/\(o.setCell ⟨c,0,none⟩ (.slice l (f.length+1) m)).ownsRow c 3 1 u (f++[G]).length (Z7 (f++[G]))/\(∀ d,u.ownBlock=some d->d≠c/\d≠c+1/\d≠c+2/\¬ k d)/\Ext w (o.setCell ⟨c,0,none⟩ (.slice l (f.length+1) m)):=by
   refine⟨_,U,?_,J,Q1.after S F (fun b h1 h2=>by have:=z.out;omega)⟩;rw [Bn,List.length_append];exact Qd V F (fun b hb e=>(J b hb).1 e)
  have a7:=Zh T;have a6:=Zh Z;clear T Z U F J S E W V R Q b2 i n v s;go_wp2;exact⟨a7.out,a6.out⟩
 case done=>
  rintro k g ⟨u,j,i,n,v⟩ r s b3;have Q:=cell_of_one j;clear C H L;go_wp2;have b7:Qs c ({ target:=.collected w1.heap.size,args:=#[] }::[]) g:=Qs.cons (base:=c) trivial oz b3 (fun e he=>by cases he);refine Y7 b7 (fun w'=>results_tmp rfl _ _ _) (fun w' ht' hs=>⟨u,rfl,?_,?_⟩)
  ·rw [z.out];exact Qd i ht' (fun b hb e=>by obtain⟨c7,b6⟩:=Z3 i hb;exact Shut.not b6 rfl e)
  ·exact Q1.after v ht' (fun b' h2 h3=>by have:=h3.1;have:=z.out;omega)
 case stop=>exact fun _ _ _ _ _ _ _ a=>a.elim
theorem Rz{w:World}{gf:Nat}{lb:Array Value}(d:∀ args w,(callFunc gf args).run Tryz.prog w=.ok (.enter gf args) w) {M:Nat->Nat->Prop} {xs:List Int} (f:∀ w1,Ext w w1->Ut Tryz.prog gf lb M Q5n xs (fun b=>b<w.heap.size) w1) (k:xs.length<=1000) :
  Calls Tryz.prog 163 #[.func (.func gf) #[] lb] w fun e w'=>∃ u,e=.returned u/\w'.ownsRow w.heap.size 3 1 u xs.length (Z7 xs)/\Ext w w':=by
 have c:=Bq d f k;have g:=Zh c;clear c f d;go_enter Tryz.func163,Tryz.ntmps163;go_wp2_with fail;refine g.out.mono ?_;rintro e w' ⟨u,rfl,a,j⟩;obtain⟨m,l,rfl⟩:=Zj a;have i:=Zh a;clear a;go_wp2;go_ret;exact⟨_,rfl,i.out,j⟩
end Go.Proofs.YtfdlhlghcbeblaaGreatDoor
