/- law.run: -/
import Derived.Test.YtejenndedjabhaaGreatDoorT08
import Derived.Test.YtejenndedjabhaaGreatDoorT07
set_option maxRecDepth 100000
set_option maxHeartbeats 16000000
namespace Go.Proofs.YtejenndedjabhaaGreatDoor
open Go.RowKit Go.Ab
attribute [local go_sem] Oper.semAt_some Y5 Z9
theorem Qe2{w:World}{BW BL a3 a4:Nat}{l:Qg}{cs:List Value}{vo:Option Addr}{vc:Nat}{ws:Wd}{K:Nat->Prop}(k3:Yd l=true)(e7:l.mode=2)(o2:ws.length<=32)(e0:ws.length<=vc)(e4:Zy K (.slice vo ws.length vc))
  (i8:∀ b,K b->b<w.heap.size) (E:∀ W,Qa (fun b=>¬ K b) w W->Q5o W BW BL a3 a4 l cs vo vc ws) :
  Md Tryz.prog 209 #[.pointer (some ⟨BW,0,none⟩),.pointer (some ⟨BL,0,none⟩),.pointer (some ⟨a3,0,none⟩),.pointer (some ⟨a4,0,none⟩)] (Js 2) (Q7n 2) (Z2 l ws) K w:=by
 intro a0 m9 p4 W f1 i4 n6 j4 i3;obtain⟨n9,k5,k2,_,j8,_,_,_⟩:=Ki k3;have b2:=E W f1;have k6:=b2.law.box.mode;rw [e7] at k6;obtain⟨l6,f2⟩:=zE ws.length;have a9:=cell_of_one b2.box;rw [f2] at a9 o2 e0 e4;obtain⟨g1,O,d3,l9,g4,I,d5,f9⟩:=Zh8 e4 f2 E j8 e7 i4 j4 i3;have d4:=Zh f1;have c3:=Zh b2;obtain⟨Z,e3⟩:=zE l.ifs.length;obtain⟨f4,e6⟩:=zE l.outs.length;rw [e3] at n9 k2;rw [e6] at k5 k2;have q:=Zh e3;have J:=Zh e6;clear E j8 e7 i4 n6 j4 i3 f1 b2 k3 f2 e4 e3 e6;show Calls _ _ #[.func (.yield a0) #[] #[],.pointer (some ⟨BW,0,none⟩),.pointer (some ⟨BL,0,none⟩),.pointer (some ⟨a3,0,none⟩),.pointer (some ⟨a4,0,none⟩)] _ _;go_enter Tryz.func209,Tryz.ntmps209;have d6:=c3.out.law.box.mode;rw [g4.out] at d6;go_upto_region 1 with (fail)
 obtain⟨N,p⟩:=zE (W.alloc (.cells #[.func (.yield a0) #[] #[]] 211));have G:Ext W N:=by rw [<-p];exact(Qa.refl _ W).alloc _
 have d9:N.heap[W.heap.size]?=some (.cells #[.func (.yield a0) #[] #[]] 211 (0,0)):=by rw [<-p];exact new_at rfl
 have f0:N.heap.size=W.heap.size+1:=by rw [<-p];simp
 rw [p];obtain⟨e,b7⟩:=zE W.heap.size;rw [b7] at d9 f0 ⊢;have e2:=I.out;have f3:=d5.out;rw [b7] at e2 f3;have o7:=I;have I:=Zh e2;have d5:=Zh f3;clear e2 f3;have m1:Hid (∀ b,K b->b<e):=Zh fun b U=>by have:=i8 b U;have:=d4.out.size;omega
 have i1:=Zh b7;have a6:=Zh f0;clear i8;have a9:=G.cell_some a9 id;clear p b7 f0 k6;go_upto_region 2 with (fail)
 rw [a6.out];obtain⟨c2,Y⟩:=zE (N.alloc (.cells #[.slice vo l6 vc] 23));have C:Ext N c2:=by rw [<-Y];exact(Qa.refl _ N).alloc _
 have i9:Up c2 (e+1) (.slice vo l6 vc):=by rw [<-Y];exact new_at a6.out.symm
 have k8:c2.heap.size=e+2:=by rw [<-Y];simp [a6.out]
 have j5:=C.keep d9;rw [Y];have R:=G.trans C;have o0:=R.cell_some d6 id;have d1:=Zh k8;clear Y a9 d9 G C d6 k8;have i5:=I.out _ (fun b=>b=e\/b=e+1) [] _ _ f9.out (Ext.of R) (fun b U=>by have:=i1.out;have:=d1.out;omega);have g0:=Zh i5;have j2:Qa (fun b=>¬ K b) w c2:=d4.out.trans (Ext.of R);clear i5;go_wp2;obtain⟨g9,i2,c7⟩:=Zh3 j2 j5 i9;clear j2 j5 i9 o0
 refine wp_loop (fun a P=>∃(a7:Nat->Prop) (A:List (Nat × Wd)) (u:Wd) (i:Nat) (f7:Option Addr) (f6:Nat),a.defers=[]/\gS a [0,1,2,3,4,5,6,10]=(117,[.func (.yield a0) #[] #[],.pointer (some ⟨BW,0,none⟩),.pointer (some ⟨BL,0,none⟩),.pointer (some ⟨a3,0,none⟩),.pointer (some ⟨a4,0,none⟩),.pointer (some ⟨e,0,none⟩),.pointer (some ⟨e+1,0,none⟩),.int .i64 i])/\Uw l ws A u i/\Uh w P K a7 m9 e a0 A u f7 f6)
  (fun a P=>Q5w P (e+1)+1 - (intOf (a.tmps.getD 10 undef)).toNat) ?_ ?_
 ·refine⟨(fun b=>b=e\/b=e+1),[],ws,0,vo,vc,rfl,rfl,.start g4.out,⟨g0.out,.inl rfl,.inr rfl,fun b U=>by have:=d1.out;omega,g9.out,i2.out,?_,?_,?_,?_⟩⟩
  ·rw [O.out];exact c7.out
  ·exact c3.out.word.ext R
  ·rw [O.out];exact e0
  ·rw [O.out];exact fun g o n c L h0'=>.inl (g1.out g o n c L h0')
 clear g0 f9 g9 i2 c7 c3 R d4 i1 a6 d1 e0 g1;rintro⟨t,_⟩ P ⟨a7,A,o5,i,f7,f6,n7,l0,T,M⟩;obtain⟨H,rfl⟩:∃ x,x=o5:=⟨_,rfl⟩;subst n7;obtain⟨u,rfl⟩:=Qo l0;clear l0;have E:=d3.out P M.t;obtain⟨c1,X⟩:=zE H.length;have f:=Fa M.n;have B:=cell_of_one M.n;have b0:=cell_of_one M.y;have b1:=cell_of_one E.bk;have Q:=cell_of_one E.bm;rw [q.out] at b1;rw [J.out] at Q;rw [X] at B f;have n8:=few (t:=A.length) (n:=ws.length+1) (m:=f4) (by have:=T.2.1;omega) k5 (by rw [O.out];omega);have q9:c1<=230:=by
  have F:=T.2.2.1;rw [J.out,X,O.out] at F;omega
 have j9:=T.2.2.2;rw [X] at j9;obtain⟨d,c4,c9,a5,d0⟩:=Zh5 X f T M E;clear X f T M E n8;by_cases e5:i+Z<=c1;case neg=>
  have F:¬ ((i:Int)+(Z:Int)<=(c1:Int)):=by omega
  have j7:=c9.out.done (by rw [d.out,q.out];omega);have l8:=Zh j7;clear j7 Q b0;go_wp2;go_end0
  exact⟨⟨_,rfl⟩,a7,.inl (by rw [l8.out];exact a5.out.j)⟩
 have F:(i:Int)+(Z:Int)<=(c1:Int):=by omega
 go_upto_region 14 with (fail)
 obtain⟨S,b3⟩:=d0.out.law;obtain⟨r9,r2,s4,r4,r7,p9,q2,s0,p5,q5,r3,s5,r5,r8,q0,q3,s1,p6,q6,r1,p7,r0,s3,p8,s2,r6,rfl,o8,p2,p3,o6,m3,p1,r,c7,c8,p0,o9,s6,l3,o3,l4,s7⟩:=Yf b3;have c0:=a5.out.wd;have b8:=Qbe b3 c0 d0.out.tab i (by rw [d.out];exact j9) (by rw [d.out,q.out];omega);rw [d.out] at b8 c0;obtain⟨U,e1⟩:=zE (Yh l H i);rw [e1] at b8;obtain⟨c5,c6,g2,m7,m2⟩:=Zh5 b8 e1 S c0 b3;clear b8 e1 S b3 c0 b1 Q b0
 go_wp2_with (first | (refine wpList_load_row rfl 50 (.tmp 2) rfl BL rfl _ _ _ _ g2.out Tryz.underlying50 rfl Tryz.lawInfo ?_) | fail)
 refine c5.out.mono ?_;rintro L n0 ⟨rfl,G⟩;have s:=a5.out.ext G I.out;have b6:=d3.out n0 s.t;cases U;case false=>
  have j0:=c9.out.miss (by rw [d.out,q.out];exact e5) c6.out;have m5:=Zh j0;have r:=Zh s;have f:=Fa s.n;rw [d.out] at f;have l7:=Zh f;clear j0 s b6 c5 G B f;go_wp2;refine⟨⟨a7,A,H,i+1,f7,f6,tz,rfl,m5.out,r.out⟩,?_⟩;rw [c4.out,l7.out];simp [intOf];omega
 have B:=cell_of_one s.n;rw [d.out] at B;have p:=s.wd;rw [d.out] at p;have k7:=Q0p b6.law.2 p d.out (by have:=s.cap;rw [d.out] at this;exact this) i (by rw [q.out];exact e5) l9.out (by rw [J.out];omega) oz;have S:=b6.law.1;have l1:Zs (Yq l H i):=by
  have F:=p.2;intro f5 k;unfold Yq Wj at k;rcases List.mem_append.1 k with k | k
  ·rcases List.mem_append.1 k with k | k
   ·exact F f5 (List.mem_of_mem_take k)
   ·exact Ll (fun x hx=>F x (List.mem_of_mem_drop (List.mem_of_mem_take hx))) m3.out.2 f5 k
  ·exact F f5 (List.mem_of_mem_drop k)
 obtain⟨g7,g3,r,i0⟩:=Zh4 k7 S s l1;obtain⟨j1,l5,k9⟩:=c9.out.hit c6.out;have g5:=Zh j1;have d2:=Zh k9;clear k7 S s b6 p l1 j1 k9 c5 G;go_upto_region 17 with (first | (refine wpList_load_row rfl 50 (.tmp 2) rfl BL rfl _ _ _ _ g3.out Tryz.underlying50 rfl Tryz.lawInfo ?_) | (go_at_call 213;refine g7.out.mono ?_;rintro L n1 ⟨s8,rfl,d7,C⟩;obtain⟨a2,a1,rfl⟩:=Zg d7;have n4:=cell_of_one (C.keep r.out.n);have n5:=free_of_one (C.keep r.out.n)))
 obtain⟨a8,v,_,b5⟩:=(r.out).put2 m1.out d7 C i0.out (Nat.le_refl 2) I.out;have o1:=(r.out.lt _ r.out.on).2;obtain⟨n2,j3⟩:=zE (n1.setCell ⟨e+1,0,none⟩ (.slice a2 (Yq l H i).length a1));rw [j3] at v b5 ⊢;clear j3 d7 C B n4 n5 g7 g3 g2 r i0 m2 m7 a5 d0;obtain⟨z,b9⟩:=zE (Yq l H i);rw [b9] at v b5 g5 d2;have k4:=Ga (l:=l) (u:=H) (i:=i) (by rw [d.out,q.out];exact e5);rw [b9,d.out,q.out,J.out] at k4;rw [b9];obtain⟨o4,V⟩:=zE z.length;rw [V] at k4;have B:=cell_of_one v.n;rw [V] at B;have b0:=cell_of_one v.y;obtain⟨q7,s9,q1,q4,l2,j6⟩:=d5.out a8 A (i,z) l5 n2 #[.int .i64 (i:Int),.slice a2 o4 a1] d2.out v.j ⟨a2,a1,by rw [V],v.wd,v.cap,fun g o n c L h0'=>by obtain⟨l3,o3,l4⟩:=b5 g o n c L h0';exact⟨l3,by omega,l4⟩⟩;clear b5 o1;obtain⟨m4,m8,g8⟩:=Zh3 v j6 V;clear v j6 V b9 c6;rw [g8.out];refine(wpIn_wide (n:=0)).1 ?_;gi_wp2;refine m8.out.mono ?_;rintro L n3 (⟨rfl,i6,k1⟩ | ⟨rfl,i7,_⟩)
 ·have b4:=m4.out.yielded i6 k1;have d8:=d3.out n3 b4.t;have b1:=cell_of_one d8.bk;have Q:=cell_of_one d8.bm;rw [q.out] at b1;rw [J.out] at Q;have f:=Fa b4.n;rw [g8.out] at f;have c8:=Zh b4;have f8:=Zh f;clear b4 d8 f l2 B b0 i6 k1;have e8:=g5.out;rw [q.out,J.out] at e8;have g6:=Zh e8;clear e8;by_cases k0:Z=0
  ·subst k0;gi_wp2;go_wp2;refine⟨⟨a8,A++[(i,z)],z,i+f4+1,a2,a1,tz,rfl,g6.out,c8.out⟩,?_⟩;rw [c4.out,f8.out];simp [intOf];omega
  ·have q8:((Z:Int) == 0)=false:=by rw [beq_eq_false_iff_ne];omega
   have e9:=g6.out;rw [if_neg k0,Nat.add_zero] at e9;have m6:=Zh e9;clear e9;gi_wp2;go_wp2;refine⟨⟨a8,A++[(i,z)],z,i+f4,a2,a1,tz,rfl,m6.out,c8.out⟩,?_⟩;rw [c4.out,f8.out];simp [intOf];omega
 ·have m0:=Zh i7;clear i7 l2;gi_wp2;go_wp2;refine bodyPost_ret (results_none rfl _ _ _) rfl ?_;exact⟨⟨_,rfl⟩,a8,.inr ⟨A,(i,z),l5,d2.out,m0.out⟩⟩
theorem Qgr{w:World}{ao:Option Addr}{N cap:Nat}{l:List Xs}(J:Gm w (.slice ao N cap) l) (H:l.length=N) (T:N<=maxLen) (f:Nat) (lb:Array Value) (k:∀ args w,(callFunc f args).run Tryz.prog w=.ok (.enter f args) w)
  (F:Xs->Bool) (G:∀ x∈l,∀ V,Ext w V->Calls Tryz.prog f (#[.agg (Yg x).toArray]++lb) V fun e w'=>e=.returned (.bool (F x))/\Ext V w') :
  Calls Tryz.prog 172 #[.slice ao N cap,.func (.func f) #[] lb] w fun e w'=>∃ z:Int,e=.returned (.int .i64 z)/\decide (0<=z)=l.any F/\Ext w w':=by
 unfold maxLen at T;obtain⟨P,O,t,M⟩:=Zh4 J G H k;clear J G H k;go_enter Tryz.func172,Tryz.ntmps172;go_wp2
 refine wp_loop (fun a o=>∃(b:Nat),b<=N/\a.defers=[]/\gS a [0,1,7,8]=(19,[.slice ao N cap,.func (.func f) #[] lb,.int .i64 N,.int .i64 b])/\(l.take b).any F=false/\Ext w o)
  (fun a _=>N - (intOf (a.tmps.getD 8 undef)).toNat) ?_ ?_
 ·exact⟨0,by omega,rfl,rfl,by simp,Qa.refl _ _⟩
 rintro⟨a3,_⟩ o ⟨b,a1,R,L,I,g⟩;subst R;obtain⟨a4,rfl⟩:=Qo L;clear L;have q:=Zh I;clear I;by_cases S:b<N
 ·have Q:(b:Int)<(N:Int):=by omega
  have m:b<l.length:=by rw [t.out];exact S
  obtain⟨Z,a2,Y,K,a0,_,u,v,y,A,B,C⟩:=(P.out.ext g).at m;simp only [zV] at K;obtain⟨rfl,U,rfl⟩:=K;clear U;have i:=O.out _ (List.getElem_mem m) o g;obtain⟨x,n⟩:=zE (l[b]);have W:Hid (l[b]=x):=Zh n;rw [n] at u v y A B C i;unfold Yg at i;obtain⟨j,p⟩:=zE (F x);rw [p] at i;have r:Hid (F l[b]=j):=Zh (by rw [n];exact p);have s:=Zh i;clear i n p;have k:=M.out;go_wp2_with fail;clear k;refine s.out.mono ?_;rintro e X ⟨rfl,E⟩;have D:=g.trans E;clear s g E u v y A B C;cases j
  ·have c:(l.take (b+1)).any F=false:=by
    rw [List.take_succ_eq_append_getElem m,List.any_append,q.out];simp [r.out]
   have d:=Zh c;clear c;go_wp2;exact⟨⟨b+1,by omega,tz,rfl,d.out,D⟩,nz⟩
  ·have c:l.any F=true:=List.any_eq_true.2 ⟨_,List.getElem_mem m,r.out⟩;have d:=Zh c;clear c;go_wp2;go_ret;exact⟨_,rfl,by rw [d.out];simp,D⟩
 ·obtain rfl:b=N:=by omega
  have Q:¬ (b:Int)<(b:Int):=by omega
  have c:l.any F=false:=by have:=q.out;rwa [List.take_of_length_le (by rw [t.out];exact Nat.le_refl _)] at this
  have d:=Zh c;clear c;go_wp2;go_ret;exact⟨_,rfl,by rw [d.out];simp,g⟩
theorem Q8l{w:World}{ao:Option Addr}{N cap:Nat}{l:List Xs}(g:Gm w (.slice ao N cap) l) (c:l.length=N) (n:N<=maxLen) (a:Nat) (lb:Array Value) (d:∀ args w,(callFunc a args).run Tryz.prog w=.ok (.enter a args) w)
  (F:Xs->Bool) (b:∀ x∈l,∀ V,Ext w V->Calls Tryz.prog a (#[.agg (Yg x).toArray]++lb) V fun e w'=>e=.returned (.bool (F x))/\Ext V w') :
  Calls Tryz.prog 155 #[.slice ao N cap,.func (.func a) #[] lb] w fun e w'=>e=.returned (.bool (l.any F))/\Ext w w':=by
 have f:=Qgr g c n (cap:=cap) a lb d F b;have j:=Zh f;clear f b g d c;go_enter Tryz.func155,Tryz.ntmps155;go_wp2_with fail;refine j.out.mono ?_;rintro e o ⟨p,rfl,i,m⟩;have k:=Zh i;clear i;go_wp2;go_ret;exact⟨by rw [<-k.out];rfl,m⟩
theorem Qg1{w:World}{ao:Option Addr}{N cap:Nat}{l:List (Nat × Nat)} (G:Qd w (.slice ao N cap) l) (C:l.length=N) (Q:N<=maxLen) (f:Nat) (lb:Array Value) (o:∀ args w,(callFunc f args).run Tryz.prog w=.ok (.enter f args) w)
  (F:(Nat × Nat)->Bool) (B:∀ x∈l,∀ V,Ext w V->Calls Tryz.prog f (#[sV x]++lb) V fun e w'=>e=.returned (.bool (F x))/\Ext V w') :
  Calls Tryz.prog 159 #[.slice ao N cap,.func (.func f) #[] lb] w fun e w'=>∃ z:Int,e=.returned (.int .i64 z)/\decide (0<=z)=l.any F/\Ext w w':=by
 unfold maxLen at Q;obtain⟨L,K,v,J⟩:=Zh4 G B C o;clear G B C o;go_enter Tryz.func159,Tryz.ntmps159;go_wp2
 refine wp_loop (fun a p=>∃(b:Nat),b<=N/\a.defers=[]/\gS a [0,1,7,8]=(19,[.slice ao N cap,.func (.func f) #[] lb,.int .i64 N,.int .i64 b])/\(l.take b).any F=false/\Ext w p)
  (fun a _=>N - (intOf (a.tmps.getD 8 undef)).toNat) ?_ ?_
 ·exact⟨0,by omega,rfl,rfl,by simp,Qa.refl _ _⟩
 rintro⟨a1,_⟩ p ⟨b,Z,O,I,D,g⟩;subst O;obtain⟨a2,rfl⟩:=Qo I;clear I;have s:=Zh D;clear D;by_cases P:b<N
 ·have M:(b:Int)<(N:Int):=by omega
  have i:b<l.length:=by rw [v.out];exact P
  obtain⟨X,a0,W,H,Y,k,m⟩:=(L.out.ext g).at i;simp only [zV] at H;obtain⟨rfl,R,rfl⟩:=H;clear R;have E:l.getD b (0,0)=l[b]:=by rw [List.getD_eq_getElem?_getD,List.getElem?_eq_getElem i];rfl
  rw [E] at k m;have n:=K.out _ (List.getElem_mem i) p g;obtain⟨x,r⟩:=zE (l[b]);rw [r] at k m n;obtain⟨S,T⟩:=x;dsimp only at k m;obtain⟨j,q⟩:=zE (F (S,T));rw [q] at n;have t:Hid (F l[b]=j):=Zh (by rw [r];exact q);have u:=Zh n;clear n r q E;have o:=J.out;go_wp2_with fail;clear o;refine u.out.mono ?_;rintro e U ⟨rfl,A⟩;have y:=g.trans A;clear u g A k m;cases j
  ·have c:(l.take (b+1)).any F=false:=by
    rw [List.take_succ_eq_append_getElem i,List.any_append,s.out];simp [t.out]
   have d:=Zh c;clear c;go_wp2;exact⟨⟨b+1,by omega,tz,rfl,d.out,y⟩,nz⟩
  ·have c:l.any F=true:=List.any_eq_true.2 ⟨_,List.getElem_mem i,t.out⟩;have d:=Zh c;clear c;go_wp2;go_ret;exact⟨_,rfl,by rw [d.out];simp,y⟩
 ·obtain rfl:b=N:=by omega
  have M:¬ (b:Int)<(b:Int):=by omega
  have c:l.any F=false:=by have:=s.out;rwa [List.take_of_length_le (by rw [v.out];exact Nat.le_refl _)] at this
  have d:=Zh c;clear c;go_wp2;go_ret;exact⟨_,rfl,by rw [d.out];simp,g⟩
theorem Co{w:World}{ao:Option Addr}{N cap:Nat}{l:List (Nat × Nat)} (g:Qd w (.slice ao N cap) l) (c:l.length=N) (n:N<=maxLen) (a:Nat) (lb:Array Value) (d:∀ args w,(callFunc a args).run Tryz.prog w=.ok (.enter a args) w)
  (F:(Nat × Nat)->Bool) (b:∀ x∈l,∀ V,Ext w V->Calls Tryz.prog a (#[sV x]++lb) V fun e w'=>e=.returned (.bool (F x))/\Ext V w') :
  Calls Tryz.prog 125 #[.slice ao N cap,.func (.func a) #[] lb] w fun e w'=>e=.returned (.bool (l.any F))/\Ext w w':=by
 have f:=Qg1 g c n (cap:=cap) a lb d F b;have j:=Zh f;clear f b g d c;go_enter Tryz.func125,Tryz.ntmps125;go_wp2_with fail;refine j.out.mono ?_;rintro e o ⟨p,rfl,i,m⟩;have k:=Zh i;clear i;go_wp2;go_ret;exact⟨by rw [<-k.out];rfl,m⟩
theorem Qdh{x:Xs}(p:Uc x){k d:Nat}(o:k<=9223372036854775807){w:World}(i:w.heap[d]?=some (.cells #[.int .i64 (k:Int)] 3 (0,0))) :
  Calls Tryz.prog 150 #[.agg (Yg x).toArray,.pointer (some ⟨d,0,none⟩)] w fun e w'=>e=.returned (.bool (!Xe k x))/\Ext w w':=by
 have b:Ext w (w.alloc (.cells (Yg x).toArray 131)):=(Qa.refl _ w).alloc _;have l:=cell_of_one (b.keep i);have c:=Qim p k o (w.alloc (.cells (Yg x).toArray 131));obtain⟨a,j⟩:=zE (Xe k x);rw [j] at c ⊢;have f:=Zh c;have g:=Zh b;clear j c b i;unfold Yg at f l g ⊢;go_enter Tryz.func150,Tryz.ntmps150;go_wp2_with fail;refine f.out.mono ?_;rintro e q ⟨rfl,m⟩;have n:=g.out.trans m;cases a
 all_goals
  go_wp2;go_ret;exact⟨rfl,n⟩
theorem Qcc{s:Nat × Nat}(k:Qm s)(w:World) :
  Calls Tryz.prog 152 #[sV s] w fun e w'=>e=.returned (.bool (!okS s))/\Ext w w':=by
 have c:Ext w (w.alloc (.cells #[.int .u32 (s.1:Int),.int .u32 (s.2:Int)] 26)):=(Qa.refl _ w).alloc _;have b:=Jn k (w.alloc (.cells #[.int .u32 (s.1:Int),.int .u32 (s.2:Int)] 26));obtain⟨a,d⟩:=zE (okS s);rw [d] at b ⊢;have f:=Zh b;have g:=Zh c;clear d b c;go_enter Tryz.func152,Tryz.ntmps152;go_wp2_with fail;refine f.out.mono ?_;rintro e l ⟨rfl,i⟩;have j:=g.out.trans i;cases a
 all_goals
  go_wp2;go_ret;exact⟨rfl,j⟩
theorem Q0h(s:ByteArray):s=⟨s.data.toList.toArray⟩:=by
 cases s;simp
theorem Qh6(l:Qg):Yd l=if Kl l.name=false then false else if Yj l.left≠0 then false else if Yj l.right≠0 then false else if 4<l.ifs.length then false else if 6<l.outs.length then false else if l.ifs.length+l.outs.length=0 then false else
  if l.mode<1\/3<l.mode then false else if (l.ifs.any fun s=>!okS s)=true then false else if (l.outs.any fun x=>!Xe l.ifs.length x)=true then false else true:=by
 unfold Yd;have g:l.ifs.all okS=!(l.ifs.any fun s=>!okS s):=by simp [List.any_eq_not_all_not]
 have i:l.outs.all (Xe l.ifs.length)=!(l.outs.any fun x=>!Xe l.ifs.length x):=by simp [List.any_eq_not_all_not]
 rw [g,i];cases Kl l.name
 ·simp
 rw [if_neg zd];by_cases b:Yj l.left=0;case neg=>rw [if_pos b,decide_eq_false b];simp
 rw [if_neg (fun q=>q b),decide_eq_true b];by_cases c:Yj l.right=0;case neg=>rw [if_pos c,decide_eq_false c];simp
 rw [if_neg (fun q=>q c),decide_eq_true c];by_cases e:4<l.ifs.length
 ·rw [if_pos e,decide_eq_false (by omega:¬ l.ifs.length<=4)];simp
 rw [if_neg e,decide_eq_true (by omega:l.ifs.length<=4)];by_cases f:6<l.outs.length
 ·rw [if_pos f,decide_eq_false (by omega:¬ l.outs.length<=6)];simp
 rw [if_neg f,decide_eq_true (by omega:l.outs.length<=6)];by_cases d:l.ifs.length+l.outs.length=0
 ·rw [if_pos d,decide_eq_false (by omega:¬ (l.ifs.length+l.outs.length≠0))];simp
 rw [if_neg d,decide_eq_true d];by_cases a:l.mode<1\/3<l.mode
 ·rw [if_pos a];rcases a with a | a
  ·rw [decide_eq_false (by omega:¬ 1<=l.mode)];simp
  ·rw [decide_eq_false (by omega:¬ l.mode<=3)];simp
 rw [if_neg a,decide_eq_true (by omega:1<=l.mode),decide_eq_true (by omega:l.mode<=3)];cases (l.ifs.any fun s=>!okS s) <;> cases (l.outs.any fun x=>!Xe l.ifs.length x) <;> rfl
theorem Nk{c:Prop} [Decidable c] {b:Bool} {z:Int} (h:(if b=true then(0:Int) else 17)=z):(if (if c then false else b)=true then(0:Int) else 17)=if c then 17 else z:=by
 subst h;by_cases a:c <;> simp [a]
theorem Q4h(l:Qg):Gx l=if Kl l.name=false then 17 else if Yj l.left≠0 then 17 else if Yj l.right≠0 then 17 else if 4<l.ifs.length then 17 else if 6<l.outs.length then 17 else if l.ifs.length+l.outs.length=0 then 17 else
  if l.mode<1\/3<l.mode then 17 else if (l.ifs.any fun s=>!okS s)=true then 17 else if (l.outs.any fun x=>!Xe l.ifs.length x)=true then 17 else 0:=by
 unfold Gx;rw [Qh6];exact Nk (Nk (Nk (Nk (Nk (Nk (Nk (Nk (Nk rfl))))))))
theorem Q22{w:World}{l:Qg}{cs:List Value}(f3:Ye w l cs)(d0:Tab w) :
  Calls Tryz.prog 113 #[.agg cs.toArray] w fun e w'=>e=.returned (.int .i64 (Gx l))/\Ext w w':=by
 obtain⟨n,T,a4,W,Y,H,J,a0,F,L,U,a5,X,Z,I,K,a1,G,M,S,a,R,a3,k,a2,p,rfl,f7,d7,d8,b0,c3,d6,f8,f9,c0,c1,d5,g4,i0,i1,g5,i2⟩:=Yf f3;have Q:=Q0h n;have f6:n.data.toList.length<=9223372036854775807:=by rw [Array.length_toList];exact g4
 have c2:Hid (∀ V,Ext w V->Calls Tryz.prog 153 #[.string n] V fun e w'=>e=.returned (.bool (Kl n))/\Ext V w'):=Zh fun V _=>by
  have:=Qf5 n.data.toList f6 V;rw [<-Q] at this;exact this
 have c4:Hid (∀ V,Ext w V->Calls Tryz.prog 154 #[.agg #[.int .i64 T,.int .u32 (a4:Int),.int .u32 (W:Int),.bool Y,.int .i64 H,.int .i64 J,.slice a0 F L]] V fun e w'=>e=.returned (.int .i64 (Yj l.left))/\Ext V w'):=
  Zh fun V hE=>Bl (d7.out.ext hE) (fun g hg=>Nat.lt_of_lt_of_le hg hE.size) (d0.keep hE id)
 have c5:Hid (∀ V,Ext w V->Calls Tryz.prog 154 #[.agg #[.int .i64 U,.int .u32 (a5:Int),.int .u32 (X:Int),.bool Z,.int .i64 I,.int .i64 K,.slice a1 G M]] V fun e w'=>e=.returned (.int .i64 (Yj l.right))/\Ext V w'):=
  Zh fun V hE=>Bl (d8.out.ext hE) (fun g hg=>Nat.lt_of_lt_of_le hg hE.size) (d0.keep hE id)
 have a9:Hid (∀ V,Ext w V->Calls Tryz.prog 125 #[.slice S a R,.func (.func 152) #[] #[]] V fun e w'=>e=.returned (.bool (l.ifs.any fun s=>!okS s))/\Ext V w'):=
  Zh fun V hE=>Co (b0.out.ext hE) c0.out (by unfold maxLen;omega) _ #[] (enters_of Tryz.func152 kz rfl) (fun s=>!okS s) (fun s Q V2 _=>Qcc (b0.out.2 s Q) V2)
 have a8:Hid (∀(Bk:Nat) V,Ext w V->V.heap[Bk]?=some (.cells #[.int .i64 (a:Int)] 3 (0,0))->Calls Tryz.prog 155 #[.slice a3 k a2,.func (.func 150) #[] #[.pointer (some ⟨Bk,0,none⟩)]] V fun e w'=>e=.returned (.bool (l.outs.any fun x=>!Xe a x))/\Ext V w'):=
  Zh fun Bk V hE hb=>Q8l (c3.out.ext hE) c1.out (by unfold maxLen;omega) _ #[.pointer (some ⟨Bk,0,none⟩)] (enters_of Tryz.func150 kz rfl) (fun x=>!Xe a x) (fun x hx V2 z=>Qdh (c3.out.2 x hx) g5 (z.keep hb))
 have i:Hid (Gx l=if Kl n=false then 17 else if Yj l.left≠0 then 17 else if Yj l.right≠0 then 17 else if 4<a then 17 else if 6<k then 17 else if a+k=0 then 17 else if p<1\/3<p then 17 else if (l.ifs.any fun s=>!okS s)=true then 17 else if (l.outs.any fun x=>!Xe a x)=true then 17 else 0):=Zh (by
  rw [Q4h,d6.out,c0.out,c1.out,d5.out])
 obtain⟨f,e7⟩:=zE (Gx l);rw [e7] at i ⊢;obtain⟨g3,f5⟩:=zE (Kl n);obtain⟨d9,f0⟩:=zE (Yj l.left);obtain⟨e0,f1⟩:=zE (Yj l.right);obtain⟨c8,e9⟩:=zE (l.ifs.any fun s=>!okS s);obtain⟨c7,e8⟩:∃ x,(l.outs.any fun x=>!Xe a x)=x:=⟨_,rfl⟩;rw [f5] at c2 i;rw [f0] at c4 i;rw [f1] at c5 i;rw [e9] at a9 i;rw [e8] at a8 i;clear f3 Q f6 d0 e7 f5 f0 f1 e9 e8 f7 d7 d8 b0 c3 d6 f8 f9 c0 c1 d5;go_enter Tryz.func113,Tryz.ntmps113;go_upto_region 1 with (fail)
 obtain⟨a6,C⟩:=zE (w.alloc (.cells #[.string n,.int .i64 T,.int .u32 (a4:Int),.int .u32 (W:Int),.bool Y,.int .i64 H,.int .i64 J,.slice a0 F L,.int .i64 U,.int .u32 (a5:Int),.int .u32 (X:Int),.bool Z,.int .i64 I,.int .i64 K,.slice a1 G M,.slice S a R,.slice a3 k a2,.int .i64 p] 50));have e5:Ext w a6:=by rw [<-C];exact(Qa.refl _ w).alloc _
 have P:a6.heap[w.heap.size]?=some (.cells #[.string n,.int .i64 T,.int .u32 (a4:Int),.int .u32 (W:Int),.bool Y,.int .i64 H,.int .i64 J,.slice a0 F L,.int .i64 U,.int .u32 (a5:Int),.int .u32 (X:Int),.bool Z,.int .i64 I,.int .i64 K,.slice a1 G M,.slice S a R,.slice a3 k a2,.int .i64 p] 50 (0,0)):=by rw [<-C];exact new_at rfl
 have d1:a6.heap.size=w.heap.size+1:=by rw [<-C];simp
 rw [C];obtain⟨d2,e4⟩:=zE w.heap.size;rw [e4] at P d1 ⊢;have t:=cell_of_row _ _ 15 _ _ _ P;have c6:=Zh d1;have d3:=Zh P;clear C e4 d1 P;go_upto_region 4 with (fail)
 rw [c6.out];obtain⟨a7,E⟩:=zE (a6.alloc (.cells #[.int .i64 (a:Int)] 3));have c9:Ext w a7:=by rw [<-E];exact e5.alloc _
 have f2:a7.heap[d2+1]?=some (.cells #[.int .i64 (a:Int)] 3 (0,0)):=by rw [<-E];exact new_at c6.out.symm
 have f4:a7.heap[d2]?=some (.cells #[.string n,.int .i64 T,.int .u32 (a4:Int),.int .u32 (W:Int),.bool Y,.int .i64 H,.int .i64 J,.slice a0 F L,.int .i64 U,.int .u32 (a5:Int),.int .u32 (X:Int),.bool Z,.int .i64 I,.int .i64 K,.slice a1 G M,.slice S a R,.slice a3 k a2,.int .i64 p] 50 (0,0)):=by rw [<-E];exact Qi d3.out
 rw [E];have b6:=Zh f4;have b1:=Zh f2;clear E f2 f4 t d3 c6 e5;have t:=zR b6.out;have A:=cell_of_one b1.out;go_wp2_with fail;refine(c2.out a7 c9).mono ?_;rintro e g6 ⟨rfl,c⟩;have z:=c9.trans c;have b7:=Zh (c.keep b6.out);have b2:=Zh (c.keep b1.out);have t:=zR b7.out;have A:=cell_of_one b2.out;clear c b6 b1 c9 c2;cases g3
 ·have d:Hid (f=17):=Zh (by rw [i.out];rfl);clear i;go_wp2;go_ret;exact⟨by rw [d.out];rfl,z⟩
 go_wp2_with fail;refine(c4.out g6 z).mono ?_;rintro e g7 ⟨rfl,c⟩;have N:=z.trans c;have b8:=Zh (c.keep b7.out);have b3:=Zh (c.keep b2.out);have t:=zR b8.out;have A:=cell_of_one b3.out;clear c b7 b2 z c4;by_cases u:d9=0;case neg=>
  have g2:(d9 != 0)=true:=by rw [bne_iff_ne];exact u
  have d:Hid (f=17):=Zh (by rw [i.out,if_neg zd,if_pos u]);clear i;go_wp2;go_ret;exact⟨by rw [d.out];rfl,N⟩
 subst u;go_wp2_with fail;refine(c5.out g7 N).mono ?_;rintro e g8 ⟨rfl,c⟩;have o:=N.trans c;have b9:=Zh (c.keep b8.out);have b4:=Zh (c.keep b3.out);have t:=zR b9.out;have A:=cell_of_one b4.out;clear c b8 b3 N c5;by_cases u:e0=0;case neg=>
  have g2:(e0 != 0)=true:=by rw [bne_iff_ne];exact u
  have d:Hid (f=17):=Zh (by rw [i.out,if_neg zd,if_neg zd,if_pos u]);clear i;go_wp2;go_ret;exact⟨by rw [d.out];rfl,o⟩
 subst u;have m:Hid (f=if 4<a then 17 else if 6<k then 17 else if a+k=0 then 17 else if p<1\/3<p then 17 else if c8=true then 17 else if c7=true then 17 else 0):=Zh (by rw [i.out];rfl);clear i;by_cases y:4<a
 ·have e1:(4:Int)<(a:Int):=by omega
  have d:Hid (f=17):=Zh (by rw [m.out,if_pos y]);clear m;go_wp2;go_ret;exact⟨by rw [d.out];rfl,o⟩
 by_cases B:6<k
 ·have e1:¬ (4:Int)<(a:Int):=by omega
  have g0:(6:Int)<(k:Int):=by omega
  have d:Hid (f=17):=Zh (by rw [m.out,if_neg y,if_pos B]);clear m;go_wp2;go_ret;exact⟨by rw [d.out];rfl,o⟩
 have e1:¬ (4:Int)<(a:Int):=by omega
 have g0:¬ (6:Int)<(k:Int):=by omega
 by_cases r:a+k=0
 ·have g1:((a:Int)+(k:Int) == 0)=true:=by rw [beq_iff_eq];omega
  have d:Hid (f=17):=Zh (by rw [m.out,if_neg y,if_neg B,if_pos r]);clear m r;go_wp2;go_ret;exact⟨by rw [d.out];rfl,o⟩
 have g1:((a:Int)+(k:Int) == 0)=false:=by rw [beq_eq_false_iff_ne];omega
 by_cases e2:p<1
 ·have d:Hid (f=17):=Zh (by rw [m.out,if_neg y,if_neg B,if_neg r,if_pos (.inl e2)]);clear m r;go_wp2;go_ret;exact⟨by rw [d.out];rfl,o⟩
 by_cases e3:3<p
 ·have d:Hid (f=17):=Zh (by rw [m.out,if_neg y,if_neg B,if_neg r,if_pos (.inr e3)]);clear m r;go_wp2;go_ret;exact⟨by rw [d.out];rfl,o⟩
 have v:Hid (f=if c8=true then 17 else if c7=true then 17 else 0):=Zh (by rw [m.out,if_neg y,if_neg B,if_neg r,if_neg (fun q=>q.elim e2 e3)]);clear m r;go_wp2_with fail;refine(a9.out g8 o).mono ?_;rintro e g9 ⟨rfl,c⟩;have O:=o.trans c;have d4:=Zh (c.keep b9.out);have b5:=Zh (c.keep b4.out);have t:=zR d4.out;have A:=cell_of_one b5.out;clear c b9 b4 o a9;cases c8;case true=>
  have d:Hid (f=17):=Zh (by rw [v.out];rfl);clear v;go_wp2;go_ret;exact⟨by rw [d.out];rfl,O⟩
 go_wp2_with fail;refine(a8.out _ g9 O b5.out).mono ?_;rintro e i3 ⟨rfl,c⟩;have e6:=O.trans c;clear c d4 b5 O a8 t A;cases c7
 ·have d:Hid (f=0):=Zh (by rw [v.out];rfl);clear v;go_wp2;go_ret;exact⟨by rw [d.out];rfl,e6⟩
 ·have d:Hid (f=17):=Zh (by rw [v.out];rfl);clear v;go_wp2;go_ret;exact⟨by rw [d.out];rfl,e6⟩
theorem Q8z{w:World}{l:Qg}{cs:List Value}{v:Value}{ws:Wd}(p:Ye w l cs)(d:Qd w v ws)(t:Tab w) :
  Calls Tryz.prog 199 #[.agg cs.toArray,v] w fun e w'=>e=.returned (.int .i64 (Xz l ws))/\Ext w w':=by
 obtain⟨c0,b8,rfl,_⟩:=d.slice;obtain⟨b9,u⟩:=zE ws.length;rw [u] at d ⊢;have r:=fun(V:World) (hE:Ext w V)=>Fu (d.ext hE);have q:=fun(V:World) (hE:Ext w V)=>Q22 (p.ext hE) (t.keep hE id);obtain⟨a5,Y,b0,a0,a3,O,Q,a6,K,S,Z,b1,a1,a4,P,R,a7,L,T,X,M,W,a9,N,a8,a2,rfl,y,H,I,x,G,F,B,C,D,E,A,b3,b4,b5,b6,b7⟩:=Yf p;have b:Hid (Xz l ws=if Gx l=0 then wE ws else Gx l):=Zh (by unfold Xz Gx;cases Yd l <;> rfl);obtain⟨a,k⟩:=zE (Xz l ws);obtain⟨g,m⟩:=zE (Gx l);obtain⟨U,o⟩:=zE (wE ws);rw [k,m,o] at b;rw [m] at q;rw [o] at r;rw [k];have J:=Zh r;have z:=Zh q;clear u k m o r q d p t y H I x G F B C D E A;have i:Ext w (w.alloc (.cells #[.string a5,.int .i64 Y,.int .u32 (b0:Int),.int .u32 (a0:Int),.bool a3,.int .i64 O,.int .i64 Q,.slice a6 K S,.int .i64 Z,.int .u32 (b1:Int),.int .u32 (a1:Int),.bool a4,.int .i64 P,.int .i64 R,.slice a7 L T,.slice X M W,.slice a9 N a8,.int .i64 a2] 50)):=(Qa.refl _ w).alloc _;go_enter Tryz.func199,Tryz.ntmps199
 go_wp2_with (refine wpList_load_row rfl 50 (.tmp 2) rfl w.heap.size rfl _ _ _ _ (new_at rfl) Tryz.underlying50 rfl Tryz.lawInfo ?_)
 refine(z.out _ i).mono ?_;rintro e c1 ⟨rfl,c⟩;have j:=i.trans c;clear c i;by_cases s:g=0;case neg=>
  have b2:(g != 0)=true:=by rw [bne_iff_ne];exact s
  have f:Hid (a=g):=Zh (by rw [b.out,if_neg s]);clear b;go_wp2;go_ret;exact⟨by rw [f.out];rfl,j⟩
 subst s;have f:Hid (a=U):=Zh (by rw [b.out,if_pos rfl]);go_wp2_with fail;refine(J.out _ j).mono ?_;rintro e c2 ⟨rfl,c⟩;go_wp2;go_ret;exact⟨by rw [f.out];rfl,j.trans c⟩
abbrev Qnh:Nat->(Nat->Prop)->Nat->World->Array Value->Prop:=fun _ _ x _ ys=>ys=#[.int .i64 (x:Int)]
def Qnd(l:Qg)(ws:Wd):List Nat:=if Xz l ws=0 then Pr l ws else []
theorem Vx{ws:Wd}(h:wE ws=0):ws.length<=32:=by
 apply Nat.le_of_not_lt;intro a;unfold wE at h;rw [if_pos a] at h;cases h
theorem Dw{l:Qg}{ws:Wd}(h:Xz l ws=0):Yd l=true/\wE ws=0:=by
 unfold Xz at h
 split at h
 ·rename_i a;exact⟨a,h⟩
 ·cases h
def Qlx(k:Nat)(x:Xs):Xs:=⟨if 0<=x.frm then(k:Int) - 1 - x.frm else x.frm,x.cl,x.st,x.tk,if x.tk=0 then x.ofi else(k:Int) - 1 - x.ofi⟩
def Qn2(l:Qg):Qg:=⟨l.name,Qi4 l.right,Qi4 l.left,l.ifs.reverse,(l.outs.map (Qlx l.ifs.length)).reverse,if l.mode=2 then 3 else 2⟩
def Qmn(l:Qg)(ws:Wd)(z:Int):Int:=
 if Xz l ws=0 then(if z<0\/(ws.length:Int)<z then 3 else if Yh l ws z.toNat=false then 5 else if 32<(Yq l ws z.toNat).length then 11 else 0) else Xz l ws
def Qn7(l:Qg)(ws:Wd)(z:Int):Wd:=if Qmn l ws z=0 then Yq l ws z.toNat else []
theorem Qlr{w:World}{u v:Value}{us vs:Wd}(t:Qd w u us)(x:Qd w v vs) :
  Calls Tryz.prog 20 #[u,v] w fun e w'=>e=.returned (.bool (decide (us=vs)))/\Ext w w':=by
 obtain⟨b0,a9,rfl,a0⟩:=t.slice;obtain⟨b2,b1,rfl,a1⟩:=x.slice;unfold maxLen at a0 a1;obtain⟨c,G⟩:=zE us.length;obtain⟨z,F⟩:=zE vs.length;rw [G] at t a0 ⊢;rw [F] at x a1 ⊢;obtain⟨a7,a8,o,y⟩:=Zh4 t x G F;clear t x G F;go_enter Tryz.func20,Tryz.ntmps20;by_cases T:c=z;case neg=>
  have c1:((c:Int) ==(z:Int))=false:=by simp;omega
  have c4:¬ (c:Int)=(z:Int):=by omega
  have l:¬ us=vs:=by intro E;rw [E,y.out] at o;exact T o.out.symm
  have p:=Zh (decide_eq_false l);clear l;go_wp2;go_ret;exact⟨by rw [p.out];rfl,Qa.refl _ _⟩
 subst T;go_wp2
 refine wp_loop (fun a q=>∃(b:Nat),b<=c/\a.defers=[]/\gS a [0,1,5]=(26,[.slice b0 c a9,.slice b2 c b1,.int .i64 b])/\us.take b=vs.take b/\Ext w q)
  (fun a _=>c - (intOf (a.tmps.getD 5 undef)).toNat) ?_ ?_
 ·exact⟨0,by omega,rfl,rfl,by simp,Qa.refl _ _⟩
 rintro⟨M,_⟩ q ⟨b,c7,b6,a3,U,g⟩;subst b6;obtain⟨u,rfl⟩:=Qo a3;clear a3;have N:=Zh U;clear U;by_cases Z:b<c
 ·have b3:(b:Int)<(c:Int):=by omega
  have H:b<us.length:=by rw [o.out];exact Z
  have I:b<vs.length:=by rw [y.out];exact Z
  obtain⟨b9,c8,b7,m,c5,A,B⟩:=(show Qd q _ us from(a7.out.ext g)).at H;simp only [zV] at m;obtain⟨rfl,L,rfl⟩:=m;clear L;obtain⟨c0,c9,b8,m,c6,C,D⟩:=(show Qd q _ vs from(a8.out.ext g)).at I;simp only [zV] at m;obtain⟨rfl,L,rfl⟩:=m;clear L;have X:us.getD b (0,0)=us[b]:=by rw [List.getD_eq_getElem?_getD,List.getElem?_eq_getElem H];rfl
  have Y:vs.getD b (0,0)=vs[b]:=by rw [List.getD_eq_getElem?_getD,List.getElem?_eq_getElem I];rfl
  rw [X] at A B;rw [Y] at C D;obtain⟨i,J⟩:=zE (us[b]);obtain⟨M,K⟩:=zE (vs[b]);have O:Hid (us[b]=i):=Zh J;have P:Hid (vs[b]=M):=Zh K;rw [J] at A B;rw [K] at C D;obtain⟨d,j⟩:=i;obtain⟨f,k⟩:=M;dsimp only at A B C D;clear X Y J K;by_cases s:d=f/\j=k
  ·obtain⟨rfl,rfl⟩:=s;have a2:us.take (b+1)=vs.take (b+1):=by
    rw [List.take_succ_eq_append_getElem H,List.take_succ_eq_append_getElem I,N.out,O.out,P.out]
   have a6:=Zh a2;clear a2;go_wp2
   go_quiet (fail)
   go_wp2;exact⟨⟨b+1,by omega,tz,rfl,a6.out,g.drewN _⟩,nz⟩
  ·have l:¬ us=vs:=by
    intro E;subst E;have r:=O.out.symm.trans P.out;simp only [Prod.mk.injEq] at r;exact s r
   have p:=Zh (decide_eq_false l);have V:(((d:Int) ==(f:Int)) && ((j:Int) ==(k:Int)))=false:=by
    by_cases r:d=f
    ·have Q:¬ j=k:=fun Q=>s ⟨r,Q⟩;simp;omega
    ·simp;omega
   have R:¬ ((d:Int)=(f:Int)/\(j:Int)=(k:Int)):=by omega
   have S:(d:Int)=(f:Int)->¬ (j:Int)=(k:Int):=by omega
   have a4:=Zh S;clear l s S;by_cases b4:(d:Int)=(f:Int)
   ·have c2:=a4.out b4;have c3:((j:Int) ==(k:Int))=false:=by simp;omega
    have b5:((d:Int) ==(f:Int))=true:=by simp;omega
    clear V R;go_wp2
    go_quiet (fail)
    go_wp2;go_ret;exact⟨by rw [p.out];rfl,g.drewN _⟩
   ·have b5:((d:Int) ==(f:Int))=false:=by simp;omega
    clear V R;go_wp2
    go_quiet (fail)
    go_wp2;go_ret;exact⟨by rw [p.out];rfl,g.drewN _⟩
 ·obtain rfl:b=c:=by omega
  have b3:¬ (b:Int)<(b:Int):=by omega
  have W:us=vs:=by have:=N.out;rwa [List.take_of_length_le (by rw [o.out];exact Nat.le_refl _),List.take_of_length_le (by rw [y.out];exact Nat.le_refl _)] at this
  have a5:=Zh (decide_eq_true W);clear W;go_wp2;go_ret;exact⟨by rw [a5.out];rfl,g⟩
theorem Qcx{w:World}{u v:Value}{us vs:Wd}(t:Qd w u us)(x:Qd w v vs) :
  Calls Tryz.prog 21 #[u,v] w fun e w'=>e=.returned (.bool (decide (us=vs)))/\Ext w w':=by
 obtain⟨b0,a9,rfl,a0⟩:=t.slice;obtain⟨b2,b1,rfl,a1⟩:=x.slice;unfold maxLen at a0 a1;obtain⟨c,G⟩:=zE us.length;obtain⟨z,F⟩:=zE vs.length;rw [G] at t a0 ⊢;rw [F] at x a1 ⊢;obtain⟨a7,a8,o,y⟩:=Zh4 t x G F;clear t x G F;go_enter Tryz.func21,Tryz.ntmps21;by_cases T:c=z;case neg=>
  have c1:((c:Int) ==(z:Int))=false:=by simp;omega
  have c4:¬ (c:Int)=(z:Int):=by omega
  have l:¬ us=vs:=by intro E;rw [E,y.out] at o;exact T o.out.symm
  have p:=Zh (decide_eq_false l);clear l;go_wp2;go_ret;exact⟨by rw [p.out];rfl,Qa.refl _ _⟩
 subst T;go_wp2
 refine wp_loop (fun a q=>∃(b:Nat),b<=c/\a.defers=[]/\gS a [0,1,12,13]=(26,[.slice b0 c a9,.slice b2 c b1,.int .i64 c,.int .i64 b])/\us.take b=vs.take b/\Ext w q)
  (fun a _=>c - (intOf (a.tmps.getD 13 undef)).toNat) ?_ ?_
 ·exact⟨0,by omega,rfl,rfl,by simp,Qa.refl _ _⟩
 rintro⟨M,_⟩ q ⟨b,c7,b6,a3,U,g⟩;subst b6;obtain⟨u,rfl⟩:=Qo a3;clear a3;have N:=Zh U;clear U;by_cases Z:b<c
 ·have b3:(b:Int)<(c:Int):=by omega
  have H:b<us.length:=by rw [o.out];exact Z
  have I:b<vs.length:=by rw [y.out];exact Z
  obtain⟨b9,c8,b7,m,c5,A,B⟩:=(show Qd q _ us from(a7.out.ext g)).at H;simp only [zV] at m;obtain⟨rfl,L,rfl⟩:=m;clear L;obtain⟨c0,c9,b8,m,c6,C,D⟩:=(show Qd q _ vs from(a8.out.ext g)).at I;simp only [zV] at m;obtain⟨rfl,L,rfl⟩:=m;clear L;have X:us.getD b (0,0)=us[b]:=by rw [List.getD_eq_getElem?_getD,List.getElem?_eq_getElem H];rfl
  have Y:vs.getD b (0,0)=vs[b]:=by rw [List.getD_eq_getElem?_getD,List.getElem?_eq_getElem I];rfl
  rw [X] at A B;rw [Y] at C D;obtain⟨i,J⟩:=zE (us[b]);obtain⟨M,K⟩:=zE (vs[b]);have O:Hid (us[b]=i):=Zh J;have P:Hid (vs[b]=M):=Zh K;rw [J] at A B;rw [K] at C D;obtain⟨d,j⟩:=i;obtain⟨f,k⟩:=M;dsimp only at A B C D;clear X Y J K;by_cases s:d=f/\j=k
  ·obtain⟨rfl,rfl⟩:=s;have a2:us.take (b+1)=vs.take (b+1):=by
    rw [List.take_succ_eq_append_getElem H,List.take_succ_eq_append_getElem I,N.out,O.out,P.out]
   have a6:=Zh a2;clear a2;go_wp2
   go_quiet (fail)
   go_wp2;exact⟨⟨b+1,by omega,tz,rfl,a6.out,g.drewN _⟩,nz⟩
  ·have l:¬ us=vs:=by
    intro E;subst E;have r:=O.out.symm.trans P.out;simp only [Prod.mk.injEq] at r;exact s r
   have p:=Zh (decide_eq_false l);have V:(((d:Int) ==(f:Int)) && ((j:Int) ==(k:Int)))=false:=by
    by_cases r:d=f
    ·have Q:¬ j=k:=fun Q=>s ⟨r,Q⟩;simp;omega
    ·simp;omega
   have R:¬ ((d:Int)=(f:Int)/\(j:Int)=(k:Int)):=by omega
   have S:(d:Int)=(f:Int)->¬ (j:Int)=(k:Int):=by omega
   have a4:=Zh S;clear l s S;by_cases b4:(d:Int)=(f:Int)
   ·have c2:=a4.out b4;have c3:((j:Int) ==(k:Int))=false:=by simp;omega
    have b5:((d:Int) ==(f:Int))=true:=by simp;omega
    clear V R;go_wp2
    go_quiet (fail)
    go_wp2;go_ret;exact⟨by rw [p.out];rfl,g.drewN _⟩
   ·have b5:((d:Int) ==(f:Int))=false:=by simp;omega
    clear V R;go_wp2
    go_quiet (fail)
    go_wp2;go_ret;exact⟨by rw [p.out];rfl,g.drewN _⟩
 ·obtain rfl:b=c:=by omega
  have b3:¬ (b:Int)<(b:Int):=by omega
  have W:us=vs:=by have:=N.out;rwa [List.take_of_length_le (by rw [o.out];exact Nat.le_refl _),List.take_of_length_le (by rw [y.out];exact Nat.le_refl _)] at this
  have a5:=Zh (decide_eq_true W);clear W;go_wp2;go_ret;exact⟨by rw [a5.out];rfl,g⟩
theorem eqW{w:World}{u v:Value}{us vs:Wd}(a:Qd w u us)(b:Qd w v vs) :
  Calls Tryz.prog 83 #[u,v] w fun e w'=>e=.returned (.bool (decide (us=vs)))/\Ext w w':=by
 have c:=fun(D:World) (hD:Ext w D)=>Qcx (a.ext hD) (b.ext hD);obtain⟨i,g,rfl,l⟩:=a.slice;obtain⟨k,j,rfl,m⟩:=b.slice;have d:=Zh c;clear c a b;go_enter Tryz.func83,Tryz.ntmps83;go_wp2_with fail;refine(d.out _ (by first | exact Qa.refl _ _ | exact Qa.drew (Qa.refl _ _))).mono ?_;rintro e n ⟨rfl,f⟩;clear d;go_wp2;go_ret;exact⟨rfl,by first | exact f | exact Qa.trans (Qa.drew (Qa.refl _ _)) f⟩
mutual
def Mr:Pat->Nat
 | .node k _ _ _ _ _ l=>(if k=5 then 1 else 0)+Vb l
def Vb:List Pat->Nat
 | []=>0
 | p::l=>Mr p+Vb l
end
theorem Qdt{l:List Pat}{i:Nat}(c:i<l.length):Vb (l.take (i+1))=Vb (l.take i)+Mr l[i]:=by
 have d:∀(a b:List Pat),Vb (a++b)=Vb a+Vb b:=by
  intro a
  induction a with
  | nil=>intro b;simp [Vb]
  | cons p a ih=>intro b;simp only [List.cons_append,Vb,ih];omega
 rw [List.take_succ_eq_append_getElem c,d];simp [Vb]
mutual
theorem Q11:∀ p:Pat,Mr p<=Dj p
 | .node k pl mi nt mn mx l=>by
  have:=Q17 l;unfold Mr Dj
  split <;> omega
theorem Q17:∀ l:List Pat,Vb l<=Xl l
 | []=>by simp [Vb,Xl]
 | p::l=>by
  have h1:=Q11 p;have h2:=Q17 l;simp only [Vb,Xl];omega
end
theorem Qj1{l:List Pat}{i:Nat}(a:i<l.length):Dj l[i]<=Xl l:=by
 induction l generalizing i with
 | nil=>cases a
 | cons p l ih=>
  simp only [Xl];cases i with
  | zero=>simp only [List.getElem_cons_zero];omega
  | succ i=>
   have:=ih (i:=i) (by simpa using a);simp only [List.getElem_cons_succ];omega
theorem Qg7(l:List Pat)(i:Nat):Xl (l.take i)<=Xl l:=by
 have:Xl l=Xl (l.take i)+Xl (l.drop i):=by rw [<-Rx,List.take_append_drop]
 omega
def Q5s(p:Pat):Prop:=∀(K:Nat->Prop) (w:World) (cs:List Value),Qu K w p cs->Dj p<=40 ->
 Calls Tryz.prog 120 #[.agg cs.toArray] w fun e w'=>e=.returned (.int .i64 (Mr p:Nat))/\Ext w w'
theorem Qi5(k:Int)(pl mi:Nat)(nt:Bool)(mn mx:Int)(l:List Pat)(d3:∀ p∈l,Q5s p):Q5s (.node k pl mi nt mn mx l):=by
 intro c0 v f2 c9 d2;unfold Qu at c9;obtain⟨J,K,rfl,e3,e2,c7,c5,c6⟩:=c9;have c8:l.length<=maxLen:=Nat.le_trans c7 c5;unfold maxLen at c8;have a7:Xl l<=39:=by unfold Dj at d2;omega
 have a9:Mr (.node k pl mi nt mn mx l)=(if k=5 then 1 else 0)+Vb l:=by rw [Mr]
 have c3:∀ b,Vb (l.take b)<=39:=fun b=>Nat.le_trans (Q17 _) (Nat.le_trans (Qg7 l b) a7);have d0:=fun b (C:b<l.length)=>Qdt C;have d1:=fun b (C:b<l.length)=>Nat.le_trans (Qj1 C) a7;obtain⟨c1,c2⟩:=zE (Mr (.node k pl mi nt mn mx l));rw [c2] at a9 ⊢;have a6:Vb (l.take l.length)=Vb l:=by rw [List.take_of_length_le (Nat.le_refl _)]
 obtain⟨d,M⟩:=zE l.length;rw [M] at a6;obtain⟨b3,b2,b9,b8,H,b5,b6,b4⟩:=Zh8 M c6 d3 a9 c3 d0 d1 a6;unfold Ql;rw [M] at c8 ⊢;clear c6 d3 M c7 c5 e3 e2 c2 a9 c3 d0 d1 a6 d2 a7;go_enter Tryz.func120,Tryz.ntmps120;obtain⟨P,x⟩:∃ c:Nat,(if k=5 then 1 else 0)=c:=⟨_,rfl⟩;have a8:=b8.out;rw [x] at a8;have f4:P<=1:=by rw [<-x];split <;> omega
 have I:=Zh a8;clear a8 b8;have c4:((k:Int) == 5)=decide (k=5):=by by_cases d8:k=5 <;> simp [d8]
 go_upto_region 2 with (fail)
 have g:(v.alloc (.cells #[.int .i64 k,.int .u32 (pl:Int),.int .u32 (mi:Int),.bool nt,.int .i64 mn,.int .i64 mx,.slice J d K] 47)).heap[v.heap.size]?=some (.cells #[.int .i64 k,.int .u32 (pl:Int),.int .u32 (mi:Int),.bool nt,.int .i64 mn,.int .i64 mx,.slice J d K] 47 (0,0)):=new_at rfl;have A:Ext v (v.alloc (.cells #[.int .i64 k,.int .u32 (pl:Int),.int .u32 (mi:Int),.bool nt,.int .i64 mn,.int .i64 mx,.slice J d K] 47)):=(Qa.refl _ v).alloc _;generalize (v.alloc (.cells #[.int .i64 k,.int .u32 (pl:Int),.int .u32 (mi:Int),.bool nt,.int .i64 mn,.int .i64 mx,.slice J d K] 47))=d4 at g A ⊢;generalize v.heap.size=b1 at g ⊢;have b7:=Zh g;have w:=zR g;clear g;by_cases L:k=5
 ·subst L;have a0:P=1:=by rw [<-x];rfl
  clear x c4;subst a0;go_wp2;clear w
  refine wp_loop (fun a q=>∃(b c:Nat),b<=d/\a.defers=[]/\gS a [1,3,4]=(24,[.pointer (some ⟨b1,0,none⟩),.int .i64 c,.int .i64 b])/\c=1+Vb (l.take b)/\Ext d4 q)
   (fun a _=>d - (intOf (a.tmps.getD 4 undef)).toNat) ?_ ?_
  ·exact⟨0,_,by omega,rfl,rfl,by simp [Vb],Qa.refl _ _⟩
  rintro⟨f0,_⟩ q ⟨b,c,C,a3,F,m,e⟩;subst a3;obtain⟨f1,rfl⟩:=Qo F;clear F;have g:=e.keep b7.out;have w:=zR g;have a1:=H.out b;by_cases a4:b<d
  ·have Y:(b:Int)<(d:Int):=by omega
   have d9:(0:Int)<=(b:Int):=by omega
   have i:b<l.length:=by rw [b3.out];exact a4
   obtain⟨d7,e6,Q,rfl,e0,e1,u,s⟩:=(b2.out.ext (A.trans e)).get b i;rw [Nat.zero_add] at u;obtain⟨e8,e7,r,_,_,_⟩:=Zv s;obtain⟨R,S,T,U,V,W,X⟩:=Jl u r;have f:=b9.out _ (List.getElem_mem i) c0 q Q s (by have:=b6.out b i;omega);have n:=b5.out b i;have a2:=H.out (b+1);obtain⟨o,G⟩:=zE (Mr l[b]);obtain⟨e9,E⟩:=zE (Vb (l.take b));obtain⟨b0,t⟩:=zE (Vb (l.take (b+1)));rw [G] at f n;rw [E] at n a1 m;rw [t] at n a2;rw [r] at f;unfold Ql at f;have e5:IntKind.i64.wrap ((c:Int)+(o:Int))=((c+o:Nat):Int):=by rw [IntWalk.i64_in _ oz];omega
   have D:c+o=1+b0:=by omega
   obtain⟨N,y,O⟩:=Zh3 D f t;have e4:c<=40:=by omega
   clear f u s r G g n E t m D;go_wp2_with fail;refine y.out.mono ?_;rintro d6 d5 ⟨rfl,B⟩;have Z:=e.trans B;clear e B R S T U V W X y w;go_wp2;exact⟨⟨b+1,c+o,by omega,tz,rfl,by rw [O.out];exact N.out,Z⟩,nz⟩
  ·obtain rfl:b=d:=by omega
   have Y:¬ (b:Int)<(b:Int):=by omega
   have a5:c=c1:=by rw [m,b4.out];exact I.out.symm
   subst a5;clear I m;go_wp2;go_ret;exact⟨rfl,A.trans e⟩
 ·have f3:((k:Int) == 5)=false:=by rw [beq_eq_false_iff_ne];exact L
  have a0:P=0:=by rw [<-x,if_neg L]
  clear x c4 L;subst a0;go_wp2;clear w
  refine wp_loop (fun a q=>∃(b c:Nat),b<=d/\a.defers=[]/\gS a [1,3,4]=(24,[.pointer (some ⟨b1,0,none⟩),.int .i64 c,.int .i64 b])/\c=0+Vb (l.take b)/\Ext d4 q)
   (fun a _=>d - (intOf (a.tmps.getD 4 undef)).toNat) ?_ ?_
  ·exact⟨0,_,by omega,rfl,rfl,by simp [Vb],Qa.refl _ _⟩
  rintro⟨f0,_⟩ q ⟨b,c,C,a3,F,m,e⟩;subst a3;obtain⟨f1,rfl⟩:=Qo F;clear F;have g:=e.keep b7.out;have w:=zR g;have a1:=H.out b;by_cases a4:b<d
  ·have Y:(b:Int)<(d:Int):=by omega
   have d9:(0:Int)<=(b:Int):=by omega
   have i:b<l.length:=by rw [b3.out];exact a4
   obtain⟨d7,e6,Q,rfl,e0,e1,u,s⟩:=(b2.out.ext (A.trans e)).get b i;rw [Nat.zero_add] at u;obtain⟨e8,e7,r,_,_,_⟩:=Zv s;obtain⟨R,S,T,U,V,W,X⟩:=Jl u r;have f:=b9.out _ (List.getElem_mem i) c0 q Q s (by have:=b6.out b i;omega);have n:=b5.out b i;have a2:=H.out (b+1);obtain⟨o,G⟩:=zE (Mr l[b]);obtain⟨e9,E⟩:=zE (Vb (l.take b));obtain⟨b0,t⟩:=zE (Vb (l.take (b+1)));rw [G] at f n;rw [E] at n a1 m;rw [t] at n a2;rw [r] at f;unfold Ql at f;have e5:IntKind.i64.wrap ((c:Int)+(o:Int))=((c+o:Nat):Int):=by rw [IntWalk.i64_in _ oz];omega
   have D:c+o=0+b0:=by omega
   obtain⟨N,y,O⟩:=Zh3 D f t;have e4:c<=40:=by omega
   clear f u s r G g n E t m D;go_wp2_with fail;refine y.out.mono ?_;rintro d6 d5 ⟨rfl,B⟩;have Z:=e.trans B;clear e B R S T U V W X y w;go_wp2;exact⟨⟨b+1,c+o,by omega,tz,rfl,by rw [O.out];exact N.out,Z⟩,nz⟩
  ·obtain rfl:b=d:=by omega
   have Y:¬ (b:Int)<(b:Int):=by omega
   have a5:c=c1:=by rw [m,b4.out];exact I.out.symm
   subst a5;clear I m;go_wp2;go_ret;exact⟨rfl,A.trans e⟩
mutual
theorem Q3d:∀ p:Pat,Q5s p
 | .node k pl mi nt mn mx l=>Qi5 k pl mi nt mn mx l (Q7v l)
theorem Q7v:∀ l:List Pat,∀ p∈l,Q5s p
 | [],_,h=>by cases h
 | q::l,p,h=>(List.mem_cons.1 h).elim (fun e=>e ▸ Q3d q) (fun h=>Q7v l p h)
end
theorem Dt{w:World}{g off:Nat}{cs:List Value}(h:w.rangeAt g off cs)(a n:Nat):w.rangeAt g (off+a) ((cs.drop a).take n):=fun j u hu=>by
 rw [List.getElem?_take] at hu
 split at hu
 ·rw [List.getElem?_drop] at hu;have:=h (a+j) u hu;rw [Nat.add_assoc];exact this
 ·cases hu
def Qme(n:Nat)(lv:Value)(w:World)(a:Act)(W:World):Prop:=∃(i z:Nat),i<=n/\i<=301/\z<=80/\a.defers=[]/\gS a [0,3,4]=(46,[lv,.int .i64 z,.int .i64 i])/\Ext w W
def Qml(z i G:Nat)(lv:Value)(V2:World)(a:Act)(V:World):Prop:=∃(j z2:Nat),j<=2/\z2<=40*j/\a.defers=[]/\gS a [0,3,4,5,28,29,30]=(46,[lv,.int .i64 z,.int .i64 i,.int .i64 z2,.slice (some ⟨G,0,none⟩) 2 2,.int .i64 2,.int .i64 j])/\Ext V2 V
theorem Qhr{w:World}{ps:Zl}{lo:Option Addr}{n lc:Nat}(d4:Zk w (.slice lo n lc) ps) (d6:ps.length=n) :
  Calls Tryz.prog 80 #[.slice lo n lc] w fun e w'=>∃ z:Nat,z<=80/\e=.returned (.int .i64 (z:Int))/\Ext w w':=by
 have i5:n<=maxLen:=by rw [<-d6];exact d4.1.2.1
 unfold maxLen at i5;have c3:=Zh d4;have g1:=Zh d6;clear d4 d6;go_enter Tryz.func80,Tryz.ntmps80;go_wp2
 refine wp_loop (Qme n (.slice lo n lc) w)
  (fun a _=>((n:Int) - intOf (a.tmps.getD 4 undef)).toNat) ?_ ?_
 ·exact⟨0,0,by omega,by omega,by omega,rfl,rfl,Qa.refl _ _⟩
 rintro⟨i7,_⟩ Q ⟨i,z,j3,j4,f4,d3,c2,e6⟩;subst d3;obtain⟨O,rfl⟩:=Qo c2;clear c2;have b2:=Zh e6;clear e6;by_cases i3:i<n;case neg=>
  obtain rfl:i=n:=by omega
  have g9:¬ (i:Int)<(i:Int):=by omega
  clear c3;go_wp2;go_ret;exact⟨z,f4,rfl,b2.out⟩
 have g9:(i:Int)<(n:Int):=by omega
 have j1:(0:Int)<=(i:Int):=by omega
 by_cases j5:i<=300;case neg=>
  have i0:¬ (i:Int)<=300:=by omega
  clear c3;go_wp2;go_ret;exact⟨z,f4,rfl,b2.out⟩
 have i0:(i:Int)<=300:=by omega
 have i2:i<ps.length:=by rw [g1.out];exact i3
 obtain⟨g,off,j0,f1,j2,b8,d5,d1⟩:=(c3.out.ext b2.out).at i2;simp only [zV] at f1;obtain⟨rfl,f5,rfl⟩:=f1;obtain⟨x,f3⟩:=zE (ps[i]);rw [f3] at b8 d5 d1;obtain⟨k,cs⟩:=x;dsimp only at b8 d5 d1;clear f3 f5 d1 c3;obtain⟨k1,B,J,D,F,r,t,H,o,y,C,L,E,G,s,u,I,p,A,j9,i8,j8,k3,i9,k2,k0,rfl,f9,e0,e1,f8,g7,g6,g2,g3,g4,g5,g0,k4,k5,k6,k7,k8⟩:=Yf d5;have f0:Q.rangeAt g (off+i*18+1) [.int .i64 B,.int .u32 (J:Int),.int .u32 (D:Int),.bool F,.int .i64 r,.int .i64 t,.slice H o y]:=Dt b8 1 7;have f2:Q.rangeAt g (off+i*18+8) [.int .i64 C,.int .u32 (L:Int),.int .u32 (E:Int),.bool G,.int .i64 s,.int .i64 u,.slice I p A]:=Dt b8 8 7;have d9:=Zh f0;have e2:=Zh f2;clear f0 f2 b8 f8 g7 f9 g6 g4 g5 g0;go_upto_region 6 with (fail)
 have j:Ext Q Q.drew:=(Qa.refl _ Q).drew;refine Z7 (S:=fun c=>Ext Q c) [] kz j ?_;intro _;refine tE 0 18 j ?_;refine tE 1 19 j ?_;refine tE 2 20 j ?_;refine tE 3 21 j ?_;refine tkE (i:=4) (d:=22) (v:=?_) rfl (Or.inl ⟨by rfl,?_⟩) j ?_;rotate_left
 ·intro c a1;refine Wg (x:=.tmp 21) ?_ g (off+i*18+1) ?_ [.int .i64 B,.int .u32 (J:Int),.int .u32 (D:Int),.bool F,.int .i64 r,.int .i64 t,.slice H o y] _ (fun a8 O hu=>(show Ext Q c from a1).cell_some (d9.out a8 O hu) id) Tryz.underlying47 rfl kz <;> first | rfl | (simp;done)
 try simp only [Act.put,pq]
 refine tE 5 23 j ?_;refine tE 6 24 j ?_;refine tE 7 25 j ?_;refine tE 8 26 j ?_;refine tkE (i:=9) (d:=27) (v:=?_) rfl (Or.inl ⟨by rfl,?_⟩) j ?_;rotate_left
 ·intro c a1;refine Wg (x:=.tmp 26) ?_ g (off+i*18+8) ?_ [.int .i64 C,.int .u32 (L:Int),.int .u32 (E:Int),.bool G,.int .i64 s,.int .i64 u,.slice I p A] _ (fun a8 O hu=>(show Ext Q c from a1).cell_some (e2.out a8 O hu) id) Tryz.underlying47 rfl kz <;> first | rfl | (simp;done)
 try simp only [Act.put,pq]
 refine tE 12 30 j ?_;obtain⟨f,e9⟩:=zE Q.drew;rw [e9] at j ⊢;clear e9;refine rE [10] ?_;refine Qb.cons rfl (fun K hK=>?_) Qb.nil;refine iw rfl ?_;go_simp;obtain⟨c8,c6⟩:=zE (f.alloc (.cells #[.int .i64 B,.int .u32 (J:Int),.int .u32 (D:Int),.bool F,.int .i64 r,.int .i64 t,.slice H o y,.int .i64 C,.int .u32 (L:Int),.int .u32 (E:Int),.bool G,.int .i64 s,.int .i64 u,.slice I p A] 47));have d2:c8.heap[f.heap.size]?=some (.cells #[.int .i64 B,.int .u32 (J:Int),.int .u32 (D:Int),.bool F,.int .i64 r,.int .i64 t,.slice H o y,.int .i64 C,.int .u32 (L:Int),.int .u32 (E:Int),.bool G,.int .i64 s,.int .i64 u,.slice I p A] 47 (0,0)):=by rw [<-c6];exact new_at rfl
 have c5:Ext Q c8:=by rw [<-c6];exact j.alloc _
 rw [c6];obtain⟨M,e8⟩:=zE f.heap.size;rw [e8] at d2 ⊢;have c7:=Zh d2;clear c6 d2 e8 j;refine hK.out _ _ c5 (fun _=>?_);clear hK K;try simp only [Act.put,pq]
 refine tE 11 29 c5 ?_;refine Z1 kz ?_ _;have c4:=Zh c5;clear c5 d9 e2
 have f6:∀(c:World),c.heap[M]?=some (.cells #[.int .i64 B,.int .u32 (J:Int),.int .u32 (D:Int),.bool F,.int .i64 r,.int .i64 t,.slice H o y,.int .i64 C,.int .u32 (L:Int),.int .u32 (E:Int),.bool G,.int .i64 s,.int .i64 u,.slice I p A] 47 (0,0))->c.rangeAt M 0 [.int .i64 B,.int .u32 (J:Int),.int .u32 (D:Int),.bool F,.int .i64 r,.int .i64 t,.slice H o y]:=fun c h=>by
  have:=Dt (w:=c) (g:=M) (off:=0) (cs:=[.int .i64 B,.int .u32 (J:Int),.int .u32 (D:Int),.bool F,.int .i64 r,.int .i64 t,.slice H o y,.int .i64 C,.int .u32 (L:Int),.int .u32 (E:Int),.bool G,.int .i64 s,.int .i64 u,.slice I p A]) (fun q O hu=>by have:=cell_of_row _ _ q _ _ _ h;rw [Nat.zero_add,this];simpa using hu) 0 7;exact this
 have f7:∀(c:World),c.heap[M]?=some (.cells #[.int .i64 B,.int .u32 (J:Int),.int .u32 (D:Int),.bool F,.int .i64 r,.int .i64 t,.slice H o y,.int .i64 C,.int .u32 (L:Int),.int .u32 (E:Int),.bool G,.int .i64 s,.int .i64 u,.slice I p A] 47 (0,0))->c.rangeAt M 7 [.int .i64 C,.int .u32 (L:Int),.int .u32 (E:Int),.bool G,.int .i64 s,.int .i64 u,.slice I p A]:=fun c h=>by
  have:=Dt (w:=c) (g:=M) (off:=0) (cs:=[.int .i64 B,.int .u32 (J:Int),.int .u32 (D:Int),.bool F,.int .i64 r,.int .i64 t,.slice H o y,.int .i64 C,.int .u32 (L:Int),.int .u32 (E:Int),.bool G,.int .i64 s,.int .i64 u,.slice I p A]) (fun q O hu=>by have:=cell_of_row _ _ q _ _ _ h;rw [Nat.zero_add,this];simpa using hu) 7 7;exact this
 have e3:=Zh f6;have e4:=Zh f7;clear f6 f7;go_wp2
 refine wp_loop (Qml z i M (.slice (some ⟨g,off,none⟩) n lc) c8)
  (fun a _=>(2 - intOf (a.tmps.getD 30 undef)).toNat) ?_ ?_
 ·exact⟨0,0,by omega,by omega,rfl,rfl,Qa.refl _ _⟩
 rintro⟨i7,_⟩ f ⟨a8,m,j6,j7,d3,c2,e7⟩;subst d3;obtain⟨O,rfl⟩:=Qo c2;clear c2;have P:=Zh e7;clear e7;rcases(by omega:a8=0\/a8=1\/a8=2) with rfl | rfl | rfl
 ·have e5:(0:Int)<2:=by decide
  have b6:=e0.out.ext (c4.out.trans P.out);have b7:f.rangeAt M 0 [.int .i64 B,.int .u32 (J:Int),.int .u32 (D:Int),.bool F,.int .i64 r,.int .i64 t,.slice H o y]:=fun q O hu=>(P.out).cell_some (e3.out _ c7.out q O hu) id;obtain⟨Y,T⟩:=zE (f.alloc (.cells #[.int .i64 B,.int .u32 (J:Int),.int .u32 (D:Int),.bool F,.int .i64 r,.int .i64 t,.slice H o y] 47));have a0:Y.heap[f.heap.size]?=some (.cells #[.int .i64 B,.int .u32 (J:Int),.int .u32 (D:Int),.bool F,.int .i64 r,.int .i64 t,.slice H o y] 47 (0,0)):=by rw [<-T];exact new_at rfl
  have a2:Ext f Y:=by rw [<-T];exact(Qa.refl _ f).alloc _
  obtain⟨b1,Z⟩:=zE f.heap.size;rw [Z] at a0;have a4:=b6.ext a2;have a6:=Lv a4;have c1:=Rc k.left;have l:=fun(c:World) (a1:Ext Y c) (h:Dj k.left<=40)=>Q3d k.left _ c _ (a4.ext a1) h;have b9:=Q11 k.left;obtain⟨d8,a7⟩:=zE (Dj k.left);obtain⟨a9,a5⟩:=zE (Mr k.left);obtain⟨b0,c0⟩:=zE (Fz k.left);rw [c0] at a6 c1;rw [a7] at c1 b9;simp only [a7,a5] at l;rw [a5] at b9;obtain⟨U,R,b4,X⟩:=Zh4 a0 a2 a6 l;clear a0 a2 a6 l b6 a4 a7 a5 c0;go_upto_region 9 with ((refine Ul (by rfl) 47 (.tmp 32) rfl M 0 zr _ _ b7 Tryz.underlying47 rfl kz ?_))
  try rw [T]
  try rw [Z]
  clear T Z b7;try simp only [Act.put]
  go_wp2_with (refine wpList_load_row rfl 47 (.tmp 7) rfl b1 rfl _ _ _ _ U.out Tryz.underlying47 rfl kz ?_)
  refine b4.out.mono ?_;rintro e c9 ⟨rfl,a3⟩;have V:=Zh (a3.keep U.out);have N:=Zh a3;clear a3 b4 U;by_cases i1:b0<=40
  ·have d0:(b0:Int)<=40:=by omega
   have d7:d8<=40:=by omega
   have l:=X.out c9 N.out d7;have b3:=Zh l;clear l X
   go_wp2_with (refine wpList_load_row rfl 47 (.tmp 7) rfl b1 rfl _ _ _ _ V.out Tryz.underlying47 rfl kz ?_)
   refine b3.out.mono ?_;rintro e g8 ⟨rfl,b5⟩;have W:=Zh (P.out.trans (R.out.trans (N.out.trans b5)));have i6:IntKind.i64.wrap ((m:Int)+(a9:Int))=((m+a9:Nat):Int):=by rw [IntWalk.i64_in _ oz];omega
   clear b5 b3 V N R;go_wp2;exact⟨⟨1,m+a9,by omega,by omega,tz,rfl,W.out⟩,mz⟩
  ·have d0:¬ (b0:Int)<=40:=by omega
   have W:=Zh (P.out.trans (R.out.trans N.out));clear X V N R;go_wp2;exact⟨⟨1,m,by omega,by omega,tz,rfl,W.out⟩,mz⟩
 ·have e5:(1:Int)<2:=by decide
  have b6:=e1.out.ext (c4.out.trans P.out);have b7:f.rangeAt M 7 [.int .i64 C,.int .u32 (L:Int),.int .u32 (E:Int),.bool G,.int .i64 s,.int .i64 u,.slice I p A]:=fun q O hu=>(P.out).cell_some (e4.out _ c7.out q O hu) id;obtain⟨Y,T⟩:=zE (f.alloc (.cells #[.int .i64 C,.int .u32 (L:Int),.int .u32 (E:Int),.bool G,.int .i64 s,.int .i64 u,.slice I p A] 47));have a0:Y.heap[f.heap.size]?=some (.cells #[.int .i64 C,.int .u32 (L:Int),.int .u32 (E:Int),.bool G,.int .i64 s,.int .i64 u,.slice I p A] 47 (0,0)):=by rw [<-T];exact new_at rfl
  have a2:Ext f Y:=by rw [<-T];exact(Qa.refl _ f).alloc _
  obtain⟨b1,Z⟩:=zE f.heap.size;rw [Z] at a0;have a4:=b6.ext a2;have a6:=Lv a4;have c1:=Rc k.right;have l:=fun(c:World) (a1:Ext Y c) (h:Dj k.right<=40)=>Q3d k.right _ c _ (a4.ext a1) h;have b9:=Q11 k.right;obtain⟨d8,a7⟩:=zE (Dj k.right);obtain⟨a9,a5⟩:=zE (Mr k.right);obtain⟨b0,c0⟩:=zE (Fz k.right);rw [c0] at a6 c1;rw [a7] at c1 b9;simp only [a7,a5] at l;rw [a5] at b9;obtain⟨U,R,b4,X⟩:=Zh4 a0 a2 a6 l;clear a0 a2 a6 l b6 a4 a7 a5 c0;go_upto_region 9 with ((refine Ul (by rfl) 47 (.tmp 32) rfl M 7 zr _ _ b7 Tryz.underlying47 rfl kz ?_))
  try rw [T]
  try rw [Z]
  clear T Z b7;try simp only [Act.put]
  go_wp2_with (refine wpList_load_row rfl 47 (.tmp 7) rfl b1 rfl _ _ _ _ U.out Tryz.underlying47 rfl kz ?_)
  refine b4.out.mono ?_;rintro e c9 ⟨rfl,a3⟩;have V:=Zh (a3.keep U.out);have N:=Zh a3;clear a3 b4 U;by_cases i1:b0<=40
  ·have d0:(b0:Int)<=40:=by omega
   have d7:d8<=40:=by omega
   have l:=X.out c9 N.out d7;have b3:=Zh l;clear l X
   go_wp2_with (refine wpList_load_row rfl 47 (.tmp 7) rfl b1 rfl _ _ _ _ V.out Tryz.underlying47 rfl kz ?_)
   refine b3.out.mono ?_;rintro e g8 ⟨rfl,b5⟩;have W:=Zh (P.out.trans (R.out.trans (N.out.trans b5)));have i6:IntKind.i64.wrap ((m:Int)+(a9:Int))=((m+a9:Nat):Int):=by rw [IntWalk.i64_in _ oz];omega
   clear b5 b3 V N R;go_wp2;exact⟨⟨2,m+a9,by omega,by omega,tz,rfl,W.out⟩,mz⟩
  ·have d0:¬ (b0:Int)<=40:=by omega
   have W:=Zh (P.out.trans (R.out.trans N.out));clear X V N R;go_wp2;exact⟨⟨2,m,by omega,by omega,tz,rfl,W.out⟩,mz⟩
 ·have e5:¬ (2:Int)<2:=by decide
  clear e3 e4 c7 e0 e1 g2 g3;by_cases f5:(z:Int)<(m:Int)
  ·have i4:max (z:Int) (m:Int)=(m:Int):=by omega
   go_wp2;exact⟨⟨i+1,m,by omega,by omega,by omega,tz,rfl,b2.out.trans (c4.out.trans P.out)⟩,mz⟩
  ·have i4:max (z:Int) (m:Int)=(z:Int):=by omega
   go_wp2;exact⟨⟨i+1,z,by omega,by omega,by omega,tz,rfl,b2.out.trans (c4.out.trans P.out)⟩,mz⟩
theorem Fd{P:Program}(w:World)(c:Array TypeId)(t:TypeId)(k b:IntKind)(x y:Int):(Builtin.min_ c t #[.int k x,.int b y]).run P w=.ok (.int k (min x y)) w:=by
 have a:(if y<x then y else x)=min x y:=by
  rw [Int.min_def]
  split <;> split <;> omega
 simp [Builtin.min_,Builtin.min2,a]
attribute [local go_sem high] Fd
def Qm9(w:World)(e:Ending)(w':World):Prop:=∃ b:Bool,e=.returned (.bool b)/\Ext w w'
def Qmo(_n M:Nat)(lv sv:Value)(w:World)(a:Act)(W:World):Prop:=∃(i:Nat) (z:Int),i<=M/\-2*(i:Int)<=z/\z<=82*(i:Int)/\a.defers=[]/\gS a [0,3,10,11,12]=(60,[lv,.int .i64 z,sv,.int .i64 M,.int .i64 i])/\Ext w W
theorem Q0k{w:World}{ps:Zl}{lo:Option Addr}{n lc:Nat}(Y:Zk w (.slice lo n lc) ps) (a0:ps.length=n) (k3:n<=lc) :
  Calls Tryz.prog 38 #[.slice lo n lc] w (Qm9 w):=by
 have i0:n<=maxLen:=by rw [<-a0];exact Y.1.2.1
 unfold maxLen at i0;have d9:=fun(d1:World) (W:Ext w d1)=>Qhr (Y.ext W) a0 (lc:=lc);obtain⟨a9,f1,b0⟩:=Zh3 Y a0 d9;clear Y a0 d9;obtain⟨e,g5⟩:=zE (min n 71);have j7:e<=n:=by omega
 have g9:min (n:Int) 71=(e:Int):=by omega
 have j6:e<=71:=by omega
 go_enter Tryz.func38,Tryz.ntmps38;go_wp2;refine wp_loop (Qmo n e (.slice lo n lc) (.slice lo e lc) w) (fun a _=>((e:Int) - intOf (a.tmps.getD 12 undef)).toNat) ?_ ?_
 ·exact⟨0,0,by omega,by omega,by omega,rfl,(Prod.ext rfl (lE rfl (lE rfl (lE zy rfl)))),Qa.refl _ _⟩
 clear g5 g9;rintro⟨l5,_⟩ l ⟨i,b8,k1,k7,k8,g7,e4,W⟩;subst g7;obtain⟨R,rfl⟩:=Qo e4;clear e4;have k:=Zh W;clear W;by_cases k2:i<e;case pos=>
  have g4:(i:Int)<(e:Int):=by omega
  have j5:(0:Int)<=(i:Int):=by omega
  have g8:i<ps.length:=by rw [f1.out];omega
  obtain⟨g3,j0,j3,d8,k0,a1,Z,b1⟩:=(a9.out.ext k.out).at g8;simp only [zV] at d8;obtain⟨rfl,i9,rfl⟩:=d8;obtain⟨x,e5⟩:=zE (ps[i]);rw [e5] at a1 Z b1;obtain⟨a7,j4⟩:=x;dsimp only at a1 Z b1;clear e5 i9 b1 a9 b0;obtain⟨Q,B,J,D,F,r,t,H,o,y,C,L,E,G,s,u,I,p,z,a3,M,a2,a6,N,a5,a4,rfl,e9,c5,c6,e8,f7,f6,f2,f3,f4,f5,f0,l0,l1,l2,l3,l4⟩:=Yf Z;have A:(l.alloc (.cells #[.string Q,.int .i64 B,.int .u32 (J:Int),.int .u32 (D:Int),.bool F,.int .i64 r,.int .i64 t,.slice H o y,.int .i64 C,.int .u32 (L:Int),.int .u32 (E:Int),.bool G,.int .i64 s,.int .i64 u,.slice I p z,.slice a3 M a2,.slice a6 N a5,.int .i64 a4] 50)).rangeAt l.heap.size 0 #[.string Q,.int .i64 B,.int .u32 (J:Int),.int .u32 (D:Int),.bool F,.int .i64 r,.int .i64 t,.slice H o y,.int .i64 C,.int .u32 (L:Int),.int .u32 (E:Int),.bool G,.int .i64 s,.int .i64 u,.slice I p z,.slice a3 M a2,.slice a6 N a5,.int .i64 a4].toList:=fun j R hu=>by rw [Nat.zero_add];rw [cell_of_row _ _ _ _ _ _ (new_at rfl),<-Array.getElem?_toList];exact hu
  have O:Ext l (l.alloc (.cells #[.string Q,.int .i64 B,.int .u32 (J:Int),.int .u32 (D:Int),.bool F,.int .i64 r,.int .i64 t,.slice H o y,.int .i64 C,.int .u32 (L:Int),.int .u32 (E:Int),.bool G,.int .i64 s,.int .i64 u,.slice I p z,.slice a3 M a2,.slice a6 N a5,.int .i64 a4] 50)):=(Qa.refl _ l).alloc _;obtain⟨c,b2⟩:=zE (l.alloc (.cells #[.string Q,.int .i64 B,.int .u32 (J:Int),.int .u32 (D:Int),.bool F,.int .i64 r,.int .i64 t,.slice H o y,.int .i64 C,.int .u32 (L:Int),.int .u32 (E:Int),.bool G,.int .i64 s,.int .i64 u,.slice I p z,.slice a3 M a2,.slice a6 N a5,.int .i64 a4] 50));rw [b2] at A O;obtain⟨V,b3⟩:=zE l.heap.size;rw [b3] at A;have d7:c.rangeAt V 1 [.int .i64 B,.int .u32 (J:Int),.int .u32 (D:Int),.bool F,.int .i64 r,.int .i64 t,.slice H o y]:=Dt A 1 7;have e1:c.rangeAt V 8 [.int .i64 C,.int .u32 (L:Int),.int .u32 (E:Int),.bool G,.int .i64 s,.int .i64 u,.slice I p z]:=Dt A 8 7;have b4:=fun(b:World) (m:Ext c b)=>Lv (c5.out.ext (O.trans m));have b5:=fun(b:World) (m:Ext c b)=>Lv (c6.out.ext (O.trans m));have e2:Fz a7.left<=41:=by rw [Rc];omega
  have e3:Fz a7.right<=41:=by rw [Rc];omega
  obtain⟨e6,d3⟩:=zE (Fz a7.left);obtain⟨e7,d4⟩:=zE (Fz a7.right);simp only [d3] at b4 e2;simp only [d4] at b5 e3;obtain⟨b6,i4⟩:=zE (e6+e7);obtain⟨b7,i5⟩:∃ q:Int,(b6:Int) - 2=q:=⟨_,rfl⟩;obtain⟨a8,i6⟩:∃ q:Int,b8+b7=q:=⟨_,rfl⟩;have i1:IntKind.i64.wrap ((e6:Int)+(e7:Int))=(b6:Int):=by rw [IntWalk.i64_in _ oz];omega
  have i2:IntKind.i64.wrap ((b6:Int) - 2)=b7:=by rw [IntWalk.i64_in _ oz];omega
  have i3:IntKind.i64.wrap (b8+b7)=a8:=by rw [IntWalk.i64_in _ oz];omega
  have i7:-2*((i:Int)+1)<=a8:=by omega
  have i8:a8<=82*((i:Int)+1):=by omega
  have k4:IntKind.i64.wrap ((i:Int)+1)=(i:Int)+1:=IntWalk.i64_in _ oz;obtain⟨c4,c7,b9,c0,T,c1,c9,c3⟩:=Zh8 d7 e1 b4 b5 A O b2 a1;have d0:=Zh b3;clear d7 e1 a1 b4 b5 A O b2 b3 d3 d4 i4 i5 i6 e8 f7 e9 f6 f2 f3 f4 f5 f0 c5 c6 Z e2 e3;go_upto_region 5 with (refine Ul (by rfl) 50 (.tmp 14) rfl g3 (j0+i*18) zr _ _ c3.out Tryz.underlying50 rfl kz ?_)
  rw [c9.out,d0.out];clear c9 d0 c3;have f:Ext c c.drew:=(Qa.refl _ c).drew;refine Z7 (S:=fun b=>Ext c b) [] kz f ?_;intro _;obtain⟨d1,d6⟩:=zE c.drew;rw [d6] at f ⊢;clear d6;refine tE 0 16 f ?_;refine tE 1 17 f ?_;refine tkE (i:=2) (d:=18) (v:=?_) rfl (Or.inl ⟨by rfl,?_⟩) f ?_;rotate_left
  ·intro b m;refine Wg (x:=.tmp 17) ?_ V 1 ?_ [.int .i64 B,.int .u32 (J:Int),.int .u32 (D:Int),.bool F,.int .i64 r,.int .i64 t,.slice H o y] _ (fun j R hu=>(show Ext c b from m).cell_some (c4.out j R hu) id) Tryz.underlying47 rfl kz <;> first | rfl | (simp;done)
  try simp only [Act.put,pq]
  refine tE 4 20 f ?_;refine tkE (i:=5) (d:=21) (v:=?_) rfl (Or.inl ⟨by rfl,?_⟩) f ?_;rotate_left
  ·intro b m;refine Wg (x:=.tmp 20) ?_ V 8 ?_ [.int .i64 C,.int .u32 (L:Int),.int .u32 (E:Int),.bool G,.int .i64 s,.int .i64 u,.slice I p z] _ (fun j R hu=>(show Ext c b from m).cell_some (c7.out j R hu) id) Tryz.underlying47 rfl kz <;> first | rfl | (simp;done)
  try simp only [Act.put,pq]
  refine rE [3] ?_;refine Qb.cons rfl (fun K hK=>?_) Qb.nil;refine iw rfl ?_;go_simp;refine(b9.out _ f).mono ?_;rintro d2 f8 ⟨rfl,P⟩;have X:Ext c f8:=f.trans P;clear P f;refine hK _ _ X (fun _=>?_);clear hK K;try simp only [Act.put,pq]
  refine rE [6] ?_;refine Qb.cons rfl (fun K hK=>?_) Qb.nil;refine iw rfl ?_;go_simp;refine(c0.out _ X).mono ?_;rintro d2 f9 ⟨rfl,d5⟩;have g:Ext c f9:=X.trans d5;clear d5 X;refine hK _ _ g (fun _=>?_);clear hK K;try simp only [Act.put,pq]
  refine tE 7 23 g ?_;refine tE 8 24 g ?_;refine tE 9 25 g ?_;refine tE 10 3 g ?_;refine Z1 kz ?_ _;have U:=Zh (c1.out.trans g);have g0:=g.cell_some (T.out 0 _ rfl) id;have g1:=g.cell_some (T.out 15 _ rfl) id;have g2:=g.cell_some (T.out 16 _ rfl) id;try simp only [Nat.zero_add,Nat.add_zero] at g0 g1 g2
  clear g b9 c0 c4 c7 c1 T i1 i2 i3;by_cases g6:(Q.size:Int) > 1000
  ·go_wp2;go_ret;exact⟨false,rfl,k.out.trans U.out⟩
  by_cases j8:(M:Int) > 50
  ·go_wp2;go_ret;exact⟨false,rfl,k.out.trans U.out⟩
  by_cases j9:(N:Int) > 50
  ·go_wp2;go_ret;exact⟨false,rfl,k.out.trans U.out⟩
  go_wp2;exact⟨⟨i+1,a8,by omega,by push_cast;exact i7,by push_cast;exact i8,tz,rfl,k.out.trans U.out⟩,mz⟩
 have g4:¬ (i:Int)<(e:Int):=by omega
 clear a9;by_cases g6:(n:Int)<=70;case neg=>
  go_wp2;go_ret;exact⟨false,rfl,k.out⟩
 by_cases k9:b8<=60;case neg=>
  go_wp2;go_ret;exact⟨_,rfl,k.out⟩
 have e0:=b0.out l k.out;have c8:=Zh e0;clear e0 b0;go_wp2_with fail;refine c8.out.mono ?_;rintro d2 j2 ⟨j1,k5,rfl,P⟩;have c2:=Zh (k.out.trans P);clear P c8;by_cases k6:(j1:Int)<=4
 ·go_wp2;go_ret;exact⟨_,rfl,c2.out⟩
 ·go_wp2;go_ret;exact⟨_,rfl,c2.out⟩
theorem Qbr{w:World}{ao:Option Addr}{N cap:Nat}{l:Wd}(x:Qd w (.slice ao N cap) l) (u:l.length=N) (s:Nat × Nat) :
  Calls Tryz.prog 100 #[.slice ao N cap,sV s] w fun e w'=>∃ z:Int,e=.returned (.int .i64 z)/\(0<=z↔s∈l)/\Ext w w':=by
 have K:=x.1.2.1;rw [u] at K;unfold maxLen at K;have Q:=Zh x;have r:=Zh u;clear x u;obtain⟨c,g⟩:=s;unfold sV;go_enter Tryz.func100,Tryz.ntmps100;obtain⟨i,F⟩:=zE w.heap.size;have A:(w.alloc (.cells #[.int .u32 c,.int .u32 g] 26)).heap[i]?=some (.cells #[.int .u32 c,.int .u32 g] 26 (0,0)):=new_at F.symm;have t:Ext w (w.alloc (.cells #[.int .u32 c,.int .u32 g] 26)):=(Qa.refl _ w).alloc _;go_wp2;generalize (w.alloc (.cells #[.int .u32 c,.int .u32 g] 26))=a1 at A t ⊢;have T:=Zh A;have q:=Zh t;clear A t F
 refine wp_loop (fun a d=>∃(b:Nat),b<=N/\a.defers=[]/\gS a [0,3,7,8]=(19,[.slice ao N cap,.pointer (some ⟨i,0,none⟩),.int .i64 N,.int .i64 b])/\(c,g) ∉ l.take b/\Ext a1 d)
  (fun a _=>N - (intOf (a.tmps.getD 8 undef)).toNat) ?_ ?_
 ·exact⟨0,by omega,rfl,rfl,by simp,Qa.refl _ _⟩
 rintro⟨a9,_⟩ d ⟨b,a7,Z,M,f,G⟩;subst Z;obtain⟨b0,rfl⟩:=Qo M;clear M;have D:=Zh f;have k:=Zh G;clear f G;have v:=k.out.keep T.out;have U:d.cell? ⟨i,0,none⟩=some (.int .u32 c):=by rw [cell_of_row d i 0 _ _ _ v];rfl
 have V:d.cell? ⟨i,1,none⟩=some (.int .u32 g):=by rw [cell_of_row d i 1 _ _ _ v];rfl
 clear v;by_cases a0:b<N;case neg=>
  obtain rfl:b=N:=by omega
  have X:¬ (b:Int)<(b:Int):=by omega
  have f:=D.out;rw [List.take_of_length_le (by rw [r.out];exact Nat.le_refl _)] at f;have m:=Zh f;clear f U V;go_wp2;go_ret;exact⟨-1,rfl,⟨fun j=>by omega,fun j=>absurd j m.out⟩,q.out.trans k.out⟩
 have X:(b:Int)<(N:Int):=by omega
 have W:(0:Int)<=(b:Int):=by omega
 have o:b<l.length:=by rw [r.out];exact a0
 have H:=((Q.out.ext q.out).ext k.out).at o;rw [r.out] at H;obtain⟨a3,a8,a2,L,a6,I,J⟩:=H;simp only [zV,true_and] at L;obtain⟨rfl,rfl⟩:=L;rw [List.getD_eq_getElem?_getD,List.getElem?_eq_getElem o,Option.getD_some] at I J;have B:l.take (b+1)=l.take b++[l[b]]:=List.take_succ_eq_append_getElem o;have y:l[b]∈l:=List.getElem_mem o;obtain⟨C,O⟩:=zE (l[b]);rw [O] at I J B y;clear O;obtain⟨p,P⟩:=C;have E:=Zh B;have S:=Zh y;clear B y;by_cases n:c=p/\g=P
 ·obtain⟨rfl,rfl⟩:=n;have R:=S;clear E;go_wp2
  go_quiet (fail)
  go_wp2;go_ret;exact⟨b,rfl,⟨fun _=>R.out,fun _=>W⟩,q.out.trans (k.out.trans ((Qa.refl _ d).drewN _))⟩
 ·have f:(c,g) ∉ l.take (b+1):=by
   rw [E.out,List.mem_append,List.mem_singleton];rintro(j | j)
   ·exact D.out j
   ·simp only [Prod.mk.injEq] at j;exact n j
  have m:=Zh f;clear f;by_cases a4:(c:Int)=(p:Int)
  ·have a5:((g:Int) ==(P:Int))=false:=by simp;omega
   have Y:((c:Int) ==(p:Int))=true:=by simp;omega
   clear n;go_wp2
   go_quiet (fail)
   go_wp2;exact⟨⟨b+1,by omega,by first | trivial | rfl,rfl,m.out,k.out.trans ((Qa.refl _ d).drewN _)⟩,nz⟩
  ·have Y:((c:Int) ==(p:Int))=false:=by simp;omega
   clear n;go_wp2
   go_quiet (fail)
   go_wp2;exact⟨⟨b+1,by omega,by first | trivial | rfl,rfl,m.out,k.out.trans ((Qa.refl _ d).drewN _)⟩,nz⟩
theorem Mt{w:World}{ao:Option Addr}{N cap:Nat}{l:Wd}(f:Qd w (.slice ao N cap) l) (n:l.length=N) (s:Nat × Nat) :
  Calls Tryz.prog 52 #[.slice ao N cap,sV s] w fun e w'=>e=.returned (.bool (decide (s∈l)))/\Ext w w':=by
 obtain⟨i,j⟩:=s;have b:Ext w (w.alloc (.cells #[.int .u32 i,.int .u32 j] 26)):=(Qa.refl _ w).alloc _;have a:=Zh (Qbr (f.ext b) n (i,j));have c:=Zh b;clear f b;unfold sV at a ⊢;go_enter Tryz.func52,Tryz.ntmps52;go_wp2_with fail;refine a.out.mono ?_;rintro e p ⟨o,rfl,g,d⟩;have m:=Zh g;have k:=Zh (c.out.trans d);clear a g d c;go_wp2;go_ret;refine⟨?_,k.out⟩;show Ending.returned (.bool (decide (0<=o)))=_;rw [decide_eq_decide.2 m.out]
abbrev Qm7:Nat->(Nat->Prop)->Int->World->Array Value->Prop:=fun _ _ x _ ys=>ys=#[.int .i64 x]
theorem Q91{w:World}{gf:Nat}{lb:Array Value}(Y:∀ args w,(callFunc gf args).run Tryz.prog w=.ok (.enter gf args) w) {M:Nat->Nat->Prop} {xs:List Int} (a0:∀ w1,Ext w w1->Md Tryz.prog gf lb M Qm7 xs (fun b=>b<w.heap.size) w1) (d1:xs.length<=1000) :
  Calls Tryz.prog 117 #[.slice none 0 0,.func (.func gf) #[] lb] w fun e w'=>∃ u,e=.returned u/\w'.ownsRow w.heap.size 3 1 u xs.length (Zd xs)/\Ext w w':=by
 refine Xb Tryz.func117 rfl ?_;simp only [Tryz.ntmps117,zS,Nat.reduceAdd,Nat.reduceSub];have a8:=Zh a0;have a5:=Zh Y;clear a0 Y;go_wp2;obtain⟨c,B⟩:=zE w.heap.size;have H:(w.alloc (.cells #[.slice none 0 0] 36)).heap[c]?=some (.cells #[.slice none 0 0] 36 (0,0)):=new_at B.symm;have C:Ext w (w.alloc (.cells #[.slice none 0 0] 36)):=(Qa.refl _ w).alloc _;have b8:(w.alloc (.cells #[.slice none 0 0] 36)).heap.size=c+1:=by rw [<-B];simp
 generalize (w.alloc (.cells #[.slice none 0 0] 36))=w1 at H C b8 ⊢;have L:=a8.out w1 C;rw [B] at L ⊢;have z:=Zh B;clear B
 refine Rg (xs:=xs) (K:=fun b=>b<c) rfl a5.out L (fun b a=>by omega) (fun _ _ x A y a=>by rw [a];rfl) (fun _ _ x A D y a _ _=>a)
  (fun k f g=>∃ u,g.heap[c]?=some (.cells #[u] 36 (0,0))/\g.ownsRow c 3 1 u f.length (Zd f)/\(∀ d,u.ownBlock=some d->d≠c/\d≠c+1/\d≠c+2/\¬ k d)/\Ext w g)
  (fun _ _ _ _=>False) ?hI ?hIx ?h0 (fun y t=>(t.setIfInBounds 7 (y.getD 0 undef)).setIfInBounds 5 (y.getD 0 undef)) ?assign ?body ?done ?stop
 case hI=>
  rintro k c1 f b0 b1 ⟨u,j,i,n,v⟩ r b9 b5;have s:Qa (fun b=>k b\/b=c+2) b0 b1:=b9.mono (fun b _ a=>a.elim (fun q=>.inl q.1) (fun q=>.inr oz));refine⟨u,s.heap j (fun a=>?_),Qs i s (fun b hb e=>?_),fun d p=>?_,v.after s (fun b' h1 h2=>?_)⟩
  ·rcases a with a | a
   ·have:=(r _ a).1;omega
   ·omega
  ·have:=n b hb;exact e.elim this.2.2.2 (fun q=>this.2.2.1 q)
  ·obtain⟨a2,a3,a4,O⟩:=n d p;exact⟨a2,a3,a4,fun a=>by rcases(b5 d a).1 with a | a;exact O a;have:=(i.lt _ p).2;omega⟩
  ·have:=z.out;rcases h2 with a | a
   ·have:=(r _ a).1;omega
   ·omega
 case hIx=>exact fun _ _ _ _ _ _ a _ _ _=>a
 case h0=>
  intro g X _;exact⟨.slice none 0 0,X.keep H,World.ownsRow_nil _ _ _ _,(fun d p=>by cases p),Qa.trans C X⟩
 case assign=>
  rintro _ _ G y g c0 rfl b4;gi_wp2;exact b4
 case body=>
  rintro k f G d4 y g N d3 r s ⟨u,j,i,n,v⟩ rfl;simp only [pq];have d2:f.length<1000:=by
   have:=congrArg List.length N;simp at this;omega
  have Q:=cell_of_one j;have b2:=free_of_one j;have c9:c<g.heap.size:=(Array.getElem?_eq_some_iff.1 j).1;have d0:=Zh N;have P:=Zh r;clear N r;refine wpIn_block ?_;refine Wv kz (by rintro⟨_,_,a⟩;exact a) ?_;have a9:=Zh j;clear j
  go_wp2_with (at_builtin;refine Ze rfl (.tmp 8) (.tmp 10) 36 rfl c 3 _ 1 8 Tryz.underlying36 Tryz.infoI rfl zd _ _ _ rfl (Qe i ((Qa.refl _ g).alloc _)) ⟨g.heap.size,0,none⟩ 1 1 [.int .i64 G] rfl rfl (Zf rfl) ?c2 ?c3 ?c4 ?c5 ?_)
  case c2=>first | rfl | (intro u a1;simp at a1;rcases a1 with rfl;rfl)
  case c3=>unfold maxLen;omega
  case c4=>omega
  case c5=>simp;omega
  intro l m o V W R;have E:Qa (fun b'=>u.ownBlock=some b') g o:=Qa.trans (Qa.alloc (Qa.refl _ g) _) W;have I:=E.heap a9.out (fun e=>(n _ e).1 rfl);have S:Ext w o:=Qa.after v E (fun b' h1 e=>by have:=(i.lt _ e).1;have:=z.out;omega);have J:∀ d,(Value.slice l (f.length+1) m).ownBlock=some d->d≠c/\d≠c+1/\d≠c+2/\¬ k d:=by
   intro d p;rcases R with e | e
   ·exact n d (e ▸ p)
   ·rw [p] at e;cases e;exact⟨by first | omega | (simp;omega),by first | omega | (simp;omega),by first | omega | (simp;omega),fun a=>by have:=(P.out _ a).2;first | omega | (simp at this;omega)⟩
  have c6:=cell_of_one I;have c8:=free_of_one I;have F:=Qa.set1 o c 0 (.slice l (f.length+1) m);have U:(o.setCell ⟨c,0,none⟩ (.slice l (f.length+1) m)).heap[c]?=some (.cells #[.slice l (f.length+1) m] 36 (0,0)):=by
   simp only [World.setCell,Array.getElem?_modify,I];simp
  have T:Qa (fun b=>¬ (b<c\/k b\/b=c+1\/b=c+1+1)) g (o.setCell ⟨c,0,none⟩ (.slice l (f.length+1) m)):=by
   refine(E.mono (fun b' _ e hn=>?_)).trans (F.mono (fun b' _ e hn=>?_))
   ·obtain⟨a2,a3,a4,O⟩:=n _ e;have:=(i.lt _ e).1;rcases hn with a | a | a
    ·omega
    ·exact O a
    ·omega
   ·rcases hn with a | a | a
    ·omega
    ·have:=(P.out _ a).1;omega
    ·omega
  have Z:∃ u,(o.setCell ⟨c,0,none⟩ (.slice l (f.length+1) m)).heap[c]?=some (.cells #[u] 36 (0,0))/\(o.setCell ⟨c,0,none⟩ (.slice l (f.length+1) m)).ownsRow c 3 1 u (f++[G]).length (Zd (f++[G]))/\(∀ d,u.ownBlock=some d->d≠c/\d≠c+1/\d≠c+2/\¬ k d)/\Ext w (o.setCell ⟨c,0,none⟩ (.slice l (f.length+1) m)):=by
   refine⟨_,U,?_,J,Qa.after S F (fun b h1 h2=>by have:=z.out;omega)⟩;rw [Q0g,List.length_append];exact Qs V F (fun b hb e=>(J b hb).1 e)
  have a7:=Zh T;have a6:=Zh Z;clear T Z U F J S E W V R Q b2 i n v s;go_wp2;exact⟨a7.out,a6.out⟩
 case done=>
  rintro k g ⟨u,j,i,n,v⟩ r s b3;have Q:=cell_of_one j;clear C H L;go_wp2;have b7:Zu c ({ target:=.collected w1.heap.size,args:=#[] }::[]) g:=Zu.cons (base:=c) trivial oz b3 (fun e he=>by cases he);refine Hk b7 (fun w'=>results_tmp rfl _ _ _) (fun w' ht' hs=>⟨u,rfl,?_,?_⟩)
  ·rw [z.out];exact Qs i ht' (fun b hb e=>by obtain⟨c7,b6⟩:=Gd i hb;exact Shut.not b6 rfl e)
  ·exact Qa.after v ht' (fun b' h2 h3=>by have:=h3.1;have:=z.out;omega)
 case stop=>exact fun _ _ _ _ _ _ _ a=>a.elim
theorem Cu{w:World}{gf:Nat}{lb:Array Value}(d:∀ args w,(callFunc gf args).run Tryz.prog w=.ok (.enter gf args) w) {M:Nat->Nat->Prop} {xs:List Int} (f:∀ w1,Ext w w1->Md Tryz.prog gf lb M Qm7 xs (fun b=>b<w.heap.size) w1) (k:xs.length<=1000) :
  Calls Tryz.prog 76 #[.func (.func gf) #[] lb] w fun e w'=>∃ u,e=.returned u/\w'.ownsRow w.heap.size 3 1 u xs.length (Zd xs)/\Ext w w':=by
 have c:=Q91 d f k;have g:=Zh c;clear c f d;go_enter Tryz.func76,Tryz.ntmps76;go_wp2_with fail;refine g.out.mono ?_;rintro e w' ⟨u,rfl,a,j⟩;obtain⟨m,l,rfl⟩:=Zg a;have i:=Zh a;clear a;go_wp2;go_ret;exact⟨_,rfl,i.out,j⟩
def Q18(sh:List Int)(k j:Nat):Bool:=(List.range k).any fun p=>decide (p≠j) && decide (sh.getD p (-1)=(j:Int))
def Wk(sh:List Int)(k:Nat):Array Value:=((List.range 64).map fun(j:Nat)=>Value.bool (Q18 sh k j)).toArray
theorem Q58(sh:List Int)(k j:Nat):Q18 sh (k+1) j=(Q18 sh k j || (decide (k≠j) && decide (sh.getD k (-1)=(j:Int)))):=by
 unfold Q18;rw [List.range_succ,List.any_append,List.any_cons,List.any_nil,Bool.or_false]
theorem Qjv(sh:List Int)(j:Nat):Q18 sh sh.length j=toB sh j:=rfl
theorem Q6h{sh:List Int}{k m:Nat}(a:m<64):(Wk sh k)[m]?=some (.bool (Q18 sh k m)):=by simp [Wk,a]
theorem Q4p{sh:List Int}{k:Nat}(h:sh.getD k (-1)<0\/sh.getD k (-1)=(k:Int)):Wk sh (k+1)=Wk sh k:=by
 unfold Wk
 congr 2
 funext j
 rw [Q58];have:(decide (k≠j) && decide (sh.getD k (-1)=(j:Int)))=false:=by
  rw [Bool.and_eq_false_iff,decide_eq_false_iff_not,decide_eq_false_iff_not];omega
 rw [this,Bool.or_false]
theorem Qhc{sh:List Int}{k m:Nat}(h:sh.getD k (-1)=(m:Int)) (d:m≠k):(Wk sh k).setIfInBounds m (.bool true)=Wk sh (k+1):=by
 apply Array.ext
 ·simp [Wk]
 ·intro a c f;rw [Array.getElem_setIfInBounds (by simpa using c)];simp only [Wk,List.getElem_toArray,List.getElem_map,List.getElem_range];rw [Q58,h];by_cases b:m=a
  ·subst b;rw [if_pos rfl]
   congr 1
   have:(decide (k≠m) && decide ((m:Int)=(m:Int)))=true:=by rw [Bool.and_eq_true,decide_eq_true_iff,decide_eq_true_iff];exact⟨fun e=>d e.symm,rfl⟩
   rw [this,Bool.or_true]
  ·rw [if_neg b]
   congr 1
   have:(decide (k≠a) && decide ((m:Int)=(a:Int)))=false:=by
    rw [Bool.and_eq_false_iff,decide_eq_false_iff_not,decide_eq_false_iff_not];omega
   rw [this,Bool.or_false]
def Ug(sh:List Int)(i:Nat):Bool:=Ux sh i && !toB sh i
def Jb(sh:List Int)(k:Nat):List (List Int):=((List.range k).filter (Ug sh)).map (Qh sh)
theorem Q77(sh:List Int):Jb sh sh.length=Ys sh:=rfl
theorem Q8m{sh:List Int}{k:Nat}(h:Ug sh k=true):Jb sh (k+1)=Jb sh k++[Qh sh k]:=by
 unfold Jb;rw [List.range_succ,List.filter_append,List.map_append];simp [h]
theorem Q9l{sh:List Int}{k:Nat}(h:Ug sh k=false):Jb sh (k+1)=Jb sh k:=by
 unfold Jb;rw [List.range_succ,List.filter_append,List.map_append];simp [h]
theorem Q8k(sh:List Int)(k:Nat):(Jb sh k).length<=k:=by
 unfold Jb;rw [List.length_map];exact Nat.le_trans (List.length_filter_le _ _) zy
def Wt(sh:List Int):List (List Int):=if Jd sh=0 then Ys sh else []
theorem Qgs{sh:List Int}{k:Nat}{x:Int}(a:sh.getD k (-1)=x) (c:X8 sh):Ug sh k=((decide (0<=x) && decide (x≠(k:Int))) && !toB sh k):=by
 unfold Ug Ux;rw [a];have b:=Mj c k;rw [a] at b
 congr 2
 rw [decide_eq_decide];omega
theorem To{w:World}{ao:Option Addr}{N cap:Nat}{sh:List Int}(a6:Rd w (.slice ao N cap) N 1 (Zd sh)) (a2:sh.length=N) :
  Calls Tryz.prog 33 #[.slice ao N cap] w fun e w'=>∃ v,e=.returned (.tuple #[v,.int .i64 (Jd sh)])/\Xo w.heap.size w' v (Wt sh)/\Ext w w':=by
 have l0:=a6.2.1;unfold maxLen at l0;have e1:=Q0q a6 a2 (cap:=cap);have d9:=@Q4b sh;have a4:Wt sh=if Jd sh=0 then Jb sh N else []:=by unfold Wt;rw [<-Q77,a2]
 obtain⟨X,g7⟩:=zE (Jd sh);rw [g7] at e1 d9 a4 ⊢;obtain⟨g4,i3⟩:=zE (Wt sh);rw [i3] at a4 ⊢;obtain⟨f8,b1,x,f7,b4⟩:=Zh5 e1 a6 a2 d9 a4;clear e1 a6 d9 g7 a4 i3 a2;go_enter Tryz.func33,Tryz.ntmps33;go_wp2_with fail;refine f8.out.mono ?_;rintro e a8 ⟨rfl,a1⟩;have Y:=Zh a1;clear f8 a1;by_cases e6:X=0;case neg=>
  have i7:(X != 0)=true:=by simpa using e6
  have J:=b4.out;rw [if_neg e6] at J;subst J;go_wp2;refine bodyPost_ret (Qt rfl _ _ _) rfl ⟨_,rfl,Xo.nil _ _,Y.out⟩
 subst e6;have J:=b4.out;rw [if_pos rfl] at J;have e2:=f7.out rfl;have l6:N<=64:=by rw [<-x.out];exact e2.1
 have k2:=Zh J;have a0:=Zh e2;clear J e2 b4 f7;obtain⟨f,d0⟩:=zE a8.heap.size;have e7:Wk sh 0=#[.bool false,.bool false,.bool false,.bool false,.bool false,.bool false,.bool false,.bool false,.bool false,.bool false,.bool false,.bool false,.bool false,.bool false,.bool false,.bool false,.bool false,.bool false,.bool false,.bool false,.bool false,.bool false,.bool false,.bool false,.bool false,.bool false,.bool false,.bool false,.bool false,.bool false,.bool false,.bool false,.bool false,.bool false,.bool false,.bool false,.bool false,.bool false,.bool false,.bool false,.bool false,.bool false,.bool false,.bool false,.bool false,.bool false,.bool false,.bool false,.bool false,.bool false,.bool false,.bool false,.bool false,.bool false,.bool false,.bool false,.bool false,.bool false,.bool false,.bool false,.bool false,.bool false,.bool false,.bool false]:=by kernel_rfl
 have a5:(a8.alloc (.cells (Wk sh 0) 110)).heap[f]?=some (.cells (Wk sh 0) 110 (0,0)):=new_at d0.symm;have c8:Ext w (a8.alloc (.cells (Wk sh 0) 110)):=Y.out.alloc _;have g9:w.heap.size<=f:=by rw [<-d0];exact Y.out.size
 rw [e7] at a5 c8;rw [<-e7] at a5;obtain⟨f6,f5,k0⟩:=Zh3 a5 c8 g9;clear a5 c8 e7 g9 Y;go_wp2
 refine wp_loop (fun a V=>∃(k:Nat),k<=N/\a.defers=[]/\(a.tmps.size=62/\a.tmps.getD 0 undef=.slice ao N cap/\a.tmps.getD 5 undef=.pointer (some ⟨f,0,none⟩)/\a.tmps.getD 16 undef=.slice ao N cap/\a.tmps.getD 17 undef=.int .i64 N/\a.tmps.getD 18 undef=.int .i64 k)/\V.heap[f]?=some (.cells (Wk sh k) 110 (0,0))/\Ext w V)
  (fun a _=>N - (intOf (a.tmps.getD 18 undef)).toNat) ?_ ?_
 ·exact⟨0,by omega,rfl,⟨rfl,rfl,rfl,rfl,rfl,rfl⟩,f6.out,f5.out⟩
 clear f6 f5 d0;rintro⟨e8,_⟩ V ⟨k,m1,d5,⟨U,y,z,b7,b8,b9⟩,m,P⟩;subst d5;obtain⟨f0,o⟩:=Qq U;obtain⟨b,rfl⟩:∃ l,l=f0:=⟨_,rfl⟩;have e3:e8=#[b 0,b 1,b 2,b 3,b 4,b 5,b 6,b 7,b 8,b 9,b 10,b 11,b 12,b 13,b 14,b 15,b 16,b 17,b 18,b 19,b 20,b 21,b 22,b 23,b 24,b 25,b 26,b 27,b 28,b 29,b 30,b 31,b 32,b 33,b 34,b 35,b 36,b 37,b 38,b 39,b 40,b 41,b 42,b 43,b 44,b 45,b 46,b 47,b 48,b 49,b 50,b 51,b 52,b 53,b 54,b 55,b 56,b 57,b 58,b 59,b 60,b 61]:=o;clear o;subst e3;change b 0=_ at y;change b 5=_ at z;change b 16=_ at b7;change b 17=_ at b8;change b 18=_ at b9;rw [y,z,b7,b8,b9];clear y z b7 b8 b9 U;have j:=Zh m;have g:=Zh P;clear m P;by_cases i6:k<N
 ·have u:(k:Int)<(N:Int):=by omega
  have k7:(0:Int)<=(k:Int):=by omega
  have F:k<sh.length:=by rw [x.out];exact i6
  obtain⟨g6,l1,b6,S,k8,I⟩:=Zb (b1.out.ext g.out) i6;simp only [zV,true_and] at S;obtain⟨rfl,rfl⟩:=S;rw [Yo sh F] at I;have E:=Q33 F (-1);have e4:=a0.out.2 _ (List.getElem_mem F);rw [x.out] at e4;obtain⟨l,W⟩:=zE (sh[k]);rw [W] at I E e4;obtain⟨m4,m3⟩:=e4;have b0:=Zh E;clear W E;by_cases i8:l<0
  ·have T:=Q4p (sh:=sh) (k:=k) (.inl (by rw [b0.out];exact i8));have m:=j.out;rw [<-T] at m;have K:=Zh m;clear T m;go_wp2;exact⟨⟨k+1,by omega,by omega,K.out,g.out⟩,nz⟩
  ·obtain⟨d,rfl⟩:∃ d:Nat,l=(d:Int):=⟨l.toNat,by omega⟩;by_cases a7:d=k
   ·subst a7;have T:=Q4p (sh:=sh) (k:=d) (.inr b0.out);have m:=j.out;rw [<-T] at m;have K:=Zh m;clear T m;go_wp2;exact⟨⟨d+1,by omega,by omega,K.out,g.out⟩,nz⟩
   ·have m2:(d:Int)<64:=by omega
    have D:V.cell? ⟨f,d,none⟩=some (.bool (Q18 sh k d)):=by rw [cell_of_row V f d _ _ _ j.out,Q6h oz]
    have l8:V.frozen? ⟨f,d,none⟩=false:=frozen_of_row V f d _ _ j.out;have j0:(V.setCell ⟨f,d,none⟩ (.bool true)).heap[f]?=some (.cells (Wk sh (k+1)) 110 (0,0)):=by
     have u:=j.out;simp only [World.setCell,Array.getElem?_modify,u];simp [Qhc b0.out a7]
    have A:Ext w (V.setCell ⟨f,d,none⟩ (.bool true)):=g.out.after (Qa.set1 V f d _) (fun g6 u h2=>by have:=k0.out;omega);have i7:((d:Int) !=(k:Int))=true:=by simp;omega
    have K:=Zh j0;have Z:=Zh A;clear j0 A;go_wp2;exact⟨⟨k+1,by omega,by omega,K.out,Z.out⟩,nz⟩
 obtain rfl:k=N:=by omega
 have u:¬ (k:Int)<(k:Int):=by omega
 go_wp2;clear u;obtain⟨t,i4⟩:=zE w.heap.size;have b5:=Zh i4;clear i4
 refine wp_loop (fun a s=>∃(c:Nat) (v:Value),c<=k/\a.defers=[]/\(a.tmps.size=62/\a.tmps.getD 0 undef=.slice ao k cap/\a.tmps.getD 5 undef=.pointer (some ⟨f,0,none⟩)/\a.tmps.getD 8 undef=v/\a.tmps.getD 33 undef=.slice ao k cap/\a.tmps.getD 34 undef=.int .i64 k/\a.tmps.getD 35 undef=.int .i64 c)/\Xo t s v (Jb sh c)/\s.heap[f]?=some (.cells (Wk sh k) 110 (0,0))/\Ext w s)
  (fun a _=>k - (intOf (a.tmps.getD 35 undef)).toNat) ?_ ?_
 ·exact⟨0,_,by omega,rfl,⟨rfl,rfl,rfl,rfl,rfl,rfl,rfl⟩,Xo.nil _ _,j.out,g.out⟩
 clear j g;rintro⟨e8,_⟩ s ⟨c,v,l9,d5,⟨U,y,z,c7,c0,c1,c6⟩,C,m,P⟩;subst d5;obtain⟨f0,o⟩:=Qq U;obtain⟨b,rfl⟩:∃ l,l=f0:=⟨_,rfl⟩;have e3:e8=#[b 0,b 1,b 2,b 3,b 4,b 5,b 6,b 7,b 8,b 9,b 10,b 11,b 12,b 13,b 14,b 15,b 16,b 17,b 18,b 19,b 20,b 21,b 22,b 23,b 24,b 25,b 26,b 27,b 28,b 29,b 30,b 31,b 32,b 33,b 34,b 35,b 36,b 37,b 38,b 39,b 40,b 41,b 42,b 43,b 44,b 45,b 46,b 47,b 48,b 49,b 50,b 51,b 52,b 53,b 54,b 55,b 56,b 57,b 58,b 59,b 60,b 61]:=o;clear o;subst e3;change b 0=_ at y;change b 5=_ at z;change b 8=_ at c7;change b 33=_ at c0;change b 34=_ at c1;change b 35=_ at c6;rw [y,z,c7,c0,c1,c6];clear y z c7 c0 c1 c6 U;obtain⟨j7,j6,rfl⟩:=C.slice;obtain⟨q,j,g⟩:=Zh3 C m P;clear C m P;by_cases d6:c<k;case neg=>
  obtain rfl:c=k:=by omega
  have u:¬ (c:Int)<(c:Int):=by omega
  go_wp2;refine bodyPost_ret (Qt rfl _ _ _) rfl ⟨_,rfl,by rw [k2.out,b5.out];exact q.out,g.out⟩
 have u:(c:Int)<(k:Int):=by omega
 have k7:(0:Int)<=(c:Int):=by omega
 have F:c<sh.length:=by rw [x.out];exact d6
 obtain⟨g6,l1,b6,S,k8,I⟩:=Zb (b1.out.ext g.out) d6;simp only [zV,true_and] at S;obtain⟨rfl,rfl⟩:=S;rw [Yo sh F] at I;have E:=Q33 F (-1);obtain⟨l,W⟩:=zE (sh[c]);rw [W] at I E;have r:=Qgs E a0.out;clear W E;have i9:Ug sh c=false->Xo t s (.slice j7 (Jb sh c).length j6) (Jb sh (c+1)):=fun h=>by rw [Q9l h];exact q.out
 have p:=Zh i9;have k9:=Q8k sh c;obtain⟨g1,B⟩:=zE ((Jb sh c).length);rw [B] at k9;have b2:=Zh B;have C:=q.out;have d8:=p.out;rw [B] at C d8 ⊢;clear q p;have q:=Zh C;have p:=Zh d8;clear C d8 i9;by_cases i8:l<0
 ·have R:Ug sh c=false:=by rw [r,decide_eq_false oz];rfl
  have L:=Zh (p.out R);clear r R p q B;go_wp2;exact⟨⟨c+1,by omega,_,⟨rfl,by omega⟩,L.out,j.out,g.out⟩,nz⟩
 obtain⟨d,rfl⟩:∃ d:Nat,l=(d:Int):=⟨l.toNat,by omega⟩;by_cases a7:d=c
 ·subst a7;have R:Ug sh d=false:=by rw [r];simp
  have L:=Zh (p.out R);clear r R p q B;go_wp2;exact⟨⟨d+1,by omega,_,⟨rfl,by omega⟩,L.out,j.out,g.out⟩,nz⟩
 have i7:((d:Int) !=(c:Int))=true:=by simp;omega
 have m0:(c:Int)<64:=by omega
 have d7:=Qjv sh c;rw [x.out] at d7;have D:s.cell? ⟨f,c,none⟩=some (.bool (toB sh c)):=by rw [cell_of_row s f c _ _ _ j.out,Q6h oz,d7]
 clear d7;rw [decide_eq_true oz,decide_eq_true oz] at r;obtain⟨e9,j3⟩:=zE (toB sh c);rw [j3] at D r;clear j3;cases e9;case true=>
  have L:=Zh (p.out r);clear r p q B;go_wp2;exact⟨⟨c+1,by omega,_,⟨rfl,by omega⟩,L.out,j.out,g.out⟩,nz⟩
 case false=>
  have e5:=Q8m (k:=c) r;have j2:=Mk a0.out F;have j1:=j2.le;rw [x.out] at j1;obtain⟨H,d1⟩:=zE (Qh sh c);have f9:=Zh d1;rw [d1] at e5 j1;have k3:=Zh e5;clear r p e5 j2 d1 B;go_wp2_with fail;refine(Q3m).mono ?_;rintro e g5 ⟨rfl,d2,d3,A⟩;obtain⟨g2,i1⟩:=zE s.heap.size;rw [i1] at d2 d3 ⊢;have d4:=Cu (w:=g5) (M:=fun _ _=>True) Q0j (fun a8 a1=>Q2o (sh:=sh) a1 d6 a0.out x.out ((b1.out.ext g.out).ext A) d2 d3) (by rw [f9.out];omega);rw [f9.out] at d4;have i2:t<=g5.heap.size:=by have:=g.out.size;have:=A.size;have:=b5.out;omega
  obtain⟨f4,Z,b3⟩:=Zh3 d4 A i2;clear d4 A d2 d3 i1 i2 I D;go_wp2_with fail;refine f4.out.mono ?_;rintro e O ⟨b,rfl,o,c9⟩;obtain⟨f2,f1,rfl⟩:=Zg o;have a9:=Zh (Z.out.trans c9);have g0:=Zh (Zz o b3.out);obtain⟨vs,j4,l2,j5⟩:=q.out;have l7:t<=O.heap.size:=by have:=b3.out;have:=c9.size;omega
  have G:=Zh j4;have g3:=Zh j5;clear f4 o c9 j4 j5 q Z b3;rw [b2.out] at G
  go_wp2_with (at_builtin;refine Ze rfl (.tmp 53) (.tmp 58) 54 rfl t 36 _ 1 24 Tryz.underlying54 Q7u rfl zd _ _ _ rfl (Qe G.out (a9.out.alloc _)) ⟨O.heap.size,0,none⟩ 1 1 [.slice f2 H.length f1] rfl rfl (Zf rfl) ?c2 ?c3 ?c4 ?c5 ?_)
  case c2=>first | rfl | (intro b o;simp at o;rcases o with rfl;rfl)
  case c3=>unfold maxLen;omega
  case c4=>omega
  case c5=>simp;omega
  intro k5 b6 f3 i0 a3 _;have Q:Ext s (O.alloc (.cells #[.slice f2 H.length f1] 36)):=a9.out.alloc _;have e0:Xo t f3 (.slice k5 (g1+1) b6) (Jb sh c++[H]):=by
   refine Xo.push (V:=O.alloc (.cells #[.slice f2 H.length f1] 36)) (v:=.slice j7 g1 j6) (vs:=vs) (by rw [b2.out];exact Qe G.out Q) l2 (fun i hi=>?_) (Qe g0.out ((Qa.refl _ O).alloc _)) (by rw [b2.out];exact i0) a3;obtain⟨k4,k6,l3,l4⟩:=g3.out i hi;exact⟨k4,k6,l3,Qe l4 Q⟩
  have i5:f3.heap[f]?=some (.cells (Wk sh k) 110 (0,0)):=by
   refine a3.heap (Q.keep j.out) (fun e=>?_);obtain⟨l5,D⟩:=Fq G.out e;rw [j.out] at D;simp only [Option.some.injEq,Obj.cells.injEq] at D;exact absurd D.2.1 zd
  have g8:Ext w f3:=(g.out.trans Q).after a3 (fun b' u e=>by have:=(G.out.lt _ e).1;have:=b5.out;omega);rw [<-k3.out] at e0;obtain⟨k1,j9,j8⟩:=Zh3 e0 i5 g8;clear e0 i5 g8 Q a3 i0 G g3 g0 a9 j g;go_wp2;exact⟨⟨c+1,_,by omega,by first | trivial | rfl,⟨rfl,rfl,rfl,rfl,rfl,rfl,rfl⟩,k1.out,j9.out,j8.out⟩,nz⟩
def Xc(sh:List Int)(k:Nat):List (List Int):=((List.range k).filter (Jm sh)).map (Qh sh)
theorem Q8q(sh:List Int):Xc sh sh.length=Z6 sh:=rfl
theorem Q7b{sh:List Int}{k:Nat}(h:Jm sh k=true):Xc sh (k+1)=Xc sh k++[Qh sh k]:=by
 unfold Xc;rw [List.range_succ,List.filter_append,List.map_append];simp [h]
theorem Qaa{sh:List Int}{k:Nat}(h:Jm sh k=false):Xc sh (k+1)=Xc sh k:=by
 unfold Xc;rw [List.range_succ,List.filter_append,List.map_append];simp [h]
theorem Q69(sh:List Int)(k:Nat):(Xc sh k).length<=k:=by
 unfold Xc;rw [List.length_map];exact Nat.le_trans (List.length_filter_le _ _) zy
def Fc(sh:List Int):List (List Int):=if Jd sh=0 then Z6 sh else []
theorem Qjt{S:List Int}{q:Nat}(h:S.length=q+1):S.getLastD 0=S[q]' oz:=by
 rw [List.getLastD_eq_getLast?,List.getLast?_eq_getElem?];have a:S.length - 1=q:=by omega
 simp only [a];rw [List.getElem?_eq_getElem oz];rfl
theorem Qhu{S:List Int}{k:Nat}{m:Int}(c:(k:Int)∈S) (d:m∈S) (a:∀ x∈S,m<=x):(S.all fun x=>decide ((k:Int)<=x))=decide (m=(k:Int)):=by
 rw [Bool.eq_iff_iff,List.all_eq_true,decide_eq_true_iff];constructor
 ·intro b;have f:=of_decide_eq_true (b m d);have g:=a _ c;omega
 ·rintro rfl x e;exact decide_eq_true (a x e)
theorem Q1m{w:World}{ao:Option Addr}{N cap:Nat}{sh:List Int}(a0:Rd w (.slice ao N cap) N 1 (Zd sh)) (X:sh.length=N) :
  Calls Tryz.prog 34 #[.slice ao N cap] w fun e w'=>∃ v,e=.returned (.tuple #[v,.int .i64 (Jd sh)])/\Xo w.heap.size w' v (Fc sh)/\Ext w w':=by
 have k2:=a0.2.1;unfold maxLen at k2;have c8:=Q0q a0 X (cap:=cap);have c6:=@Q4b sh;have Y:Fc sh=if Jd sh=0 then Xc sh N else []:=by unfold Fc;rw [<-Q8q,X]
 obtain⟨P,f0⟩:=zE (Jd sh);rw [f0] at c8 c6 Y ⊢;obtain⟨e5,f5⟩:=zE (Fc sh);rw [f5] at Y ⊢;obtain⟨d9,d5,x,d7,b1⟩:=Zh5 c8 a0 X c6 Y;clear c8 a0 c6 f0 Y f5 X;go_enter Tryz.func34,Tryz.ntmps34;go_wp2_with fail;refine d9.out.mono ?_;rintro e k7 ⟨rfl,S⟩;have a8:=Zh S;clear d9 S;by_cases s:P=0;case neg=>
  have l8:(P != 0)=true:=by simpa using s
  have B:=b1.out;rw [if_neg s] at B;subst B;go_wp2;refine bodyPost_ret (Qt rfl _ _ _) rfl ⟨_,rfl,Xo.nil _ _,a8.out⟩
 subst s;have B:=b1.out;rw [if_pos rfl] at B;have c9:=d7.out rfl;have l2:N<=64:=by rw [<-x.out];exact c9.1
 have j1:=Zh B;have b2:=Zh c9;clear B c9 b1 d7;obtain⟨f,f6⟩:=zE w.heap.size;have b3:=Zh f6;clear f6;go_wp2
 refine wp_loop (fun a y=>∃(b:Nat) (v:Value),b<=N/\a.defers=[]/\gS a [0,5,13,14,15]=(50,[.slice ao N cap,v,.slice ao N cap,.int .i64 N,.int .i64 b])/\Xo f y v (Xc sh b)/\Ext w y)
  (fun a _=>N - (intOf (a.tmps.getD 15 undef)).toNat) ?_ ?_
 ·exact⟨0,_,by omega,rfl,rfl,Xo.nil _ _,a8.out⟩
 clear a8;rintro⟨m1,_⟩ y ⟨b,v,l6,k0,i0,p,e9⟩;subst k0;obtain⟨i6,rfl⟩:=Qo i0;clear i0;obtain⟨O,L,rfl⟩:=p.slice;have m:=Zh p;have u:=Zh e9;clear p e9;by_cases f8:b<N;case neg=>
  obtain rfl:b=N:=by omega
  have e7:¬ (b:Int)<(b:Int):=by omega
  go_wp2;refine bodyPost_ret (Qt rfl _ _ _) rfl ⟨_,rfl,by rw [j1.out,b3.out];exact m.out,u.out⟩
 have e7:(b:Int)<(N:Int):=by omega
 have l1:(0:Int)<=(b:Int):=by omega
 have f9:b<sh.length:=by rw [x.out];exact f8
 have a1:Jm sh b=false->Xo f y (.slice O (Xc sh b).length L) (Xc sh (b+1)):=fun h=>by rw [Qaa h];exact m.out
 have r:=Q7b (sh:=sh) (k:=b);have c:=Qgh b2.out f9;have a2:=Mk b2.out f9;have d0:=Pf (sh:=sh) (i:=b);have j9:=Q69 sh b;obtain⟨I,W⟩:=zE ((Xc sh b).length);rw [W] at j9 a1 ⊢;have a9:=Zh W;have p:=m.out;rw [W] at p;clear m;have m:=Zh p;obtain⟨d,b6⟩:=zE (Qh sh b);have e1:=Zh b6;rw [b6] at a2 d0 r c;have g9:=a2.le;rw [x.out] at g9;obtain⟨t,e8⟩:=zE (Jm sh b);rw [e8] at a1 r c;obtain⟨Q,e2,a5,j2,e0⟩:=Zh5 a1 r c a2 d0;clear a1 r c a2 d0 p W b6 e8;go_wp2_with fail;refine(Q3m).mono ?_;rintro e e6 ⟨rfl,c,b8,T⟩;obtain⟨e3,f3⟩:=zE y.heap.size;rw [f3] at c b8 ⊢;have c0:=Cu (w:=e6) (M:=fun _ _=>True) Q0j (fun k7 S=>Q2o (sh:=sh) S f8 b2.out x.out ((d5.out.ext u.out).ext T) c b8) (by rw [e1.out];omega);rw [e1.out] at c0;have f4:f<=e6.heap.size:=by have:=u.out.size;have:=T.size;have:=b3.out;omega
 obtain⟨d3,d4,b0⟩:=Zh3 c0 T f4;clear c0 T c b8 f3 f4;go_wp2_with fail;refine d3.out.mono ?_;rintro e R ⟨i6,rfl,C,b4⟩;obtain⟨m2,F,rfl⟩:=Zg C;have l:=Zh (d4.out.trans b4);have o:=Zh (Zz C b0.out);have l3:f<=R.heap.size:=by have:=b0.out;have:=b4.size;omega
 clear d3 C b4 d4 b0;have k3:0<d.length:=List.length_pos_of_mem e0.out;obtain⟨g,j⟩:∃ g,d.length=g+1:=⟨d.length - 1,by omega⟩;have d8:=Zh j;have K:=o.out;rw [j] at K g9 ⊢;clear o k3;have o:=Zh K;clear K;have k1:t=false->∃(j_1:Nat),True:=fun _=>⟨0,trivial⟩;clear k1;have f2:Ext w R:=u.out.trans l.out;have G:=Zh f2;clear f2;by_cases k4:g=0
 ·subst k4;have q:t=false:=by rw [a5.out,decide_eq_false (by rw [j];omega)];rfl
  have H:Hid (Xo f R (.slice O I L) (Xc sh (b+1))):=Zh ((Q.out q).ext l.out);clear j;go_wp2;exact⟨⟨b+1,_,by omega,by first | trivial | rfl,rfl,H.out,G.out⟩,nz⟩
 have l9:((g:Int)+1 > 1)=True:=by simp;omega
 have g7:g<d.length:=by omega
 have g0:=Qjt j;have g8:=Rd.of_own o.out;obtain⟨A,E,c2,g5,l4,b9⟩:=Zb g8 (show g<g+1 by omega);simp only [zV,true_and] at g5;obtain⟨rfl,rfl⟩:=g5;rw [Yo d g7] at b9;have Z:=j2.out.2 _ (List.getElem_mem g7);rw [<-g0] at Z b9;obtain⟨a4,s⟩:=zE (d.getLastD 0);rw [s] at Z b9;obtain⟨D,rfl⟩:∃ D:Nat,a4=(D:Int):=⟨a4.toNat,by omega⟩;rw [x.out] at Z;have g1:D<N:=by omega
 have g4:D<sh.length:=by rw [x.out];exact g1
 obtain⟨l0,m0,c3,g6,l5,f7⟩:=Zb (d5.out.ext G.out) g1;simp only [zV,true_and] at g6;obtain⟨rfl,rfl⟩:=g6;rw [Yo sh g4] at f7;have c1:=Q33 g4 (-1);obtain⟨a3,i1⟩:=zE (sh[D]);rw [i1] at f7 c1;have l7:(D:Int)<(N:Int):=by omega
 have c:=a5.out;rw [s,Int.toNat_natCast,c1,decide_eq_true (by rw [j];omega),Bool.true_and] at c;have a6:=Zh c;have g3:=Qar (o.out |> Rd.of_own) j oz;have d6:=Zh g3;clear i1 c1 c s g0 g8 Z a5 j g3;by_cases d1:a3=(b:Int);case neg=>
  have q:t=false:=by rw [a6.out,decide_eq_false d1];rfl
  have H:Hid (Xo f R (.slice O I L) (Xc sh (b+1))):=Zh ((Q.out q).ext l.out);have k5:(a3 ==(b:Int))=false:=by simpa using d1
  clear q;go_wp2;exact⟨⟨b+1,_,by omega,by first | trivial | rfl,rfl,H.out,G.out⟩,nz⟩
 subst d1;go_wp2_with fail;refine d6.out.mono ?_;rintro e z ⟨i8,rfl,⟨i2,i3⟩,rfl⟩;have g2:=Qhu e0.out i2 i3;have c:=a6.out;rw [g2,decide_eq_true trivial,Bool.true_and] at c;have a7:=Zh c;clear i2 i3 g2 c d6 a6;by_cases d2:i8=(b:Int);case neg=>
  have q:t=false:=by rw [a7.out,decide_eq_false d2]
  have H:Hid (Xo f z (.slice O I L) (Xc sh (b+1))):=Zh ((Q.out q).ext l.out);have k5:(i8 ==(b:Int))=false:=by simpa using d2
  clear q;go_wp2;exact⟨⟨b+1,_,by omega,by first | trivial | rfl,rfl,H.out,G.out⟩,nz⟩
 subst d2;have r:=e2.out (by rw [a7.out];exact decide_eq_true rfl);have j3:=Zh r;clear r e2 Q a7;obtain⟨vs,i4,k6,i5⟩:=m.out;have J:=Zh i4;have e4:=Zh i5;clear i4 i5 m;rw [a9.out] at J
 go_wp2_with (at_builtin;refine Ze rfl (.tmp 44) (.tmp 46) 54 rfl f 36 _ 1 24 Tryz.underlying54 Q7u rfl zd _ _ _ rfl (Qe J.out (l.out.alloc _)) ⟨z.heap.size,0,none⟩ 1 1 [.slice (some ⟨A,E,none⟩) (g+1) F] rfl rfl (Zf rfl) ?c2 ?c3 ?c4 ?c5 ?_)
 case c2=>first | rfl | (intro i6 C;simp at C;rcases C with rfl;rfl)
 case c3=>unfold maxLen;omega
 case c4=>omega
 case c5=>simp;omega
 intro j5 j6 i7 b5 b7 _;have U:Ext y (z.alloc (.cells #[.slice (some ⟨A,E,none⟩) (g+1) F] 36)):=l.out.alloc _;have c7:Xo f i7 (.slice j5 (I+1) j6) (Xc sh b++[d]):=by
  have K:=Qe o.out ((Qa.refl (fun _=>False) z).alloc (.cells #[.slice (some ⟨A,E,none⟩) (g+1) F] 36));have j8:(z.alloc (.cells #[.slice (some ⟨A,E,none⟩) (g+1) F] 36)).ownsRow f 3 1 (.slice (some ⟨A,E,none⟩) d.length F) d.length (Zd d):=by rw [d8.out];exact K
  rw [<-d8.out] at b5;refine Xo.push (V:=z.alloc (.cells #[.slice (some ⟨A,E,none⟩) (g+1) F] 36)) (v:=.slice O I L) (vs:=vs) (by rw [a9.out];exact Qe J.out U) k6 (fun i hi=>?_) j8 (by rw [a9.out];exact b5) b7;obtain⟨j4,j7,k8,k9⟩:=e4.out i hi;exact⟨j4,j7,k8,Qe k9 U⟩
 have f1:Ext w i7:=(u.out.trans U).after b7 (fun b' e7 e=>by have:=(J.out.lt _ e).1;have:=b3.out;omega);rw [<-j3.out] at c7;have j0:=Zh c7;have i9:=Zh f1;clear c7 f1 U b7 b5 J e4 o l u G;go_wp2;exact⟨⟨b+1,_,by omega,by first | trivial | rfl,rfl,j0.out,i9.out⟩,nz⟩
end Go.Proofs.YtejenndedjabhaaGreatDoor
