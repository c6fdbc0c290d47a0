/- law.run: -/
import Derived.Test.YtfdlhlghcbeblaaGreatDoorQ07
import Derived.Test.YtfdlhlghcbeblaaGreatDoorQ09
set_option maxRecDepth 100000
set_option maxHeartbeats 16000000
namespace Go.Proofs.YtfdlhlghcbeblaaGreatDoor
open Go.RowKit Go.Ab
attribute [local go_sem] Oper.semAt_some Zi Qz
theorem Q8x{w:World}{BW BL a3 a4:Nat}{l:Q5}{cs:List Value}{vo:Option Addr}{vc:Nat}{ws:Wd}{K:Nat->Prop}(k3:Yg l=true)(e7:l.mode=2)(o2:ws.length<=32)(e0:ws.length<=vc)(e4:Qw K (.slice vo ws.length vc))
  (i8:∀ b,K b->b<w.heap.size) (E:∀ W,Q0 (fun b=>¬ K b) w W->Q1q W BW BL a3 a4 l cs vo vc ws) :
  Gt Tryz.prog 225 #[.pointer (some ⟨BW,0,none⟩),.pointer (some ⟨BL,0,none⟩),.pointer (some ⟨a3,0,none⟩),.pointer (some ⟨a4,0,none⟩)] (Xr 2) (Q3z 2) (Qt l ws) K w:=by
 intro a0 m9 p4 W f1 i4 n6 j4 i3;obtain⟨n9,k5,k2,_,j8,_,_,_⟩:=Uv k3;have b2:=E W f1;have k6:=b2.law.box.mode;rw [e7] at k6;obtain⟨l6,f2⟩:=zE ws.length;have a9:=cell_of_one b2.box;rw [f2] at a9 o2 e0 e4;obtain⟨g1,O,d3,l9,g4,I,d5,f9⟩:=Zh8 e4 f2 E j8 e7 i4 j4 i3;have d4:=Zh f1;have c3:=Zh b2;obtain⟨Z,e3⟩:=zE l.ifs.length;obtain⟨f4,e6⟩:=zE l.outs.length;rw [e3] at n9 k2;rw [e6] at k5 k2;have q:=Zh e3;have J:=Zh e6;clear E j8 e7 i4 n6 j4 i3 f1 b2 k3 f2 e4 e3 e6;show Calls _ _ #[.func (.yield a0) #[] #[],.pointer (some ⟨BW,0,none⟩),.pointer (some ⟨BL,0,none⟩),.pointer (some ⟨a3,0,none⟩),.pointer (some ⟨a4,0,none⟩)] _ _;go_enter Tryz.func225,Tryz.ntmps225;have d6:=c3.out.law.box.mode;rw [g4.out] at d6;go_upto_region 1 with (fail)
 obtain⟨N,p⟩:=zE (W.alloc (.cells #[.func (.yield a0) #[] #[]] 266));have G:Ext W N:=by rw [<-p];exact(Q0.refl _ W).alloc _
 have d9:N.heap[W.heap.size]?=some (.cells #[.func (.yield a0) #[] #[]] 266 (0,0)):=by rw [<-p];exact Q3 rfl
 have f0:N.heap.size=W.heap.size+1:=by rw [<-p];simp
 rw [p];obtain⟨e,b7⟩:=zE W.heap.size;rw [b7] at d9 f0 ⊢;have e2:=I.out;have f3:=d5.out;rw [b7] at e2 f3;have o7:=I;have I:=Zh e2;have d5:=Zh f3;clear e2 f3;have m1:Hid (∀ b,K b->b<e):=Zh fun b U=>by have:=i8 b U;have:=d4.out.size;omega
 have i1:=Zh b7;have a6:=Zh f0;clear i8;have a9:=G.cell_some a9 id;clear p b7 f0 k6;go_upto_region 2 with (fail)
 rw [a6.out];obtain⟨c2,Y⟩:=zE (N.alloc (.cells #[.slice vo l6 vc] 99));have C:Ext N c2:=by rw [<-Y];exact(Q0.refl _ N).alloc _
 have i9:Jf c2 (e+1) (.slice vo l6 vc):=by rw [<-Y];exact Q3 a6.out.symm
 have k8:c2.heap.size=e+2:=by rw [<-Y];simp [a6.out]
 have j5:=C.keep d9;rw [Y];have R:=G.trans C;have o0:=R.cell_some d6 id;have d1:=Zh k8;clear Y a9 d9 G C d6 k8;have i5:=I.out _ (fun b=>b=e\/b=e+1) [] _ _ f9.out (Ext.of R) (fun b U=>by have:=i1.out;have:=d1.out;omega);have g0:=Zh i5;have j2:Q0 (fun b=>¬ K b) w c2:=d4.out.trans (Ext.of R);clear i5;go_wp2;obtain⟨g9,i2,c7⟩:=Zh3 j2 j5 i9;clear j2 j5 i9 o0
 refine wp_loop (fun a P=>∃(a7:Nat->Prop) (A:List (Nat × Wd)) (u:Wd) (i:Nat) (f7:Option Addr) (f6:Nat),a.defers=[]/\gS a [0,1,2,3,4,5,6,10]=(117,[.func (.yield a0) #[] #[],.pointer (some ⟨BW,0,none⟩),.pointer (some ⟨BL,0,none⟩),.pointer (some ⟨a3,0,none⟩),.pointer (some ⟨a4,0,none⟩),.pointer (some ⟨e,0,none⟩),.pointer (some ⟨e+1,0,none⟩),.int .i64 i])/\Ju l ws A u i/\Jb w P K a7 m9 e a0 A u f7 f6)
  (fun a P=>Q3o P (e+1)+1 - (intOf (a.tmps.getD 10 undef)).toNat) ?_ ?_
 ·refine⟨(fun b=>b=e\/b=e+1),[],ws,0,vo,vc,rfl,rfl,.start g4.out,⟨g0.out,.inl rfl,.inr rfl,fun b U=>by have:=d1.out;omega,g9.out,i2.out,?_,?_,?_,?_⟩⟩
  ·rw [O.out];exact c7.out
  ·exact c3.out.word.ext R
  ·rw [O.out];exact e0
  ·rw [O.out];exact fun g o n c L h0'=>.inl (g1.out g o n c L h0')
 clear g0 f9 g9 i2 c7 c3 R d4 i1 a6 d1 e0 g1;rintro⟨t,_⟩ P ⟨a7,A,o5,i,f7,f6,n7,l0,T,M⟩;obtain⟨H,rfl⟩:∃ x,x=o5:=⟨_,rfl⟩;subst n7;obtain⟨u,rfl⟩:=Qj l0;clear l0;have E:=d3.out P M.t;obtain⟨c1,X⟩:=zE H.length;have f:=Hd M.n;have B:=cell_of_one M.n;have b0:=cell_of_one M.y;have b1:=cell_of_one E.bk;have Q:=cell_of_one E.bm;rw [q.out] at b1;rw [J.out] at Q;rw [X] at B f;have n8:=few (t:=A.length) (n:=ws.length+1) (m:=f4) (by have:=T.2.1;omega) k5 (by rw [O.out];omega);have q9:c1<=230:=by
  have F:=T.2.2.1;rw [J.out,X,O.out] at F;omega
 have j9:=T.2.2.2;rw [X] at j9;obtain⟨d,c4,c9,a5,d0⟩:=Zh5 X f T M E;clear X f T M E n8;by_cases e5:i+Z<=c1;case neg=>
  have F:¬ ((i:Int)+(Z:Int)<=(c1:Int)):=by omega
  have j7:=c9.out.done (by rw [d.out,q.out];omega);have l8:=Zh j7;clear j7 Q b0;go_wp2;go_end0
  exact⟨⟨_,rfl⟩,a7,.inl (by rw [l8.out];exact a5.out.j)⟩
 have F:(i:Int)+(Z:Int)<=(c1:Int):=by omega
 go_upto_region 14 with (fail)
 obtain⟨S,b3⟩:=d0.out.law;obtain⟨r9,r2,s4,r4,r7,p9,q2,s0,p5,q5,r3,s5,r5,r8,q0,q3,s1,p6,q6,r1,p7,r0,s3,p8,s2,r6,rfl,o8,p2,p3,o6,m3,p1,r,c7,c8,p0,o9,s6,l3,o3,l4,s7⟩:=Zr b3;have c0:=a5.out.wd;have b8:=Q5z b3 c0 d0.out.tab i (by rw [d.out];exact j9) (by rw [d.out,q.out];omega);rw [d.out] at b8 c0;obtain⟨U,e1⟩:=zE (Zt l H i);rw [e1] at b8;obtain⟨c5,c6,g2,m7,m2⟩:=Zh5 b8 e1 S c0 b3;clear b8 e1 S b3 c0 b1 Q b0
 go_wp2_with (first | (refine wpList_load_row rfl 102 (.tmp 2) rfl BL rfl _ _ _ _ g2.out Tryz.underlying102 rfl Tryz.lawInfo ?_) | fail)
 refine c5.out.mono ?_;rintro L n0 ⟨rfl,G⟩;have s:=a5.out.ext G I.out;have b6:=d3.out n0 s.t;cases U;case false=>
  have j0:=c9.out.miss (by rw [d.out,q.out];exact e5) c6.out;have m5:=Zh j0;have r:=Zh s;have f:=Hd s.n;rw [d.out] at f;have l7:=Zh f;clear j0 s b6 c5 G B f;go_wp2;refine⟨⟨a7,A,H,i+1,f7,f6,tz,rfl,m5.out,r.out⟩,?_⟩;rw [c4.out,l7.out];simp [intOf];omega
 have B:=cell_of_one s.n;rw [d.out] at B;have p:=s.wd;rw [d.out] at p;have k7:=Sb b6.law.2 p d.out (by have:=s.cap;rw [d.out] at this;exact this) i (by rw [q.out];exact e5) l9.out (by rw [J.out];omega) oz;have S:=b6.law.1;have l1:Yf (Y1 l H i):=by
  have F:=p.2;intro f5 k;unfold Y1 Ku at k;rcases List.mem_append.1 k with k | k
  ·rcases List.mem_append.1 k with k | k
   ·exact F f5 (List.mem_of_mem_take k)
   ·exact Wr (fun x hx=>F x (List.mem_of_mem_drop (List.mem_of_mem_take hx))) m3.out.2 f5 k
  ·exact F f5 (List.mem_of_mem_drop k)
 obtain⟨g7,g3,r,i0⟩:=Zh4 k7 S s l1;obtain⟨j1,l5,k9⟩:=c9.out.hit c6.out;have g5:=Zh j1;have d2:=Zh k9;clear k7 S s b6 p l1 j1 k9 c5 G;go_upto_region 17 with (first | (refine wpList_load_row rfl 102 (.tmp 2) rfl BL rfl _ _ _ _ g3.out Tryz.underlying102 rfl Tryz.lawInfo ?_) | (go_at_call 230;refine g7.out.mono ?_;rintro L n1 ⟨s8,rfl,d7,C⟩;obtain⟨a2,a1,rfl⟩:=Zd d7;have n4:=cell_of_one (C.keep r.out.n);have n5:=free_of_one (C.keep r.out.n)))
 obtain⟨a8,v,_,b5⟩:=(r.out).put2 m1.out d7 C i0.out (Nat.le_refl 2) I.out;have o1:=(r.out.lt _ r.out.on).2;obtain⟨n2,j3⟩:=zE (n1.setCell ⟨e+1,0,none⟩ (.slice a2 (Y1 l H i).length a1));rw [j3] at v b5 ⊢;clear j3 d7 C B n4 n5 g7 g3 g2 r i0 m2 m7 a5 d0;obtain⟨z,b9⟩:=zE (Y1 l H i);rw [b9] at v b5 g5 d2;have k4:=Ve (l:=l) (u:=H) (i:=i) (by rw [d.out,q.out];exact e5);rw [b9,d.out,q.out,J.out] at k4;rw [b9];obtain⟨o4,V⟩:=zE z.length;rw [V] at k4;have B:=cell_of_one v.n;rw [V] at B;have b0:=cell_of_one v.y;obtain⟨q7,s9,q1,q4,l2,j6⟩:=d5.out a8 A (i,z) l5 n2 #[.int .i64 (i:Int),.slice a2 o4 a1] d2.out v.j ⟨a2,a1,by rw [V],v.wd,v.cap,fun g o n c L h0'=>by obtain⟨l3,o3,l4⟩:=b5 g o n c L h0';exact⟨l3,by omega,l4⟩⟩;clear b5 o1;obtain⟨m4,m8,g8⟩:=Zh3 v j6 V;clear v j6 V b9 c6;rw [g8.out];refine(wpIn_wide (n:=0)).1 ?_;gi_wp2;refine m8.out.mono ?_;rintro L n3 (⟨rfl,i6,k1⟩ | ⟨rfl,i7,_⟩)
 ·have b4:=m4.out.yielded i6 k1;have d8:=d3.out n3 b4.t;have b1:=cell_of_one d8.bk;have Q:=cell_of_one d8.bm;rw [q.out] at b1;rw [J.out] at Q;have f:=Hd b4.n;rw [g8.out] at f;have c8:=Zh b4;have f8:=Zh f;clear b4 d8 f l2 B b0 i6 k1;have e8:=g5.out;rw [q.out,J.out] at e8;have g6:=Zh e8;clear e8;by_cases k0:Z=0
  ·subst k0;gi_wp2;go_wp2;refine⟨⟨a8,A++[(i,z)],z,i+f4+1,a2,a1,tz,rfl,g6.out,c8.out⟩,?_⟩;rw [c4.out,f8.out];simp [intOf];omega
  ·have q8:((Z:Int) == 0)=false:=by rw [beq_eq_false_iff_ne];omega
   have e9:=g6.out;rw [if_neg k0,Nat.add_zero] at e9;have m6:=Zh e9;clear e9;gi_wp2;go_wp2;refine⟨⟨a8,A++[(i,z)],z,i+f4,a2,a1,tz,rfl,m6.out,c8.out⟩,?_⟩;rw [c4.out,f8.out];simp [intOf];omega
 ·have m0:=Zh i7;clear i7 l2;gi_wp2;go_wp2;refine bodyPost_ret (results_none rfl _ _ _) rfl ?_;exact⟨⟨_,rfl⟩,a8,.inr ⟨A,(i,z),l5,d2.out,m0.out⟩⟩
theorem Qc6{w:World}{BW BL a7 a8:Nat}{l:Q5}{cs:List Value}{vo:Option Addr}{vc:Nat}{ws:Wd}{K:Nat->Prop}(l3:Yg l=true)(g0:l.mode=3)(p4:ws.length<=32)(f3:ws.length<=vc)(f7:Qw K (.slice vo ws.length vc))
  (k2:∀ b,K b->b<w.heap.size) (G:∀ W,Q0 (fun b=>¬ K b) w W->Q1q W BW BL a7 a8 l cs vo vc ws) :
  Gt Tryz.prog 225 #[.pointer (some ⟨BW,0,none⟩),.pointer (some ⟨BL,0,none⟩),.pointer (some ⟨a7,0,none⟩),.pointer (some ⟨a8,0,none⟩)] (Xr 2) (Q3z 2) (Qt l ws) K w:=by
 intro a3 n9 r0 W g5 j8 o6 k7 j7;obtain⟨o9,l5,l2,_,l0,_,_,_⟩:=Uv l3;have b6:=G W g5;have l6:=b6.law.box.mode;rw [g0] at l6;obtain⟨T,g6⟩:=zE ws.length;have b4:=cell_of_one b6.box;rw [g6] at b4 p4 f3 f7;obtain⟨i4,N,d5,m9,c9,M,d7,i2⟩:=Zh8 f7 g6 G l0 g0 j8 k7 j7;have d6:=Zh g5;have a9:=Zh b6;obtain⟨B,f6⟩:=zE l.ifs.length;obtain⟨p5,f9⟩:=zE l.outs.length;rw [f6] at o9 l2;rw [f9] at l5 l2;have k:=Zh f6;have U:=Zh f9;clear G l0 g0 j8 o6 k7 j7 g5 b6 l3 g6 f7 f6 f9;show Calls _ _ #[.func (.yield a3) #[] #[],.pointer (some ⟨BW,0,none⟩),.pointer (some ⟨BL,0,none⟩),.pointer (some ⟨a7,0,none⟩),.pointer (some ⟨a8,0,none⟩)] _ _;go_enter Tryz.func225,Tryz.ntmps225;have e8:=a9.out.law.box.mode;rw [c9.out] at e8;go_upto_region 1 with (fail)
 obtain⟨S,r⟩:=zE (W.alloc (.cells #[.func (.yield a3) #[] #[]] 266));have J:Ext W S:=by rw [<-r];exact(Q0.refl _ W).alloc _
 have f2:S.heap[W.heap.size]?=some (.cells #[.func (.yield a3) #[] #[]] 266 (0,0)):=by rw [<-r];exact Q3 rfl
 have g4:S.heap.size=W.heap.size+1:=by rw [<-r];simp
 rw [r];obtain⟨e,c1⟩:=zE W.heap.size;rw [c1] at f2 g4 ⊢;have f5:=M.out;have g7:=d7.out;rw [c1] at f5 g7;have q3:=M;have M:=Zh f5;have d7:=Zh g7;clear f5 g7;have n1:Hid (∀ b,K b->b<e):=Zh fun b Z=>by have:=k2 b Z;have:=d6.out.size;omega
 have j4:=Zh c1;have b1:=Zh g4;clear k2;have b4:=J.cell_some b4 id;clear r c1 g4 l6;go_upto_region 2 with (fail)
 rw [b1.out];obtain⟨c6,a2⟩:=zE (S.alloc (.cells #[.slice vo T vc] 99));have F:Ext S c6:=by rw [<-a2];exact(Q0.refl _ S).alloc _
 have e9:Jf c6 (e+1) (.slice vo T vc):=by rw [<-a2];exact Q3 b1.out.symm
 have l8:c6.heap.size=e+2:=by rw [<-a2];simp [b1.out]
 have k8:=F.keep f2;rw [a2];have Q:=J.trans F;have p0:=Q.cell_some e8 id;have d3:=Zh l8;clear a2 b4 f2 J F e8 l8;have j9:=M.out _ (fun b=>b=e\/b=e+1) [] _ _ i2.out (Ext.of Q) (fun b Z=>by have:=j4.out;have:=d3.out;omega);have i3:=Zh j9;have k5:Q0 (fun b=>¬ K b) w c6:=d6.out.trans (Ext.of Q);clear j9;have I:=Q.cell_some (cell_of_one a9.out.bk) id;rw [k.out] at I;have p:=cell_of_one e9;go_wp2;clear I p;have p1:Ja l ws [] ws ((T:Int) - (B:Int)+1).toNat:=by
  have j6:=Ja.start (l:=l) (ws:=ws) (by rw [c9.out];decide) (by rw [c9.out];decide);rw [N.out,k.out] at j6;rw [show ((T:Int) - (B:Int)+1).toNat=T+1 - B by omega];exact j6
 obtain⟨j2,j5,d0⟩:=Zh3 k5 k8 e9;clear k5 k8 e9 p0
 refine wp_loop (fun a d8=>∃(b2:Nat->Prop) (E:List (Nat × Wd)) (u:Wd) (H:Int) (i1:Option Addr) (i0:Nat),a.defers=[]/\(a.tmps.size=117/\a.tmps.getD 0 undef=.func (.yield a3) #[] #[]/\a.tmps.getD 1 undef=.pointer (some ⟨BW,0,none⟩)/\a.tmps.getD 2 undef=.pointer (some ⟨BL,0,none⟩)/\a.tmps.getD 3 undef=.pointer (some ⟨a7,0,none⟩)/\a.tmps.getD 4 undef=.pointer (some ⟨a8,0,none⟩)/\a.tmps.getD 5 undef=.pointer (some ⟨e,0,none⟩)/\a.tmps.getD 6 undef=.pointer (some ⟨e+1,0,none⟩)/\a.tmps.getD 11 undef=.int .i64 H)/\-5<=H/\H<=300/\Ja l ws E u (H+1).toNat/\Jb w d8 K b2 n9 e a3 E u i1 i0)
  (fun a _=>(intOf (a.tmps.getD 11 undef)+1).toNat) ?_ ?_
 ·refine⟨(fun b=>b=e\/b=e+1),[],ws,(T:Int) - (B:Int),vo,vc,rfl,⟨rfl,rfl,rfl,rfl,rfl,rfl,rfl,rfl,rfl⟩,by omega,by omega,p1,⟨i3.out,.inl rfl,.inr rfl,fun b Z=>by have:=d3.out;omega,j2.out,j5.out,?_,?_,?_,?_⟩⟩
  ·rw [N.out];exact d0.out
  ·exact a9.out.word.ext Q
  ·rw [N.out];exact f3
  ·rw [N.out];exact fun g o n c O h0'=>.inl (i4.out g o n c O h0')
 clear i3 i2 j2 j5 d0 a9 Q d6 j4 b1 d3 f3 i4;rintro⟨t,_⟩ d8 ⟨b2,E,g9,H,i1,i0,o7,⟨m0,d9,e0,e2,e3,e4,e5,e6,e1⟩,s7,s8,A,R⟩;obtain⟨L,rfl⟩:∃ x,x=g9:=⟨_,rfl⟩;subst o7;obtain⟨g9,m1⟩:=Qv m0;obtain⟨u,rfl⟩:∃ x,x=g9:=⟨_,rfl⟩;have p2:t=#[u 0,u 1,u 2,u 3,u 4,u 5,u 6,u 7,u 8,u 9,u 10,u 11,u 12,u 13,u 14,u 15,u 16,u 17,u 18,u 19,u 20,u 21,u 22,u 23,u 24,u 25,u 26,u 27,u 28,u 29,u 30,u 31,u 32,u 33,u 34,u 35,u 36,u 37,u 38,u 39,u 40,u 41,u 42,u 43,u 44,u 45,u 46,u 47,u 48,u 49,u 50,u 51,u 52,u 53,u 54,u 55,u 56,u 57,u 58,u 59,u 60,u 61,u 62,u 63,u 64,u 65,u 66,u 67,u 68,u 69,u 70,u 71,u 72,u 73,u 74,u 75,u 76,u 77,u 78,u 79,u 80,u 81,u 82,u 83,u 84,u 85,u 86,u 87,u 88,u 89,u 90,u 91,u 92,u 93,u 94,u 95,u 96,u 97,u 98,u 99,u 100,u 101,u 102,u 103,u 104,u 105,u 106,u 107,u 108,u 109,u 110,u 111,u 112,u 113,u 114,u 115,u 116]:=m1;clear m1;subst p2;change u 0=_ at d9;change u 1=_ at e0;change u 2=_ at e2;change u 3=_ at e3;change u 4=_ at e4;change u 5=_ at e5;change u 6=_ at e6;change u 11=_ at e1;rw [d9,e0,e2,e3,e4,e5,e6,e1];clear d9 e0 e2 e3 e4 e5 e6 e1 m0;have G:=d5.out d8 R.t;obtain⟨p8,c4⟩:=zE L.length;have f:=Hd R.n;have p:=cell_of_one R.n;have b5:=cell_of_one R.y;have I:=cell_of_one G.bk;have X:=cell_of_one G.bm;rw [k.out] at I;rw [U.out] at X;rw [c4] at p f;have o8:=few (t:=E.length) (n:=ws.length+1) (m:=p5) (by have:=A.2.1;omega) l5 (by rw [N.out];omega);have s6:p8<=230:=by
  have P:=A.2.2.1;rw [U.out,c4,N.out] at P;omega
 obtain⟨d,q1,V,b0,d2⟩:=Zh5 c4 f A R G;clear c4 f A R G o8;by_cases m4:0<=H;case neg=>
  have P:¬ (0:Int)<=H:=m4;have a0:=V.out;rw [show (H+1).toNat=0 by omega] at a0;have a0:=a0.done;have m8:=Zh a0;clear a0 X b5;go_wp2;go_end0
  exact⟨⟨_,rfl⟩,b2,.inl (by rw [m8.out];exact b0.out.j)⟩
 obtain⟨i,rfl⟩:=Int.eq_ofNat_of_zero_le m4;have A:=V.out;rw [show ((i:Int)+1).toNat=i+1 by omega] at A;have f8:=A.le;rw [d.out,k.out] at f8;have V:=Zh A;clear A;go_upto_region 24 with (fail)
 obtain⟨Y,b7⟩:=d2.out.law;obtain⟨t8,t1,u3,t3,t6,r5,r8,t9,r1,s1,t2,u4,t4,t7,r6,r9,u0,r2,s2,t0,r3,s9,u2,r4,u1,t5,rfl,q4,q8,q9,q2,n3,q7,s,d0,d1,q6,q5,u5,m5,p6,m6,u6⟩:=Zr b7;have c5:=b0.out.wd;have c2:=Q5z b7 c5 d2.out.tab i (by rw [d.out];omega) (by rw [d.out,k.out];omega);rw [d.out] at c2 c5;obtain⟨Z,f4⟩:=zE (Zt l L i);rw [f4] at c2;obtain⟨c7,c8,i5,n7,n2⟩:=Zh5 c2 f4 Y c5 b7;clear c2 f4 Y b7 c5 I X b5
 go_wp2_with (first | (refine wpList_load_row rfl 102 (.tmp 2) rfl BL rfl _ _ _ _ i5.out Tryz.underlying102 rfl Tryz.lawInfo ?_) | fail)
 refine c7.out.mono ?_;rintro O o0 ⟨rfl,J⟩;have v:=b0.out.ext J M.out;have c0:=d5.out o0 v.t;cases Z;case false=>
  have k3:=V.out.miss c8.out;have n5:=Zh k3;have s:=Zh v;have f:=Hd v.n;rw [d.out] at f;have p9:=Zh f;clear k3 v c0 c7 J p f;go_wp2;refine⟨⟨b2,E,L,(i:Int) - 1,i1,i0,tz,⟨rfl,rfl,rfl,rfl,rfl,rfl,rfl,rfl,rfl⟩,by omega,by omega,by rw [show ((i:Int) - 1+1).toNat=i by omega];exact n5.out,s.out⟩,?_⟩;simp [intOf]
 have p:=cell_of_one v.n;rw [d.out] at p;have r:=v.wd;rw [d.out] at r;have l7:=Sb c0.law.2 r d.out (by have:=v.cap;rw [d.out] at this;exact this) i (by rw [k.out];exact f8) m9.out (by rw [U.out];omega) oz;have Y:=c0.law.1;have m2:Yf (Y1 l L i):=by
  have P:=r.2;intro g8 q;unfold Y1 Ku at q;rcases List.mem_append.1 q with q | q
  ·rcases List.mem_append.1 q with q | q
   ·exact P g8 (List.mem_of_mem_take q)
   ·exact Wr (fun x hx=>P x (List.mem_of_mem_drop (List.mem_of_mem_take hx))) n3.out.2 g8 q
  ·exact P g8 (List.mem_of_mem_drop q)
 obtain⟨j0,i6,s,j3⟩:=Zh4 l7 Y v m2;obtain⟨k4,m7,l9⟩:=V.out.hit c8.out;have i8:=Zh k4;have d4:=Zh l9;clear l7 Y v c0 r m2 k4 l9 c7 J;go_upto_region 27 with (first | (refine wpList_load_row rfl 102 (.tmp 2) rfl BL rfl _ _ _ _ i6.out Tryz.underlying102 rfl Tryz.lawInfo ?_) | (go_at_call 230;refine j0.out.mono ?_;rintro O o1 ⟨u7,rfl,f0,F⟩;obtain⟨a6,a5,rfl⟩:=Zd f0;have o4:=cell_of_one (F.keep s.out.n);have o5:=free_of_one (F.keep s.out.n)))
 obtain⟨b3,z,_,b9⟩:=(s.out).put2 n1.out f0 F j3.out (Nat.le_refl 2) M.out;have p3:=(s.out.lt _ s.out.on).2;obtain⟨o2,k6⟩:=zE (o1.setCell ⟨e+1,0,none⟩ (.slice a6 (Y1 l L i).length a5));rw [k6] at z b9 ⊢;clear k6 f0 F p o4 o5 j0 i6 i5 s j3 n2 n7 b0 d2;obtain⟨C,c3⟩:=zE (Y1 l L i);rw [c3] at z b9 i8 d4;have l4:=Ve (l:=l) (u:=L) (i:=i) (by rw [d.out,k.out];exact f8);rw [c3,d.out,k.out,U.out] at l4;rw [c3];obtain⟨p7,a1⟩:=zE C.length;rw [a1] at l4;have p:=cell_of_one z.n;rw [a1] at p;have b5:=cell_of_one z.y;obtain⟨s3,u8,r7,s0,m3,k9⟩:=d7.out b3 E (i,C) m7 o2 #[.int .i64 (i:Int),.slice a6 p7 a5] d4.out z.j ⟨a6,a5,by rw [a1],z.wd,z.cap,fun g o n c O h0'=>by obtain⟨m5,p6,m6⟩:=b9 g o n c O h0';exact⟨m5,by omega,m6⟩⟩;clear b9 p3;obtain⟨n4,n8,j1⟩:=Zh3 z k9 a1;clear z k9 a1 c3 c8;rw [j1.out];refine(wpIn_wide (n:=0)).1 ?_;gi_wp2;refine n8.out.mono ?_;rintro O o3 (⟨rfl,k0,l1⟩ | ⟨rfl,k1,_⟩)
 ·have b8:=n4.out.yielded k0 l1;have f1:=d5.out o3 b8.t;have I:=cell_of_one f1.bk;have X:=cell_of_one f1.bm;rw [k.out] at I;rw [U.out] at X;have f:=Hd b8.n;rw [j1.out] at f;have d1:=Zh b8;have q0:=Zh f;clear b8 f1 f m3 p b5 k0 l1;have g2:=i8.out;rw [k.out] at g2;have n6:=Zh g2;clear g2;obtain⟨a4,g1⟩:=zE (max B 1);have g3:=n6.out;rw [g1] at g3;have s4:max (B:Int) 1=(a4:Int):=by omega
  have s5:a4<=4/\1<=a4:=by omega
  have i9:=Zh g3;have i7:=Zh g1;clear g3 g1;gi_wp2;go_wp2
  ·refine⟨⟨by omega,by omega,b3,E++[(i,C)],C,?_,a6,a5,d1.out⟩,nz⟩;have e7:=i9.out
   rwa [show a4=1 by have:=i7.out;omega,show i+1 - 1=i by omega] at e7
  ·refine⟨⟨by omega,by omega,b3,E++[(i,C)],C,?_,a6,a5,d1.out⟩,nz⟩;have e7:=i9.out;rw [show a4=B by have:=i7.out;omega] at e7
   rwa [show ((i:Int) - (B:Int)+1).toNat=i+1 - B by omega]
 ·have n0:=Zh k1;clear k1 m3;gi_wp2;go_wp2;refine bodyPost_ret (results_none rfl _ _ _) rfl ?_;exact⟨⟨_,rfl⟩,b3,.inr ⟨E,(i,C),m7,d4.out,n0.out⟩⟩
theorem Q9g{w:World}{ao:Option Addr}{N cap:Nat}{l:List X3}(J:Va w (.slice ao N cap) l) (H:l.length=N) (T:N<=maxLen) (f:Nat) (lb:Array Value) (k:∀ args w,(callFunc f args).run Tryz.prog w=.ok (.enter f args) w)
  (F:X3->Bool) (G:∀ x∈l,∀ V,Ext w V->Calls Tryz.prog f (#[.agg (Zu x).toArray]++lb) V fun e w'=>e=.returned (.bool (F x))/\Ext V w') :
  Calls Tryz.prog 199 #[.slice ao N cap,.func (.func f) #[] lb] w fun e w'=>∃ z:Int,e=.returned (.int .i64 z)/\decide (0<=z)=l.any F/\Ext w w':=by
 unfold maxLen at T;obtain⟨P,O,t,M⟩:=Zh4 J G H k;clear J G H k;go_enter Tryz.func199,Tryz.ntmps199;go_wp2
 refine wp_loop (fun a o=>∃(b:Nat),b<=N/\a.defers=[]/\gS a [0,1,7,8]=(19,[.slice ao N cap,.func (.func f) #[] lb,.int .i64 N,.int .i64 b])/\(l.take b).any F=false/\Ext w o)
  (fun a _=>N - (intOf (a.tmps.getD 8 undef)).toNat) ?_ ?_
 ·exact⟨0,by omega,rfl,rfl,by simp,Q0.refl _ _⟩
 rintro⟨a3,_⟩ o ⟨b,a1,R,L,I,g⟩;subst R;obtain⟨a4,rfl⟩:=Qj L;clear L;have q:=Zh I;clear I;by_cases S:b<N
 ·have Q:(b:Int)<(N:Int):=by omega
  have m:b<l.length:=by rw [t.out];exact S
  obtain⟨Z,a2,Y,K,a0,_,u,v,y,A,B,C⟩:=(P.out.ext g).at m;simp only [zV] at K;obtain⟨rfl,U,rfl⟩:=K;clear U;have i:=O.out _ (List.getElem_mem m) o g;obtain⟨x,n⟩:=zE (l[b]);have W:Hid (l[b]=x):=Zh n;rw [n] at u v y A B C i;unfold Zu at i;obtain⟨j,p⟩:=zE (F x);rw [p] at i;have r:Hid (F l[b]=j):=Zh (by rw [n];exact p);have s:=Zh i;clear i n p;have k:=M.out;go_wp2_with fail;clear k;refine s.out.mono ?_;rintro e X ⟨rfl,E⟩;have D:=g.trans E;clear s g E u v y A B C;cases j
  ·have c:(l.take (b+1)).any F=false:=by
    rw [List.take_succ_eq_append_getElem m,List.any_append,q.out];simp [r.out]
   have d:=Zh c;clear c;go_wp2;exact⟨⟨b+1,by omega,tz,rfl,d.out,D⟩,nz⟩
  ·have c:l.any F=true:=List.any_eq_true.2 ⟨_,List.getElem_mem m,r.out⟩;have d:=Zh c;clear c;go_wp2;go_ret;exact⟨_,rfl,by rw [d.out];simp,D⟩
 ·obtain rfl:b=N:=by omega
  have Q:¬ (b:Int)<(b:Int):=by omega
  have c:l.any F=false:=by have:=q.out;rwa [List.take_of_length_le (by rw [t.out];exact Nat.le_refl _)] at this
  have d:=Zh c;clear c;go_wp2;go_ret;exact⟨_,rfl,by rw [d.out];simp,g⟩
theorem Q2d{w:World}{ao:Option Addr}{N cap:Nat}{l:List X3}(g:Va w (.slice ao N cap) l) (c:l.length=N) (n:N<=maxLen) (a:Nat) (lb:Array Value) (d:∀ args w,(callFunc a args).run Tryz.prog w=.ok (.enter a args) w)
  (F:X3->Bool) (b:∀ x∈l,∀ V,Ext w V->Calls Tryz.prog a (#[.agg (Zu x).toArray]++lb) V fun e w'=>e=.returned (.bool (F x))/\Ext V w') :
  Calls Tryz.prog 174 #[.slice ao N cap,.func (.func a) #[] lb] w fun e w'=>e=.returned (.bool (l.any F))/\Ext w w':=by
 have f:=Q9g g c n (cap:=cap) a lb d F b;have j:=Zh f;clear f b g d c;go_enter Tryz.func174,Tryz.ntmps174;go_wp2_with fail;refine j.out.mono ?_;rintro e o ⟨p,rfl,i,m⟩;have k:=Zh i;clear i;go_wp2;go_ret;exact⟨by rw [<-k.out];rfl,m⟩
theorem Qb1{w:World}{ao:Option Addr}{N cap:Nat}{l:List (Nat × Nat)} (G:Q6 w (.slice ao N cap) l) (C:l.length=N) (Q:N<=maxLen) (f:Nat) (lb:Array Value) (o:∀ args w,(callFunc f args).run Tryz.prog w=.ok (.enter f args) w)
  (F:(Nat × Nat)->Bool) (B:∀ x∈l,∀ V,Ext w V->Calls Tryz.prog f (#[sV x]++lb) V fun e w'=>e=.returned (.bool (F x))/\Ext V w') :
  Calls Tryz.prog 198 #[.slice ao N cap,.func (.func f) #[] lb] w fun e w'=>∃ z:Int,e=.returned (.int .i64 z)/\decide (0<=z)=l.any F/\Ext w w':=by
 unfold maxLen at Q;obtain⟨L,K,v,J⟩:=Zh4 G B C o;clear G B C o;go_enter Tryz.func198,Tryz.ntmps198;go_wp2
 refine wp_loop (fun a p=>∃(b:Nat),b<=N/\a.defers=[]/\gS a [0,1,7,8]=(19,[.slice ao N cap,.func (.func f) #[] lb,.int .i64 N,.int .i64 b])/\(l.take b).any F=false/\Ext w p)
  (fun a _=>N - (intOf (a.tmps.getD 8 undef)).toNat) ?_ ?_
 ·exact⟨0,by omega,rfl,rfl,by simp,Q0.refl _ _⟩
 rintro⟨a1,_⟩ p ⟨b,Z,O,I,D,g⟩;subst O;obtain⟨a2,rfl⟩:=Qj I;clear I;have s:=Zh D;clear D;by_cases P:b<N
 ·have M:(b:Int)<(N:Int):=by omega
  have i:b<l.length:=by rw [v.out];exact P
  obtain⟨X,a0,W,H,Y,k,m⟩:=(L.out.ext g).at i;simp only [zV] at H;obtain⟨rfl,R,rfl⟩:=H;clear R;have E:l.getD b (0,0)=l[b]:=by rw [List.getD_eq_getElem?_getD,List.getElem?_eq_getElem i];rfl
  rw [E] at k m;have n:=K.out _ (List.getElem_mem i) p g;obtain⟨x,r⟩:=zE (l[b]);rw [r] at k m n;obtain⟨S,T⟩:=x;dsimp only at k m;obtain⟨j,q⟩:=zE (F (S,T));rw [q] at n;have t:Hid (F l[b]=j):=Zh (by rw [r];exact q);have u:=Zh n;clear n r q E;have o:=J.out;go_wp2_with fail;clear o;refine u.out.mono ?_;rintro e U ⟨rfl,A⟩;have y:=g.trans A;clear u g A k m;cases j
  ·have c:(l.take (b+1)).any F=false:=by
    rw [List.take_succ_eq_append_getElem i,List.any_append,s.out];simp [t.out]
   have d:=Zh c;clear c;go_wp2;exact⟨⟨b+1,by omega,tz,rfl,d.out,y⟩,nz⟩
  ·have c:l.any F=true:=List.any_eq_true.2 ⟨_,List.getElem_mem i,t.out⟩;have d:=Zh c;clear c;go_wp2;go_ret;exact⟨_,rfl,by rw [d.out];simp,y⟩
 ·obtain rfl:b=N:=by omega
  have M:¬ (b:Int)<(b:Int):=by omega
  have c:l.any F=false:=by have:=s.out;rwa [List.take_of_length_le (by rw [v.out];exact Nat.le_refl _)] at this
  have d:=Zh c;clear c;go_wp2;go_ret;exact⟨_,rfl,by rw [d.out];simp,g⟩
theorem Q2j{w:World}{ao:Option Addr}{N cap:Nat}{l:List (Nat × Nat)} (g:Q6 w (.slice ao N cap) l) (c:l.length=N) (n:N<=maxLen) (a:Nat) (lb:Array Value) (d:∀ args w,(callFunc a args).run Tryz.prog w=.ok (.enter a args) w)
  (F:(Nat × Nat)->Bool) (b:∀ x∈l,∀ V,Ext w V->Calls Tryz.prog a (#[sV x]++lb) V fun e w'=>e=.returned (.bool (F x))/\Ext V w') :
  Calls Tryz.prog 173 #[.slice ao N cap,.func (.func a) #[] lb] w fun e w'=>e=.returned (.bool (l.any F))/\Ext w w':=by
 have f:=Qb1 g c n (cap:=cap) a lb d F b;have j:=Zh f;clear f b g d c;go_enter Tryz.func173,Tryz.ntmps173;go_wp2_with fail;refine j.out.mono ?_;rintro e o ⟨p,rfl,i,m⟩;have k:=Zh i;clear i;go_wp2;go_ret;exact⟨by rw [<-k.out];rfl,m⟩
theorem Q6u{x:X3}(p:Jh x){k d:Nat}(o:k<=9223372036854775807){w:World}(i:w.heap[d]?=some (.cells #[.int .i64 (k:Int)] 3 (0,0))) :
  Calls Tryz.prog 167 #[.agg (Zu x).toArray,.pointer (some ⟨d,0,none⟩)] w fun e w'=>e=.returned (.bool (!Yl k x))/\Ext w w':=by
 have b:Ext w (w.alloc (.cells (Zu x).toArray 109)):=(Q0.refl _ w).alloc _;have l:=cell_of_one (b.keep i);have c:=Qcc p k o (w.alloc (.cells (Zu x).toArray 109));obtain⟨a,j⟩:=zE (Yl k x);rw [j] at c ⊢;have f:=Zh c;have g:=Zh b;clear j c b i;unfold Zu at f l g ⊢;go_enter Tryz.func167,Tryz.ntmps167;go_wp2_with fail;refine f.out.mono ?_;rintro e q ⟨rfl,m⟩;have n:=g.out.trans m;cases a
 all_goals
  go_wp2;go_ret;exact⟨rfl,n⟩
theorem Q7y{s:Nat × Nat}(k:Z1 s)(w:World) :
  Calls Tryz.prog 169 #[sV s] w fun e w'=>e=.returned (.bool (!okS s))/\Ext w w':=by
 have c:Ext w (w.alloc (.cells #[.int .u32 (s.1:Int),.int .u32 (s.2:Int)] 95)):=(Q0.refl _ w).alloc _;have b:=Uw k (w.alloc (.cells #[.int .u32 (s.1:Int),.int .u32 (s.2:Int)] 95));obtain⟨a,d⟩:=zE (okS s);rw [d] at b ⊢;have f:=Zh b;have g:=Zh c;clear d b c;go_enter Tryz.func169,Tryz.ntmps169;go_wp2_with fail;refine f.out.mono ?_;rintro e l ⟨rfl,i⟩;have j:=g.out.trans i;cases a
 all_goals
  go_wp2;go_ret;exact⟨rfl,j⟩
theorem S9(s:ByteArray):s=⟨s.data.toList.toArray⟩:=by
 cases s;simp
theorem Qe0(l:Q5):Yg l=if Us l.name=false then false else if Zw l.left≠0 then false else if Zw l.right≠0 then false else if 4<l.ifs.length then false else if 6<l.outs.length then false else if l.ifs.length+l.outs.length=0 then false else
  if l.mode<1\/3<l.mode then false else if (l.ifs.any fun s=>!okS s)=true then false else if (l.outs.any fun x=>!Yl l.ifs.length x)=true then false else true:=by
 unfold Yg;have g:l.ifs.all okS=!(l.ifs.any fun s=>!okS s):=by simp [List.any_eq_not_all_not]
 have i:l.outs.all (Yl l.ifs.length)=!(l.outs.any fun x=>!Yl l.ifs.length x):=by simp [List.any_eq_not_all_not]
 rw [g,i];cases Us l.name
 ·simp
 rw [if_neg zd];by_cases b:Zw l.left=0;case neg=>rw [if_pos b,decide_eq_false b];simp
 rw [if_neg (fun q=>q b),decide_eq_true b];by_cases c:Zw l.right=0;case neg=>rw [if_pos c,decide_eq_false c];simp
 rw [if_neg (fun q=>q c),decide_eq_true c];by_cases e:4<l.ifs.length
 ·rw [if_pos e,decide_eq_false (by omega:¬ l.ifs.length<=4)];simp
 rw [if_neg e,decide_eq_true (by omega:l.ifs.length<=4)];by_cases f:6<l.outs.length
 ·rw [if_pos f,decide_eq_false (by omega:¬ l.outs.length<=6)];simp
 rw [if_neg f,decide_eq_true (by omega:l.outs.length<=6)];by_cases d:l.ifs.length+l.outs.length=0
 ·rw [if_pos d,decide_eq_false (by omega:¬ (l.ifs.length+l.outs.length≠0))];simp
 rw [if_neg d,decide_eq_true d];by_cases a:l.mode<1\/3<l.mode
 ·rw [if_pos a];rcases a with a | a
  ·rw [decide_eq_false (by omega:¬ 1<=l.mode)];simp
  ·rw [decide_eq_false (by omega:¬ l.mode<=3)];simp
 rw [if_neg a,decide_eq_true (by omega:1<=l.mode),decide_eq_true (by omega:l.mode<=3)];cases (l.ifs.any fun s=>!okS s) <;> cases (l.outs.any fun x=>!Yl l.ifs.length x) <;> rfl
theorem Fi{c:Prop} [Decidable c] {b:Bool} {z:Int} (h:(if b=true then(0:Int) else 17)=z):(if (if c then false else b)=true then(0:Int) else 17)=if c then 17 else z:=by
 subst h;by_cases a:c <;> simp [a]
theorem Ex(l:Q5):Un l=if Us l.name=false then 17 else if Zw l.left≠0 then 17 else if Zw l.right≠0 then 17 else if 4<l.ifs.length then 17 else if 6<l.outs.length then 17 else if l.ifs.length+l.outs.length=0 then 17 else
  if l.mode<1\/3<l.mode then 17 else if (l.ifs.any fun s=>!okS s)=true then 17 else if (l.outs.any fun x=>!Yl l.ifs.length x)=true then 17 else 0:=by
 unfold Un;rw [Qe0];exact Fi (Fi (Fi (Fi (Fi (Fi (Fi (Fi (Fi rfl))))))))
theorem Tx{w:World}{l:Q5}{cs:List Value}(f3:Zf w l cs)(d0:Tab w) :
  Calls Tryz.prog 127 #[.agg cs.toArray] w fun e w'=>e=.returned (.int .i64 (Un l))/\Ext w w':=by
 obtain⟨n,T,a4,W,Y,H,J,a0,F,L,U,a5,X,Z,I,K,a1,G,M,S,a,R,a3,k,a2,p,rfl,f7,d7,d8,b0,c3,d6,f8,f9,c0,c1,d5,g4,i0,i1,g5,i2⟩:=Zr f3;have Q:=S9 n;have f6:n.data.toList.length<=9223372036854775807:=by rw [Array.length_toList];exact g4
 have c2:Hid (∀ V,Ext w V->Calls Tryz.prog 171 #[.string n] V fun e w'=>e=.returned (.bool (Us n))/\Ext V w'):=Zh fun V _=>by
  have:=Qbe n.data.toList f6 V;rw [<-Q] at this;exact this
 have c4:Hid (∀ V,Ext w V->Calls Tryz.prog 172 #[.agg #[.int .i64 T,.int .u32 (a4:Int),.int .u32 (W:Int),.bool Y,.int .i64 H,.int .i64 J,.slice a0 F L]] V fun e w'=>e=.returned (.int .i64 (Zw l.left))/\Ext V w'):=
  Zh fun V hE=>Pn (d7.out.ext hE) (fun g hg=>Nat.lt_of_lt_of_le hg hE.size) (d0.keep hE id)
 have c5:Hid (∀ V,Ext w V->Calls Tryz.prog 172 #[.agg #[.int .i64 U,.int .u32 (a5:Int),.int .u32 (X:Int),.bool Z,.int .i64 I,.int .i64 K,.slice a1 G M]] V fun e w'=>e=.returned (.int .i64 (Zw l.right))/\Ext V w'):=
  Zh fun V hE=>Pn (d8.out.ext hE) (fun g hg=>Nat.lt_of_lt_of_le hg hE.size) (d0.keep hE id)
 have a9:Hid (∀ V,Ext w V->Calls Tryz.prog 173 #[.slice S a R,.func (.func 169) #[] #[]] V fun e w'=>e=.returned (.bool (l.ifs.any fun s=>!okS s))/\Ext V w'):=
  Zh fun V hE=>Q2j (b0.out.ext hE) c0.out (by unfold maxLen;omega) _ #[] (enters_of Tryz.func169 kz rfl) (fun s=>!okS s) (fun s Q V2 _=>Q7y (b0.out.2 s Q) V2)
 have a8:Hid (∀(Bk:Nat) V,Ext w V->V.heap[Bk]?=some (.cells #[.int .i64 (a:Int)] 3 (0,0))->Calls Tryz.prog 174 #[.slice a3 k a2,.func (.func 167) #[] #[.pointer (some ⟨Bk,0,none⟩)]] V fun e w'=>e=.returned (.bool (l.outs.any fun x=>!Yl a x))/\Ext V w'):=
  Zh fun Bk V hE hb=>Q2d (c3.out.ext hE) c1.out (by unfold maxLen;omega) _ #[.pointer (some ⟨Bk,0,none⟩)] (enters_of Tryz.func167 kz rfl) (fun x=>!Yl a x) (fun x hx V2 z=>Q6u (c3.out.2 x hx) g5 (z.keep hb))
 have i:Hid (Un l=if Us n=false then 17 else if Zw l.left≠0 then 17 else if Zw l.right≠0 then 17 else if 4<a then 17 else if 6<k then 17 else if a+k=0 then 17 else if p<1\/3<p then 17 else if (l.ifs.any fun s=>!okS s)=true then 17 else if (l.outs.any fun x=>!Yl a x)=true then 17 else 0):=Zh (by
  rw [Ex,d6.out,c0.out,c1.out,d5.out])
 obtain⟨f,e7⟩:=zE (Un l);rw [e7] at i ⊢;obtain⟨g3,f5⟩:=zE (Us n);obtain⟨d9,f0⟩:=zE (Zw l.left);obtain⟨e0,f1⟩:=zE (Zw l.right);obtain⟨c8,e9⟩:=zE (l.ifs.any fun s=>!okS s);obtain⟨c7,e8⟩:∃ x,(l.outs.any fun x=>!Yl a x)=x:=⟨_,rfl⟩;rw [f5] at c2 i;rw [f0] at c4 i;rw [f1] at c5 i;rw [e9] at a9 i;rw [e8] at a8 i;clear f3 Q f6 d0 e7 f5 f0 f1 e9 e8 f7 d7 d8 b0 c3 d6 f8 f9 c0 c1 d5;go_enter Tryz.func127,Tryz.ntmps127;go_upto_region 1 with (fail)
 obtain⟨a6,C⟩:=zE (w.alloc (.cells #[.string n,.int .i64 T,.int .u32 (a4:Int),.int .u32 (W:Int),.bool Y,.int .i64 H,.int .i64 J,.slice a0 F L,.int .i64 U,.int .u32 (a5:Int),.int .u32 (X:Int),.bool Z,.int .i64 I,.int .i64 K,.slice a1 G M,.slice S a R,.slice a3 k a2,.int .i64 p] 102));have e5:Ext w a6:=by rw [<-C];exact(Q0.refl _ w).alloc _
 have P:a6.heap[w.heap.size]?=some (.cells #[.string n,.int .i64 T,.int .u32 (a4:Int),.int .u32 (W:Int),.bool Y,.int .i64 H,.int .i64 J,.slice a0 F L,.int .i64 U,.int .u32 (a5:Int),.int .u32 (X:Int),.bool Z,.int .i64 I,.int .i64 K,.slice a1 G M,.slice S a R,.slice a3 k a2,.int .i64 p] 102 (0,0)):=by rw [<-C];exact Q3 rfl
 have d1:a6.heap.size=w.heap.size+1:=by rw [<-C];simp
 rw [C];obtain⟨d2,e4⟩:=zE w.heap.size;rw [e4] at P d1 ⊢;have t:=cell_of_row _ _ 15 _ _ _ P;have c6:=Zh d1;have d3:=Zh P;clear C e4 d1 P;go_upto_region 4 with (fail)
 rw [c6.out];obtain⟨a7,E⟩:=zE (a6.alloc (.cells #[.int .i64 (a:Int)] 3));have c9:Ext w a7:=by rw [<-E];exact e5.alloc _
 have f2:a7.heap[d2+1]?=some (.cells #[.int .i64 (a:Int)] 3 (0,0)):=by rw [<-E];exact Q3 c6.out.symm
 have f4:a7.heap[d2]?=some (.cells #[.string n,.int .i64 T,.int .u32 (a4:Int),.int .u32 (W:Int),.bool Y,.int .i64 H,.int .i64 J,.slice a0 F L,.int .i64 U,.int .u32 (a5:Int),.int .u32 (X:Int),.bool Z,.int .i64 I,.int .i64 K,.slice a1 G M,.slice S a R,.slice a3 k a2,.int .i64 p] 102 (0,0)):=by rw [<-E];exact Q8 d3.out
 rw [E];have b6:=Zh f4;have b1:=Zh f2;clear E f2 f4 t d3 c6 e5;have t:=zR b6.out;have A:=cell_of_one b1.out;go_wp2_with fail;refine(c2.out a7 c9).mono ?_;rintro e g6 ⟨rfl,c⟩;have z:=c9.trans c;have b7:=Zh (c.keep b6.out);have b2:=Zh (c.keep b1.out);have t:=zR b7.out;have A:=cell_of_one b2.out;clear c b6 b1 c9 c2;cases g3
 ·have d:Hid (f=17):=Zh (by rw [i.out];rfl);clear i;go_wp2;go_ret;exact⟨by rw [d.out];rfl,z⟩
 go_wp2_with fail;refine(c4.out g6 z).mono ?_;rintro e g7 ⟨rfl,c⟩;have N:=z.trans c;have b8:=Zh (c.keep b7.out);have b3:=Zh (c.keep b2.out);have t:=zR b8.out;have A:=cell_of_one b3.out;clear c b7 b2 z c4;by_cases u:d9=0;case neg=>
  have g2:(d9 != 0)=true:=by rw [bne_iff_ne];exact u
  have d:Hid (f=17):=Zh (by rw [i.out,if_neg zd,if_pos u]);clear i;go_wp2;go_ret;exact⟨by rw [d.out];rfl,N⟩
 subst u;go_wp2_with fail;refine(c5.out g7 N).mono ?_;rintro e g8 ⟨rfl,c⟩;have o:=N.trans c;have b9:=Zh (c.keep b8.out);have b4:=Zh (c.keep b3.out);have t:=zR b9.out;have A:=cell_of_one b4.out;clear c b8 b3 N c5;by_cases u:e0=0;case neg=>
  have g2:(e0 != 0)=true:=by rw [bne_iff_ne];exact u
  have d:Hid (f=17):=Zh (by rw [i.out,if_neg zd,if_neg zd,if_pos u]);clear i;go_wp2;go_ret;exact⟨by rw [d.out];rfl,o⟩
 subst u;have m:Hid (f=if 4<a then 17 else if 6<k then 17 else if a+k=0 then 17 else if p<1\/3<p then 17 else if c8=true then 17 else if c7=true then 17 else 0):=Zh (by rw [i.out];rfl);clear i;by_cases y:4<a
 ·have e1:(4:Int)<(a:Int):=by omega
  have d:Hid (f=17):=Zh (by rw [m.out,if_pos y]);clear m;go_wp2;go_ret;exact⟨by rw [d.out];rfl,o⟩
 by_cases B:6<k
 ·have e1:¬ (4:Int)<(a:Int):=by omega
  have g0:(6:Int)<(k:Int):=by omega
  have d:Hid (f=17):=Zh (by rw [m.out,if_neg y,if_pos B]);clear m;go_wp2;go_ret;exact⟨by rw [d.out];rfl,o⟩
 have e1:¬ (4:Int)<(a:Int):=by omega
 have g0:¬ (6:Int)<(k:Int):=by omega
 by_cases r:a+k=0
 ·have g1:((a:Int)+(k:Int) == 0)=true:=by rw [beq_iff_eq];omega
  have d:Hid (f=17):=Zh (by rw [m.out,if_neg y,if_neg B,if_pos r]);clear m r;go_wp2;go_ret;exact⟨by rw [d.out];rfl,o⟩
 have g1:((a:Int)+(k:Int) == 0)=false:=by rw [beq_eq_false_iff_ne];omega
 by_cases e2:p<1
 ·have d:Hid (f=17):=Zh (by rw [m.out,if_neg y,if_neg B,if_neg r,if_pos (.inl e2)]);clear m r;go_wp2;go_ret;exact⟨by rw [d.out];rfl,o⟩
 by_cases e3:3<p
 ·have d:Hid (f=17):=Zh (by rw [m.out,if_neg y,if_neg B,if_neg r,if_pos (.inr e3)]);clear m r;go_wp2;go_ret;exact⟨by rw [d.out];rfl,o⟩
 have v:Hid (f=if c8=true then 17 else if c7=true then 17 else 0):=Zh (by rw [m.out,if_neg y,if_neg B,if_neg r,if_neg (fun q=>q.elim e2 e3)]);clear m r;go_wp2_with fail;refine(a9.out g8 o).mono ?_;rintro e g9 ⟨rfl,c⟩;have O:=o.trans c;have d4:=Zh (c.keep b9.out);have b5:=Zh (c.keep b4.out);have t:=zR d4.out;have A:=cell_of_one b5.out;clear c b9 b4 o a9;cases c8;case true=>
  have d:Hid (f=17):=Zh (by rw [v.out];rfl);clear v;go_wp2;go_ret;exact⟨by rw [d.out];rfl,O⟩
 go_wp2_with fail;refine(a8.out _ g9 O b5.out).mono ?_;rintro e i3 ⟨rfl,c⟩;have e6:=O.trans c;clear c d4 b5 O a8 t A;cases c7
 ·have d:Hid (f=0):=Zh (by rw [v.out];rfl);clear v;go_wp2;go_ret;exact⟨by rw [d.out];rfl,e6⟩
 ·have d:Hid (f=17):=Zh (by rw [v.out];rfl);clear v;go_wp2;go_ret;exact⟨by rw [d.out];rfl,e6⟩
theorem Q4y{w:World}{l:Q5}{cs:List Value}{v:Value}{ws:Wd}(p:Zf w l cs)(d:Q6 w v ws)(t:Tab w) :
  Calls Tryz.prog 200 #[.agg cs.toArray,v] w fun e w'=>e=.returned (.int .i64 (X9 l ws))/\Ext w w':=by
 obtain⟨c0,b8,rfl,_⟩:=d.slice;obtain⟨b9,u⟩:=zE ws.length;rw [u] at d ⊢;have r:=fun(V:World) (hE:Ext w V)=>Nu (d.ext hE);have q:=fun(V:World) (hE:Ext w V)=>Tx (p.ext hE) (t.keep hE id);obtain⟨a5,Y,b0,a0,a3,O,Q,a6,K,S,Z,b1,a1,a4,P,R,a7,L,T,X,M,W,a9,N,a8,a2,rfl,y,H,I,x,G,F,B,C,D,E,A,b3,b4,b5,b6,b7⟩:=Zr p;have b:Hid (X9 l ws=if Un l=0 then wE ws else Un l):=Zh (by unfold X9 Un;cases Yg l <;> rfl);obtain⟨a,k⟩:=zE (X9 l ws);obtain⟨g,m⟩:=zE (Un l);obtain⟨U,o⟩:=zE (wE ws);rw [k,m,o] at b;rw [m] at q;rw [o] at r;rw [k];have J:=Zh r;have z:=Zh q;clear u k m o r q d p t y H I x G F B C D E A;have i:Ext w (w.alloc (.cells #[.string a5,.int .i64 Y,.int .u32 (b0:Int),.int .u32 (a0:Int),.bool a3,.int .i64 O,.int .i64 Q,.slice a6 K S,.int .i64 Z,.int .u32 (b1:Int),.int .u32 (a1:Int),.bool a4,.int .i64 P,.int .i64 R,.slice a7 L T,.slice X M W,.slice a9 N a8,.int .i64 a2] 102)):=(Q0.refl _ w).alloc _;go_enter Tryz.func200,Tryz.ntmps200
 go_wp2_with (refine wpList_load_row rfl 102 (.tmp 2) rfl w.heap.size rfl _ _ _ _ (Q3 rfl) Tryz.underlying102 rfl Tryz.lawInfo ?_)
 refine(z.out _ i).mono ?_;rintro e c1 ⟨rfl,c⟩;have j:=i.trans c;clear c i;by_cases s:g=0;case neg=>
  have b2:(g != 0)=true:=by rw [bne_iff_ne];exact s
  have f:Hid (a=g):=Zh (by rw [b.out,if_neg s]);clear b;go_wp2;go_ret;exact⟨by rw [f.out];rfl,j⟩
 subst s;have f:Hid (a=U):=Zh (by rw [b.out,if_pos rfl]);go_wp2_with fail;refine(J.out _ j).mono ?_;rintro e c2 ⟨rfl,c⟩;go_wp2;go_ret;exact⟨by rw [f.out];rfl,j.trans c⟩
abbrev Qif:Nat->(Nat->Prop)->Nat->World->Array Value->Prop:=fun _ _ x _ ys=>ys=#[.int .i64 (x:Int)]
def Qi8(l:Q5)(ws:Wd):List Nat:=if X9 l ws=0 then Lw l ws else []
theorem Cc{ws:Wd}(h:wE ws=0):ws.length<=32:=by
 apply Nat.le_of_not_lt;intro a;unfold wE at h;rw [if_pos a] at h;cases h
theorem He{l:Q5}{ws:Wd}(h:X9 l ws=0):Yg l=true/\wE ws=0:=by
 unfold X9 at h
 split at h
 ·rename_i a;exact⟨a,h⟩
 ·cases h
def Qg0(k:Nat)(x:X3):X3:=⟨if 0<=x.frm then(k:Int) - 1 - x.frm else x.frm,x.cl,x.st,x.tk,if x.tk=0 then x.ofi else(k:Int) - 1 - x.ofi⟩
def Qhs(l:Q5):Q5:=⟨l.name,Qd4 l.right,Qd4 l.left,l.ifs.reverse,(l.outs.map (Qg0 l.ifs.length)).reverse,if l.mode=2 then 3 else 2⟩
def Qh1(l:Q5)(ws:Wd)(z:Int):Int:=
 if X9 l ws=0 then(if z<0\/(ws.length:Int)<z then 3 else if Zt l ws z.toNat=false then 5 else if 32<(Y1 l ws z.toNat).length then 11 else 0) else X9 l ws
def Qi3(l:Q5)(ws:Wd)(z:Int):Wd:=if Qh1 l ws z=0 then Y1 l ws z.toNat else []
def Lc(l:List UInt8)(i:Nat):Bool:=(l.take i).all Vf
theorem Qca(c:UInt8)(b:Bool)(h:((decide (97<=c.toNat) && decide (c.toNat<=122)) || (decide (65<=c.toNat) && decide (c.toNat<=90)) || (decide (48<=c.toNat) && decide (c.toNat<=57)) || decide (c.toNat=45))=b):Vf c=b:=h
theorem Qa8(l:List UInt8)(a5:l.length<=9223372036854775807)(w:World) :
  Calls Tryz.prog 181 #[.string ⟨l.toArray⟩] w fun e w'=>e=.returned (.bool (Us ⟨l.toArray⟩))/\w=w':=by
 have v:Hid (Us ⟨l.toArray⟩=(decide (1<=l.length) && decide (l.length<=24) && l.all Vf)):=Zh (by simp [Us,ByteArray.size]);obtain⟨x,O⟩:=zE (Us ⟨l.toArray⟩);rw [O] at v ⊢;obtain⟨y,D⟩:∃ y:ByteArray,(⟨l.toArray⟩:ByteArray)=y:=⟨_,rfl⟩;have a2:y.size=l.length:=by rw [<-D];simp [ByteArray.size]
 have a0:=Zh D;obtain⟨u,J⟩:=zE l.length;have L:=Zh J;rw [J] at a2 a5 v;rw [D];clear D O J;go_enter Tryz.func181,Tryz.ntmps181;go_wp2
 refine wp_loop (fun a M=>∃(f:Nat),f<=u/\a.defers=[]/\(a.tmps.size=49/\a.tmps.getD 0 undef=.string y/\a.tmps.getD 3 undef=.int .i64 f)/\Lc l f=true/\w=M)
  (fun a _=>u - (intOf (a.tmps.getD 3 undef)).toNat) ?_ ?_
 ·exact⟨0,by omega,rfl,⟨rfl,rfl,rfl⟩,by simp [Lc],rfl⟩
 rintro⟨b0,_⟩ M ⟨f,b2,a3,⟨T,F,G⟩,B,rfl⟩;subst a3;obtain⟨b1,U⟩:=Qv T;obtain⟨d,rfl⟩:∃ c,c=b1:=⟨_,rfl⟩;have a7:b0=#[d 0,d 1,d 2,d 3,d 4,d 5,d 6,d 7,d 8,d 9,d 10,d 11,d 12,d 13,d 14,d 15,d 16,d 17,d 18,d 19,d 20,d 21,d 22,d 23,d 24,d 25,d 26,d 27,d 28,d 29,d 30,d 31,d 32,d 33,d 34,d 35,d 36,d 37,d 38,d 39,d 40,d 41,d 42,d 43,d 44,d 45,d 46,d 47,d 48]:=U;clear U;subst a7;change d 0=_ at F;change d 3=_ at G;rw [F,G];clear F G T;have K:=Zh B;clear B;by_cases a4:f<u;case neg=>
  obtain rfl:f=u:=by omega
  have a1:¬ (f:Int)<(f:Int):=by omega
  have B:l.all Vf=true:=by have:=K.out;unfold Lc at this;rwa [List.take_of_length_le (by rw [L.out];exact Nat.le_refl _)] at this
  have Y:=Zh B;clear B;by_cases P:1<=f
  ·have a8:(1:Int)<=(f:Int):=by omega
   by_cases Q:f<=24
   ·have a9:(f:Int)<=24:=by omega
    have A:Hid (x=true):=Zh (by rw [v.out,Y.out,decide_eq_true P,decide_eq_true Q];rfl);go_wp2;go_ret;exact⟨by rw [A.out];rfl,rfl⟩
   ·have a9:¬ (f:Int)<=24:=by omega
    have A:Hid (x=false):=Zh (by rw [v.out,decide_eq_false Q];simp);go_wp2;go_ret;exact⟨by rw [A.out];rfl,rfl⟩
  ·have a8:¬ (1:Int)<=(f:Int):=by omega
   have A:Hid (x=false):=Zh (by rw [v.out,decide_eq_false P];simp);go_wp2;go_ret;exact⟨by rw [A.out];rfl,rfl⟩
 have a1:(f:Int)<(u:Int):=by omega
 have R:f<l.length:=by rw [L.out];exact a4
 obtain⟨j,E⟩:=zE (l[f]);have V:y[f]' oz=j:=by
  have:=a0.out;subst this;simp [ByteArray.getElem_eq_getElem_data,E]
 have a6:=j.toNat_lt
 have X:Vf j=true->Lc l (f+1)=true:=fun h=>by
  have N:=K.out;unfold Lc at N ⊢;rw [List.take_succ_eq_append_getElem R,List.all_append,N,E];simp [h]
 have S:Vf j=false->x=false:=fun h=>by
  rw [v.out];have:l.all Vf=false:=List.all_eq_false.2 ⟨j,by rw [<-E];exact List.getElem_mem R,by rw [h];decide⟩;rw [this];simp
 have I:=fun b=>Qca j b;have H:((y[f]' oz).toNat:Int)=(j.toNat:Int):=by rw [V]
 obtain⟨c,W⟩:=zE j.toNat;rw [W] at a6 I H;obtain⟨C,z,k,Z⟩:=Zh4 X S I H;clear X S I H W V E;go_upto_region 5 with (fail)
 rw [Z.out];by_cases b3:c<=44
 ·have s:¬ (97:Int)<=(c:Int):=by omega
  have m:(c:Int)<=122:=by omega
  have q:¬ (65:Int)<=(c:Int):=by omega
  have r:(c:Int)<=90:=by omega
  have o:¬ (48:Int)<=(c:Int):=by omega
  have p:(c:Int)<=57:=by omega
  have n:((c:Int) == 45)=false:=by rw [beq_eq_false_iff_ne];omega
  have g:Vf j=false:=k.out false (by apply Bool.eq_iff_iff.2;simp;omega);have i:=Zh (z.out g);clear g;go_wp2;go_ret;exact⟨by rw [i.out];rfl,rfl⟩
 by_cases b4:c<=45
 ·have t:45<=c:=by omega
  have s:¬ (97:Int)<=(c:Int):=by omega
  have m:(c:Int)<=122:=by omega
  have q:¬ (65:Int)<=(c:Int):=by omega
  have r:(c:Int)<=90:=by omega
  have o:¬ (48:Int)<=(c:Int):=by omega
  have p:(c:Int)<=57:=by omega
  have n:((c:Int) == 45)=true:=by rw [beq_iff_eq];omega
  have g:Vf j=true:=k.out true (by apply Bool.eq_iff_iff.2;simp;omega);have i:=Zh (C.out g);clear g;go_wp2;first | exact⟨⟨f+1,by omega,tz,⟨rfl,rfl,rfl⟩,i.out,rfl⟩,nz⟩ | exact⟨⟨f+1,by omega,by simp,i.out⟩,nz⟩
 by_cases b5:c<=47
 ·have t:46<=c:=by omega
  have s:¬ (97:Int)<=(c:Int):=by omega
  have m:(c:Int)<=122:=by omega
  have q:¬ (65:Int)<=(c:Int):=by omega
  have r:(c:Int)<=90:=by omega
  have o:¬ (48:Int)<=(c:Int):=by omega
  have p:(c:Int)<=57:=by omega
  have n:((c:Int) == 45)=false:=by rw [beq_eq_false_iff_ne];omega
  have g:Vf j=false:=k.out false (by apply Bool.eq_iff_iff.2;simp;omega);have i:=Zh (z.out g);clear g;go_wp2;go_ret;exact⟨by rw [i.out];rfl,rfl⟩
 by_cases b6:c<=57
 ·have t:48<=c:=by omega
  have s:¬ (97:Int)<=(c:Int):=by omega
  have m:(c:Int)<=122:=by omega
  have q:¬ (65:Int)<=(c:Int):=by omega
  have r:(c:Int)<=90:=by omega
  have o:(48:Int)<=(c:Int):=by omega
  have p:(c:Int)<=57:=by omega
  have n:((c:Int) == 45)=false:=by rw [beq_eq_false_iff_ne];omega
  have g:Vf j=true:=k.out true (by apply Bool.eq_iff_iff.2;simp;omega);have i:=Zh (C.out g);clear g;go_wp2;first | exact⟨⟨f+1,by omega,tz,⟨rfl,rfl,rfl⟩,i.out,rfl⟩,nz⟩ | exact⟨⟨f+1,by omega,by simp,i.out⟩,nz⟩
 by_cases b7:c<=64
 ·have t:58<=c:=by omega
  have s:¬ (97:Int)<=(c:Int):=by omega
  have m:(c:Int)<=122:=by omega
  have q:¬ (65:Int)<=(c:Int):=by omega
  have r:(c:Int)<=90:=by omega
  have o:(48:Int)<=(c:Int):=by omega
  have p:¬ (c:Int)<=57:=by omega
  have n:((c:Int) == 45)=false:=by rw [beq_eq_false_iff_ne];omega
  have g:Vf j=false:=k.out false (by apply Bool.eq_iff_iff.2;simp;omega);have i:=Zh (z.out g);clear g;go_wp2;go_ret;exact⟨by rw [i.out];rfl,rfl⟩
 by_cases b8:c<=90
 ·have t:65<=c:=by omega
  have s:¬ (97:Int)<=(c:Int):=by omega
  have m:(c:Int)<=122:=by omega
  have q:(65:Int)<=(c:Int):=by omega
  have r:(c:Int)<=90:=by omega
  have o:(48:Int)<=(c:Int):=by omega
  have p:¬ (c:Int)<=57:=by omega
  have n:((c:Int) == 45)=false:=by rw [beq_eq_false_iff_ne];omega
  have g:Vf j=true:=k.out true (by apply Bool.eq_iff_iff.2;simp;omega);have i:=Zh (C.out g);clear g;go_wp2;first | exact⟨⟨f+1,by omega,tz,⟨rfl,rfl,rfl⟩,i.out,rfl⟩,nz⟩ | exact⟨⟨f+1,by omega,by simp,i.out⟩,nz⟩
 by_cases b9:c<=96
 ·have t:91<=c:=by omega
  have s:¬ (97:Int)<=(c:Int):=by omega
  have m:(c:Int)<=122:=by omega
  have q:(65:Int)<=(c:Int):=by omega
  have r:¬ (c:Int)<=90:=by omega
  have o:(48:Int)<=(c:Int):=by omega
  have p:¬ (c:Int)<=57:=by omega
  have n:((c:Int) == 45)=false:=by rw [beq_eq_false_iff_ne];omega
  have g:Vf j=false:=k.out false (by apply Bool.eq_iff_iff.2;simp;omega);have i:=Zh (z.out g);clear g;go_wp2;go_ret;exact⟨by rw [i.out];rfl,rfl⟩
 by_cases c0:c<=122
 ·have t:97<=c:=by omega
  have s:(97:Int)<=(c:Int):=by omega
  have m:(c:Int)<=122:=by omega
  have q:(65:Int)<=(c:Int):=by omega
  have r:¬ (c:Int)<=90:=by omega
  have o:(48:Int)<=(c:Int):=by omega
  have p:¬ (c:Int)<=57:=by omega
  have n:((c:Int) == 45)=false:=by rw [beq_eq_false_iff_ne];omega
  have g:Vf j=true:=k.out true (by apply Bool.eq_iff_iff.2;simp;omega);have i:=Zh (C.out g);clear g;go_wp2;first | exact⟨⟨f+1,by omega,tz,⟨rfl,rfl,rfl⟩,i.out,rfl⟩,nz⟩ | exact⟨⟨f+1,by omega,by simp,i.out⟩,nz⟩
 ·have t:123<=c:=by omega
  have s:(97:Int)<=(c:Int):=by omega
  have m:¬ (c:Int)<=122:=by omega
  have q:(65:Int)<=(c:Int):=by omega
  have r:¬ (c:Int)<=90:=by omega
  have o:(48:Int)<=(c:Int):=by omega
  have p:¬ (c:Int)<=57:=by omega
  have n:((c:Int) == 45)=false:=by rw [beq_eq_false_iff_ne];omega
  have g:Vf j=false:=k.out false (by apply Bool.eq_iff_iff.2;simp;omega);have i:=Zh (z.out g);clear g;go_wp2;go_ret;exact⟨by rw [i.out];rfl,rfl⟩
theorem Qe4{a:Nat}(c:a<4294967296):Zv a 16777215=0↔a<16777216:=by
 have:=Ed (a:=a) (b:=a) c c;rw [Nat.or_self] at this;rw [this];exact⟨fun h=>h.1,fun h=>⟨h,h⟩⟩
theorem Qfa{k:Nat}{x:X3}(l:Jh x):Yl k x=if x.frm < -1\/(k:Int)<=x.frm then false else if okS x.st=false then false else if Zv x.cl 16777215≠0 then false else if Zv x.tk 16777215≠0 then false else if x.cl &&& (x.st.1 ||| x.st.2)≠0 then false else
  if x.tk &&& (x.st.1 ||| x.st.2)≠0 then false else if x.tk &&& x.cl≠0 then false else if x.tk=0 then decide (x.ofi=0) else(decide (0<=x.ofi) && decide (x.ofi<k)):=by
 have i:=Qe4 l.1;have j:=Qe4 l.2.2;unfold Yl;by_cases a:x.frm < -1\/(k:Int)<=x.frm
 ·rw [if_pos a];rcases a with a | a
  ·rw [show decide (-1<=x.frm)=false by rw [decide_eq_false_iff_not];omega];simp
  ·rw [show decide (x.frm<(k:Int))=false by rw [decide_eq_false_iff_not];omega];simp
 rw [if_neg a,show decide (-1<=x.frm)=true by rw [decide_eq_true_iff];omega,show decide (x.frm<(k:Int))=true by rw [decide_eq_true_iff];omega];by_cases b:okS x.st=false
 ·rw [if_pos b,b];simp
 rw [if_neg b,show okS x.st=true by simpa using b];by_cases c:Zv x.cl 16777215=0;case neg=>rw [if_pos c,decide_eq_false (fun q=>c (i.2 q))];simp
 rw [if_neg (show ¬ (Zv x.cl 16777215≠0) from fun q=>q c),decide_eq_true (i.1 c)];by_cases d:Zv x.tk 16777215=0;case neg=>rw [if_pos d,decide_eq_false (fun q=>d (j.2 q))];simp
 rw [if_neg (show ¬ (Zv x.tk 16777215≠0) from fun q=>q d),decide_eq_true (j.1 d)];by_cases e:x.cl &&& (x.st.1 ||| x.st.2)=0;case neg=>rw [if_pos e,decide_eq_false e];simp
 rw [if_neg (show ¬ (x.cl &&& (x.st.1 ||| x.st.2)≠0) from fun q=>q e),decide_eq_true e];by_cases f:x.tk &&& (x.st.1 ||| x.st.2)=0;case neg=>rw [if_pos f,decide_eq_false f];simp
 rw [if_neg (show ¬ (x.tk &&& (x.st.1 ||| x.st.2)≠0) from fun q=>q f),decide_eq_true f];by_cases g:x.tk &&& x.cl=0;case neg=>rw [if_pos g,decide_eq_false g];simp
 rw [if_neg (show ¬ (x.tk &&& x.cl≠0) from fun q=>q g),decide_eq_true g];simp only [Bool.and_self,Bool.true_and]
theorem Q97{x:X3}(a1:Jh x)(k:Nat)(_hk:k<=9223372036854775807)(w:World) :
  Calls Tryz.prog 184 #[.agg (Zu x).toArray,.int .i64 (k:Int)] w fun e w'=>e=.returned (.bool (Yl k x))/\Ext w w':=by
 have c:=Zh (Qfa (k:=k) a1);obtain⟨m,cl,⟨i,l⟩,tk,ofi⟩:=x;obtain⟨r,⟨u,v⟩,z⟩:=a1;dsimp only at r u v z c;have N:=fun(D:World)=>Hy (s:=(i,l)) ⟨u,v⟩ D;have a6:=u32_or_nat i l u v;have L:i ||| l<4294967296:=Nat.or_lt_two_pow (n:=32) u v;obtain⟨s,a0⟩:=zE (i ||| l);rw [a0] at a6 L c;have a7:bits .andNot .u32 (cl:Int) 16777215=((Zv cl 16777215:Nat):Int):=Hx cl 16777215 r oz;obtain⟨e,V⟩:=zE (Zv cl 16777215);rw [V] at a7 c;have b1:bits .andNot .u32 (tk:Int) 16777215=((Zv tk 16777215:Nat):Int):=Hx tk 16777215 z oz;obtain⟨C,W⟩:=zE (Zv tk 16777215);rw [W] at b1 c;have a8:=u32_and_nat cl s r L;obtain⟨E,X⟩:=zE (cl &&& s);rw [X] at a8 c;have a9:=u32_and_nat tk s z L;obtain⟨F,Y⟩:=zE (tk &&& s);rw [Y] at a9 c;have b0:=u32_and_nat tk cl z r;obtain⟨G,Z⟩:=zE (tk &&& cl);rw [Z] at b0 c;obtain⟨P,U⟩:=zE (okS (i,l));rw [U] at N c;have a3:=Zh N;obtain⟨b,T⟩:=zE (Yl k { frm:=m,cl:=cl,st:=(i,l),tk:=tk,ofi:=ofi });rw [T] at c ⊢;clear a0 V W X Y Z U N T;unfold Zu;dsimp only;go_enter Tryz.func184,Tryz.ntmps184;go_upto_region 1 with (fail)
 obtain⟨a2,A⟩:=zE (w.alloc (.cells #[.int .i64 m,.int .u32 (cl:Int),.int .u32 (i:Int),.int .u32 (l:Int),.int .u32 (tk:Int),.int .i64 ofi] 109));have H:Ext w a2:=by rw [<-A];exact(Q0.refl _ w).alloc _
 have q:a2.heap[w.heap.size]?=some (.cells #[.int .i64 m,.int .u32 (cl:Int),.int .u32 (i:Int),.int .u32 (l:Int),.int .u32 (tk:Int),.int .i64 ofi] 109 (0,0)):=by rw [<-A];exact Q3 rfl
 (try rw [A])
 obtain⟨b2,S⟩:=zE w.heap.size;rw [S] at q ⊢;have a4:=zR q;have O:=Zh q;clear A S q;by_cases Q:m < -1
 ·have a:Hid (b=false):=Zh (by rw [c.out,if_pos (.inl Q)]);clear c;go_wp2;go_ret;exact⟨by rw [a.out];rfl,H⟩
 by_cases R:(k:Int)<=m
 ·have a:Hid (b=false):=Zh (by rw [c.out,if_pos (.inr R)]);clear c;go_wp2;go_ret;exact⟨by rw [a.out];rfl,H⟩
 have d:Hid (b=if P=false then false else if e≠0 then false else if C≠0 then false else if E≠0 then false else if F≠0 then false else if G≠0 then false else if tk=0 then decide (ofi=0) else(decide (0<=ofi) && decide (ofi<k))):=Zh (by rw [c.out,if_neg (fun o=>o.elim Q R)]);clear c;go_wp2_with fail;refine(a3.out _).mono ?_;rintro b4 b7 ⟨rfl,I⟩;have g:=H.trans I;have b3:=zR (I.keep O.out);clear a4 I O;cases P
 ·have a:Hid (b=false):=Zh (by rw [d.out];rfl);clear d;go_wp2;go_ret;exact⟨by rw [a.out];rfl,g⟩
 by_cases f:e=0;case neg=>
  have t:((e:Int) != 0)=true:=by rw [bne_iff_ne];omega
  have a:Hid (b=false):=Zh (by rw [d.out,if_neg zd,if_pos f]);clear d;go_wp2;go_ret;exact⟨by rw [a.out];rfl,g⟩
 subst f;by_cases f:C=0;case neg=>
  have t:((C:Int) != 0)=true:=by rw [bne_iff_ne];omega
  have a:Hid (b=false):=Zh (by rw [d.out,if_neg zd,if_neg zd,if_pos f]);clear d;go_wp2;go_ret;exact⟨by rw [a.out];rfl,g⟩
 subst f;by_cases f:E=0;case neg=>
  have t:((E:Int) != 0)=true:=by rw [bne_iff_ne];omega
  have a:Hid (b=false):=Zh (by rw [d.out,if_neg zd,if_neg zd,if_neg zd,if_pos f]);clear d;go_wp2;go_ret;exact⟨by rw [a.out];rfl,g⟩
 subst f;by_cases f:F=0;case neg=>
  have t:((F:Int) != 0)=true:=by rw [bne_iff_ne];omega
  have a:Hid (b=false):=Zh (by rw [d.out,if_neg zd,if_neg zd,if_neg zd,if_neg zd,if_pos f]);clear d;go_wp2;go_ret;exact⟨by rw [a.out];rfl,g⟩
 subst f;by_cases f:G=0;case neg=>
  have t:((G:Int) != 0)=true:=by rw [bne_iff_ne];omega
  have a:Hid (b=false):=Zh (by rw [d.out,if_neg zd,if_neg zd,if_neg zd,if_neg zd,if_neg zd,if_pos f]);clear d;go_wp2;go_ret;exact⟨by rw [a.out];rfl,g⟩
 subst f;have p:Hid (b=if tk=0 then decide (ofi=0) else(decide (0<=ofi) && decide (ofi<k))):=Zh (by rw [d.out];rfl);clear d;by_cases M:tk=0
 ·have a5:((tk:Int) == 0)=true:=by rw [beq_iff_eq];omega
  have a:Hid (b=decide (ofi=0)):=Zh (by rw [p.out,if_pos M]);obtain⟨o,J⟩:=zE (decide (ofi=0));have b6:(ofi == 0)=o:=by rw [<-J];rfl
  rw [J] at a;clear p J M;go_wp2;go_ret;exact⟨by rw [a.out];rfl,g⟩
 ·have a5:((tk:Int) == 0)=false:=by rw [beq_eq_false_iff_ne];omega
  have a:Hid (b=(decide (0<=ofi) && decide (ofi<k))):=Zh (by rw [p.out,if_neg M]);clear p;by_cases K:0<=ofi
  ·have B:Hid (b=decide (ofi<k)):=Zh (by rw [a.out,decide_eq_true K];rfl);go_wp2;go_ret;exact⟨by rw [B.out];rfl,g⟩
  ·have b5:¬ (0:Int)<=ofi:=K;have B:Hid (b=false):=Zh (by rw [a.out,decide_eq_false K];rfl);go_wp2;go_ret;exact⟨by rw [B.out];rfl,g⟩
theorem Q0c{w:World}{cs:List Value}{l:Q5}{v:Value}{g:Wd}(n7:Zf w l cs)(j9:Q6 w v g)(l2:∀ x∈l.outs,Yl g.length x=true)(r4:l.outs.length<=1000) :
  Calls Tryz.prog 285 #[.agg cs.toArray,v] w fun e w'=>∃ u,e=.returned u/\w'.ownsRow w.heap.size 95 2 u l.outs.length (Za (Yz l g))/\Ext w w':=by
 obtain⟨s1,s0,rfl,o3⟩:=j9.slice;obtain⟨p3,o6,p8,o8,p1,m3,m5,p4,m0,m7,o7,p9,o9,p2,m4,m6,p5,m1,m8,o5,m2,o4,p7,c2,p6,p0,rfl,q3,e9,q6,q1,k6,s6,s3,s4,s5,e8,s2,t7,t8,t9,u0,u1⟩:=Zr n7;obtain⟨k4,k0⟩:=zE g.length;rw [k0] at j9 o3 l2;rw [e8.out] at r4;unfold maxLen at o3;obtain⟨b1,e2,q5⟩:=Zh3 j9 k0 l2;rw [k0];clear n7 j9 k0 l2;have e9:=Yw l g;rw [e8.out] at e9;have s7:=Zh e9;clear e9;rw [e8.out];go_enter Tryz.func285,Tryz.ntmps285;go_upto_region 1 with (fail)
 obtain⟨z,k1⟩:=zE (w.alloc (.cells #[.string p3,.int .i64 o6,.int .u32 (p8:Int),.int .u32 (o8:Int),.bool p1,.int .i64 m3,.int .i64 m5,.slice p4 m0 m7,.int .i64 o7,.int .u32 (p9:Int),.int .u32 (o9:Int),.bool p2,.int .i64 m4,.int .i64 m6,.slice p5 m1 m8,.slice o5 m2 o4,.slice p7 c2 p6,.int .i64 p0] 102));have f6:Ext w z:=by rw [<-k1];exact(Q0.refl _ w).alloc _
 have l0:z.heap[w.heap.size]?=some (.cells #[.string p3,.int .i64 o6,.int .u32 (p8:Int),.int .u32 (o8:Int),.bool p1,.int .i64 m3,.int .i64 m5,.slice p4 m0 m7,.int .i64 o7,.int .u32 (p9:Int),.int .u32 (o9:Int),.bool p2,.int .i64 m4,.int .i64 m6,.slice p5 m1 m8,.slice o5 m2 o4,.slice p7 c2 p6,.int .i64 p0] 102 (0,0)):=by rw [<-k1];exact Q3 rfl
 have Y:w.heap.size<=z.heap.size:=f6.size;rw [k1];obtain⟨q0,n0⟩:=zE w.heap.size;rw [n0] at l0 Y ⊢;have q2:=Zh l0;have l7:=Zh f6;have o2:=b1.out.ext f6;have j8:=k6.out.ext f6;have b1:=Zh o2;have k6:=Zh j8;clear k1 l0 n0 o2 j8 q1 q3 e9 q6;go_wp2
 refine wp_loop (fun a W=>∃(d:Nat) (l6:Option Addr) (l5:Nat),d<=c2/\a.defers=[]/\gS a [1,2,5,6]=(59,[.slice s1 k4 s0,.pointer (some ⟨q0,0,none⟩),.slice l6 d l5,.int .i64 d])/\W.ownsRow z.heap.size 95 2 (.slice l6 d l5) d (Za (Sy l g d))/\Ext z W)
  (fun a _=>c2 - (intOf (a.tmps.getD 6 undef)).toNat) ?_ ?_
 ·exact⟨0,none,0,by omega,rfl,rfl,World.ownsRow_nil _ _ _ _,Q0.refl _ _⟩
 clear f6;rintro⟨u2,_⟩ k ⟨d,l6,l5,t5,r1,o1,N,G⟩;subst r1;obtain⟨u,rfl⟩:=Qj o1;clear o1;have m9:=cell_of_row _ _ 16 _ _ _ (G.keep q2.out);by_cases r3:d<c2;case neg=>
  obtain rfl:d=c2:=by omega
  have c9:¬ ((d:Int)<(d:Int)):=by omega
  rw [Q3j l g e8.out] at N;have q4:=Zh N;clear N;go_wp2;go_ret;exact⟨_,rfl,Zb q4.out l7.out.size,l7.out.trans G⟩
 have c9:(d:Int)<(c2:Int):=by omega
 have g2:d<l.outs.length:=by rw [e8.out];exact r3
 obtain⟨t0,t6,s9,T,t4,e6,j0,j1,f1,f2,j2,j3⟩:=(k6.out.ext G).at g2;simp only [zV] at T;obtain⟨rfl,d9,rfl⟩:=T;clear d9;obtain⟨x,l4⟩:=zE (l.outs[d]);have i9:Hid (l.outs[d]?=some x):=Zh (by rw [List.getElem?_eq_getElem g2,l4]);have g1:=Q0u (q5.out _ (List.getElem_mem g2));rw [l4] at j0 j1 f1 f2 j2 j3 e6 g1;have d4:U6 g x=if x.tk=0 then(X5 (if 0<=x.frm then g.getD x.frm.toNat (0,0) else(0,0)) x.cl x.st).1 else(Jz (X5 (if 0<=x.frm then g.getD x.frm.toNat (0,0) else(0,0)) x.cl x.st).1 (g.getD x.ofi.toNat (0,0)) x.tk).1:=rfl
 have i6:=Zh g2;clear l4 g2;obtain⟨j4,n3⟩:=zE x.frm;obtain⟨X,n2⟩:=zE x.cl;obtain⟨⟨b6,b7⟩,o0⟩:=zE x.st;obtain⟨A,Z⟩:=zE x.tk;obtain⟨k2,n9⟩:=zE x.ofi;unfold Jh at e6;rw [n3] at j0 g1 d4;rw [n2] at j1 e6 d4;rw [o0] at f1 f2 e6 d4;rw [Z] at j2 e6 g1 d4;rw [n9] at j3 g1 d4;dsimp only at f1 f2;clear n3 n2 o0 Z n9;have i7:=Zh d4;obtain⟨n5,j7,n6⟩:=e6;obtain⟨t2,n8⟩:=g1;have l8:=Zh n8;clear d4 n8;obtain⟨b2,f9⟩:=zE ((k.alloc (.cells #[.int .i64 j4,.int .u32 (X:Int),.int .u32 (b6:Int),.int .u32 (b7:Int),.int .u32 (A:Int),.int .i64 k2] 109)).alloc (.cells #[.int .u32 0,.int .u32 0] 95));have f8:Ext k b2:=by rw [<-f9];exact((Q0.refl _ k).alloc _).alloc _
 have b4:b2.heap[k.heap.size]?=some (.cells #[.int .i64 j4,.int .u32 (X:Int),.int .u32 (b6:Int),.int .u32 (b7:Int),.int .u32 (A:Int),.int .i64 k2] 109 (0,0)):=by rw [<-f9];exact Q8 (Q3 rfl)
 have Y:b2.heap[k.heap.size+1]?=some (.cells #[.int .u32 0,.int .u32 0] 95 (0,0)):=by rw [<-f9];exact Q3 zy
 have i8:=Zh f9;clear f9;by_cases j6:0<=j4;case pos=>
  obtain⟨i,rfl⟩:=Int.eq_ofNat_of_zero_le j6;have n4:i<k4:=by omega
  obtain⟨j5,k3,s8,T,t3,E,F⟩:=(b1.out.ext G).at (i:=i) (by rw [e2.out];exact n4);simp only [zV] at T;obtain⟨rfl,d9,rfl⟩:=T;clear d9;obtain⟨⟨q,r⟩,l3⟩:=zE (g.getD i (0,0));have e5:=b1.out.2.get i (by rw [e2.out];exact n4);rw [l3] at E F e5;dsimp only at E F;have B:Hid (U6 g x=if A=0 then(X5 (q,r) X (b6,b7)).1 else(Jz (X5 (q,r) X (b6,b7)).1 (g.getD k2.toNat (0,0)) A).1):=Zh (by rw [i7.out,if_pos j6];simp only [Int.toNat_natCast,l3]);clear l3 i7;go_upto_region 7 with (fail)
  rw [i8.out];clear m9;obtain⟨a1,a4⟩:=zE k.heap.size;obtain⟨S,a3⟩:=zE (k.heap.size+1);have e3:=Zh a4;have H:=Zh a3;rw [a4] at b4;rw [a3] at Y;rw [a3,a4];clear a4 a3 i8 j0 j1 f1 f2 j2 j3;have I:=fun d=>cell_of_row _ _ d _ _ _ b4;have q8:=f8.cell_some E id;have q9:=f8.cell_some F id;have l9:=Zh b4;have k7:=Zh Y;clear b4 Y E F;go_upto_region 9 with (refine wpList_store_row rfl 95 (.tmp 8) (.tmp 29) rfl S #[.int .u32 (q:Int),.int .u32 (r:Int)] rfl rfl _ _ k7.out kz rfl kz ?_)
  have k9:=Q0.setRow b2 S #[.int .u32 (q:Int),.int .u32 (r:Int)];have b3:=setRow_heap _ _ _ #[.int .u32 (q:Int),.int .u32 (r:Int)] _ _ k7.out;have b5:=k9.heap l9.out (by have:=e3.out;have:=H.out;omega);have e4:Ext k (b2.setRow S #[.int .u32 (q:Int),.int .u32 (r:Int)]):=Q0.after f8 k9 (fun b hb e=>by have:=H.out;omega);obtain⟨q7,n1⟩:=zE (b2.setRow S #[.int .u32 (q:Int),.int .u32 (r:Int)]);rw [n1] at b3 b5 e4 ⊢;clear n1 k9 I q8 q9 l9 k7;have g3:Z1 (q,r):=e5;have a5:=fun(c:World)=>Sm g3 j7 n5 c;have d8:=Ld (m:=X) g3 j7;obtain⟨⟨⟨s,t⟩,r9⟩,g9⟩:=zE (X5 (q,r) X (b6,b7));rw [g9] at a5 B d8;dsimp only at a5 B d8;have e7:=Zh a5;clear a5 g9;have I:=fun d=>cell_of_row _ _ d _ _ _ b5;have C:=fun d=>cell_of_row _ _ d _ _ _ b3;go_wp2_with fail;refine(e7.out _).mono ?_;rintro e c6 ⟨rfl,D⟩;have f7:=e4.trans D;have i2:=D.keep b5;have g6:=D.keep b3;have c1:=Zh g6;clear I C b5 b3 e4 D e7;go_upto_region 10 with (refine wpList_store_row rfl 95 (.tmp 8) (.tmp 37) rfl S #[.int .u32 (s:Int),.int .u32 (t:Int)] rfl rfl _ _ c1.out kz rfl kz ?_)
  have d1:=Q0.setRow c6 S #[.int .u32 (s:Int),.int .u32 (t:Int)];have a6:=setRow_heap _ _ _ #[.int .u32 (s:Int),.int .u32 (t:Int)] _ _ c1.out;have V:=d1.heap i2 (by have:=e3.out;have:=H.out;omega);have J:Ext k (c6.setRow S #[.int .u32 (s:Int),.int .u32 (t:Int)]):=Q0.after f7 d1 (fun b hb e=>by have:=H.out;omega);obtain⟨L,i0⟩:=zE (c6.setRow S #[.int .u32 (s:Int),.int .u32 (t:Int)]);rw [i0] at a6 V J ⊢;clear i0 d1 i2 g6 c1 f7;have I:=fun d=>cell_of_row _ _ d _ _ _ V;by_cases Z:A=0;case pos=>
   subst Z;go_upto_region 12 with (fail)
   clear I V;have R:U6 g x=(s,t):=by rw [B.out];simp
   have b9:=Zh R;clear R;have P:=Q7 N J;have d3:z.heap.size<=L.heap.size:=Nat.le_trans G.size J.size;have C:=fun d=>cell_of_row _ _ d _ _ _ a6
   go_wp2_with (at_builtin;refine Qk rfl (.tmp 54) (.tmp 56) 99 rfl z.heap.size 95 _ 2 8 Tryz.underlying99 @Xt rfl zd _ _ _ rfl (Q7 P ((Q0.refl _ _).alloc _)) ⟨L.heap.size,0,none⟩ 1 1 [.int .u32 (s:Int),.int .u32 (t:Int)] rfl rfl (Qq rfl) (V6 _ _) ?c3 ?c4 ?c5 ?_)
   case c3=>unfold maxLen;omega
   case c4=>omega
   case c5=>first | omega | (simp;omega) | exact Nat.le_trans d3 (Q0.alloc (Q0.refl (fun _=>False) _) _).size
   intro c7 c8 e0 O Q d0;have M:Ext z e0:=Q0.after (G.trans (Q0.trans J ((Q0.refl _ _).alloc _))) Q (fun b hb e=>by have:=(N.lt _ e).1;omega);have c0:=Zh O;have b8:=Zh M;clear O M Q d0 C P;go_wp2;exact⟨⟨d+1,c7,c8,by omega,tz,rfl,by rw [Vp i6.out i9.out,b9.out,Zn];exact c0.out,b8.out⟩,nz⟩
  obtain⟨l1,j8⟩:=l8.out Z;have r5:((A:Int) != 0)=true:=by rw [bne_iff_ne];omega
  obtain⟨f,rfl⟩:=Int.eq_ofNat_of_zero_le l1;have g4:f<k4:=by omega
  obtain⟨f3,i3,r0,T,r2,E,F⟩:=(b1.out.ext G).at (i:=f) (by rw [e2.out];exact g4);simp only [zV,Option.some.injEq,Addr.mk.injEq] at T;obtain⟨⟨rfl,rfl,_⟩,d9,rfl⟩:=T;clear d9;obtain⟨⟨a8,a9⟩,d6⟩:=zE (g.getD f (0,0));have d5:=b1.out.2.get f (by rw [e2.out];exact g4);rw [d6] at E F d5;have g5:Z1 (a8,a9):=d5;dsimp only at E F;have a7:=fun(c:World)=>Es d8 g5 n6 c;obtain⟨⟨⟨o,p⟩,r8⟩,d7⟩:=zE (Jz (s,t) (a8,a9) A);rw [d7] at a7;dsimp only at a7;have k8:=Zh a7;have k5:Hid (U6 g x=(o,p)):=Zh (by rw [B.out,if_neg Z,show ((f:Int)).toNat=f from rfl,d6,d7]);clear a7 d7 d6 d5 g5;have g0:∀(c:World),Q0 (·=S) L c->c.cell? ⟨a1,4,none⟩=some (.int .u32 (A:Int))/\c.cell? ⟨a1,5,none⟩=some (.int .i64 f)/\c.cell? ⟨j5,k3+f*2,none⟩=some (.int .u32 (a8:Int))/\c.cell? ⟨j5,k3+f*2+1,none⟩=some (.int .u32 (a9:Int)):=by
   intro c f5;have f4:=f5.heap V (by have:=e3.out;have:=H.out;omega);have c9:Ext k c:=Q0.after J f5 (fun b hb e=>by have:=H.out;omega);exact⟨cell_of_row _ _ 4 _ _ _ f4,cell_of_row _ _ 5 _ _ _ f4,c9.cell_some E id,c9.cell_some F id⟩
  have a0:=Zh g0;have f0:=Zh a6;clear g0;go_upto_region 11 with (fail)
  clear I V a6 E F;refine wp_region_held_drew (S:=fun c=>c.cell? ⟨a1,4,none⟩=some (.int .u32 (A:Int))/\c.cell? ⟨a1,5,none⟩=some (.int .i64 f)/\c.cell? ⟨j5,k3+f*2,none⟩=some (.int .u32 (a8:Int))/\c.cell? ⟨j5,k3+f*2+1,none⟩=some (.int .u32 (a9:Int))) kz (a0.out _ (Q0.drew (Q0.refl _ L))) ?_;intro j;refine tH 1 44 j ?_;refine tH 2 45 j ?_;refine tH 3 46 j ?_;refine tH 4 47 j ?_;refine tH 5 48 j ?_;refine tH 6 49 j ?_;refine tH 7 50 j ?_;refine rH [0] ?_;refine AllReadyH.cons rfl (fun K hK=>?_) AllReadyH.nil;refine iw rfl ?_;have C:=fun d=>cell_of_row _ _ d _ _ _ f0.out;go_simp;refine hK.out _ _ j (fun _=>?_);clear hK K C;try simp only [Act.put,pq]
  refine rH [8] ?_;refine AllReadyH.cons rfl (fun K hK=>?_) AllReadyH.nil;refine iw rfl ?_;go_simp;refine(k8.out _).mono ?_;rintro e b0 ⟨rfl,D⟩;have U:Ext L b0:=Q0.trans (Q0.drew (Q0.refl _ L)) D;have e1:=U.keep f0.out;refine hK.out _ _ (a0.out _ (Ext.of U)) (fun hS1=>?_);clear hK K D;refine tH 9 42 hS1 ?_;refine tH 10 52 hS1 ?_;refine tH 11 53 hS1 ?_;refine rH [12] ?_;refine AllReadyH.cons rfl (fun K hK=>?_) AllReadyH.nil;refine iw rfl ?_;refine wp_store_row 95 (.tmp 8) (.tmp 52) rfl S #[.int .u32 (o:Int),.int .u32 (p:Int)] rfl rfl _ _ e1 kz rfl kz ?_;have d2:=Q0.setRow b0 S #[.int .u32 (o:Int),.int .u32 (p:Int)];have i5:=setRow_heap _ _ _ #[.int .u32 (o:Int),.int .u32 (p:Int)] _ _ e1;refine hK.out _ _ (a0.out _ ((Ext.of U).trans d2)) (fun hS3=>?_);clear hK K;change wpAnyH _ _ _ _ _ _ _ (Act.put _ none _) _;simp only [Act.put];refine wpAnyH_done kz ?_ _;have a2:Ext k (b0.setRow S #[.int .u32 (o:Int),.int .u32 (p:Int)]):=Q0.after (Q0.trans J U) d2 (fun b hb e=>by have:=H.out;omega);obtain⟨i4,i1⟩:=zE (b0.setRow S #[.int .u32 (o:Int),.int .u32 (p:Int)]);rw [i1] at i5 a2 ⊢;clear i1 d2 j hS1 hS3 a0 e1 U B;have B:=k5;go_upto_region 12 with (fail)
  have R:U6 g x=(o,p):=by rw [B.out];skip
  have b9:=Zh R;clear R;have P:=Q7 N a2;have d3:z.heap.size<=i4.heap.size:=Nat.le_trans G.size a2.size;have C:=fun d=>cell_of_row _ _ d _ _ _ i5
  go_wp2_with (at_builtin;refine Qk rfl (.tmp 54) (.tmp 56) 99 rfl z.heap.size 95 _ 2 8 Tryz.underlying99 @Xt rfl zd _ _ _ rfl (Q7 P ((Q0.refl _ _).alloc _)) ⟨i4.heap.size,0,none⟩ 1 1 [.int .u32 (o:Int),.int .u32 (p:Int)] rfl rfl (Qq rfl) (V6 _ _) ?c3 ?c4 ?c5 ?_)
  case c3=>unfold maxLen;omega
  case c4=>omega
  case c5=>first | omega | (simp;omega) | exact Nat.le_trans d3 (Q0.alloc (Q0.refl (fun _=>False) _) _).size
  intro c7 c8 e0 O Q d0;have M:Ext z e0:=Q0.after (G.trans (Q0.trans a2 ((Q0.refl _ _).alloc _))) Q (fun b hb e=>by have:=(N.lt _ e).1;omega);have c0:=Zh O;have b8:=Zh M;clear O M Q d0 C P;go_wp2;exact⟨⟨d+1,c7,c8,by omega,tz,rfl,by rw [Vp i6.out i9.out,b9.out,Zn];exact c0.out,b8.out⟩,nz⟩
 case neg=>
  have t1:¬ (0:Int)<=j4:=j6;have e5:(0:Nat)<4294967296/\(0:Nat)<4294967296:=⟨by decide,by decide⟩;obtain⟨q,g7⟩:∃ y:Nat,y=0:=⟨_,rfl⟩;obtain⟨r,g8⟩:∃ y:Nat,y=0:=⟨_,rfl⟩;have r6:(.int .u32 0:Value)=.int .u32 (q:Int):=by rw [g7];rfl
  have r7:(.int .u32 0:Value)=.int .u32 (r:Int):=by rw [g8];rfl
  have e5:q<4294967296/\r<4294967296:=by rw [g7,g8];exact e5
  have B:Hid (U6 g x=if A=0 then(X5 (q,r) X (b6,b7)).1 else(Jz (X5 (q,r) X (b6,b7)).1 (g.getD k2.toNat (0,0)) A).1):=Zh (by rw [i7.out,if_neg j6,g7,g8]);have Y:b2.heap[k.heap.size+1]?=some (.cells #[.int .u32 (q:Int),.int .u32 (r:Int)] 95 (0,0)):=by rw [g7,g8];exact Y
  clear i7 r6 r7 g7 g8;go_upto_region 7 with (fail)
  rw [i8.out];clear m9;obtain⟨a1,a4⟩:=zE k.heap.size;obtain⟨S,a3⟩:=zE (k.heap.size+1);have e3:=Zh a4;have H:=Zh a3;rw [a4] at b4;rw [a3] at Y;rw [a3,a4];clear a4 a3 i8 j0 j1 f1 f2 j2 j3;have I:=fun d=>cell_of_row _ _ d _ _ _ b4;go_upto_region 9 with (fail)
  clear I;obtain⟨q7,rfl⟩:∃ c,c=b2:=⟨_,rfl⟩;have b3:=Y;have b5:=b4;have e4:=f8;clear Y b4 f8;have g3:Z1 (q,r):=e5;have a5:=fun(c:World)=>Sm g3 j7 n5 c;have d8:=Ld (m:=X) g3 j7;obtain⟨⟨⟨s,t⟩,r9⟩,g9⟩:=zE (X5 (q,r) X (b6,b7));rw [g9] at a5 B d8;dsimp only at a5 B d8;have e7:=Zh a5;clear a5 g9;have I:=fun d=>cell_of_row _ _ d _ _ _ b5;have C:=fun d=>cell_of_row _ _ d _ _ _ b3;go_wp2_with fail;refine(e7.out _).mono ?_;rintro e c6 ⟨rfl,D⟩;have f7:=e4.trans D;have i2:=D.keep b5;have g6:=D.keep b3;have c1:=Zh g6;clear I C b5 b3 e4 D e7;go_upto_region 10 with (refine wpList_store_row rfl 95 (.tmp 8) (.tmp 37) rfl S #[.int .u32 (s:Int),.int .u32 (t:Int)] rfl rfl _ _ c1.out kz rfl kz ?_)
  have d1:=Q0.setRow c6 S #[.int .u32 (s:Int),.int .u32 (t:Int)];have a6:=setRow_heap _ _ _ #[.int .u32 (s:Int),.int .u32 (t:Int)] _ _ c1.out;have V:=d1.heap i2 (by have:=e3.out;have:=H.out;omega);have J:Ext k (c6.setRow S #[.int .u32 (s:Int),.int .u32 (t:Int)]):=Q0.after f7 d1 (fun b hb e=>by have:=H.out;omega);obtain⟨L,i0⟩:=zE (c6.setRow S #[.int .u32 (s:Int),.int .u32 (t:Int)]);rw [i0] at a6 V J ⊢;clear i0 d1 i2 g6 c1 f7;have I:=fun d=>cell_of_row _ _ d _ _ _ V;by_cases Z:A=0;case pos=>
   subst Z;go_upto_region 12 with (fail)
   clear I V;have R:U6 g x=(s,t):=by rw [B.out];simp
   have b9:=Zh R;clear R;have P:=Q7 N J;have d3:z.heap.size<=L.heap.size:=Nat.le_trans G.size J.size;have C:=fun d=>cell_of_row _ _ d _ _ _ a6
   go_wp2_with (at_builtin;refine Qk rfl (.tmp 54) (.tmp 56) 99 rfl z.heap.size 95 _ 2 8 Tryz.underlying99 @Xt rfl zd _ _ _ rfl (Q7 P ((Q0.refl _ _).alloc _)) ⟨L.heap.size,0,none⟩ 1 1 [.int .u32 (s:Int),.int .u32 (t:Int)] rfl rfl (Qq rfl) (V6 _ _) ?c3 ?c4 ?c5 ?_)
   case c3=>unfold maxLen;omega
   case c4=>omega
   case c5=>first | omega | (simp;omega) | exact Nat.le_trans d3 (Q0.alloc (Q0.refl (fun _=>False) _) _).size
   intro c7 c8 e0 O Q d0;have M:Ext z e0:=Q0.after (G.trans (Q0.trans J ((Q0.refl _ _).alloc _))) Q (fun b hb e=>by have:=(N.lt _ e).1;omega);have c0:=Zh O;have b8:=Zh M;clear O M Q d0 C P;go_wp2;exact⟨⟨d+1,c7,c8,by omega,tz,rfl,by rw [Vp i6.out i9.out,b9.out,Zn];exact c0.out,b8.out⟩,nz⟩
  obtain⟨l1,j8⟩:=l8.out Z;have r5:((A:Int) != 0)=true:=by rw [bne_iff_ne];omega
  obtain⟨f,rfl⟩:=Int.eq_ofNat_of_zero_le l1;have g4:f<k4:=by omega
  obtain⟨f3,i3,r0,T,r2,E,F⟩:=(b1.out.ext G).at (i:=f) (by rw [e2.out];exact g4);simp only [zV] at T;obtain⟨rfl,d9,rfl⟩:=T;clear d9;obtain⟨⟨a8,a9⟩,d6⟩:=zE (g.getD f (0,0));have d5:=b1.out.2.get f (by rw [e2.out];exact g4);rw [d6] at E F d5;have g5:Z1 (a8,a9):=d5;dsimp only at E F;have a7:=fun(c:World)=>Es d8 g5 n6 c;obtain⟨⟨⟨o,p⟩,r8⟩,d7⟩:=zE (Jz (s,t) (a8,a9) A);rw [d7] at a7;dsimp only at a7;have k8:=Zh a7;have k5:Hid (U6 g x=(o,p)):=Zh (by rw [B.out,if_neg Z,show ((f:Int)).toNat=f from rfl,d6,d7]);clear a7 d7 d6 d5 g5;have g0:∀(c:World),Q0 (·=S) L c->c.cell? ⟨a1,4,none⟩=some (.int .u32 (A:Int))/\c.cell? ⟨a1,5,none⟩=some (.int .i64 f)/\c.cell? ⟨f3,i3+f*2,none⟩=some (.int .u32 (a8:Int))/\c.cell? ⟨f3,i3+f*2+1,none⟩=some (.int .u32 (a9:Int)):=by
   intro c f5;have f4:=f5.heap V (by have:=e3.out;have:=H.out;omega);have c9:Ext k c:=Q0.after J f5 (fun b hb e=>by have:=H.out;omega);exact⟨cell_of_row _ _ 4 _ _ _ f4,cell_of_row _ _ 5 _ _ _ f4,c9.cell_some E id,c9.cell_some F id⟩
  have a0:=Zh g0;have f0:=Zh a6;clear g0;go_upto_region 11 with (fail)
  clear I V a6 E F;refine wp_region_held_drew (S:=fun c=>c.cell? ⟨a1,4,none⟩=some (.int .u32 (A:Int))/\c.cell? ⟨a1,5,none⟩=some (.int .i64 f)/\c.cell? ⟨f3,i3+f*2,none⟩=some (.int .u32 (a8:Int))/\c.cell? ⟨f3,i3+f*2+1,none⟩=some (.int .u32 (a9:Int))) kz (a0.out _ (Q0.drew (Q0.refl _ L))) ?_;intro j;refine tH 1 44 j ?_;refine tH 2 45 j ?_;refine tH 3 46 j ?_;refine tH 4 47 j ?_;refine tH 5 48 j ?_;refine tH 6 49 j ?_;refine tH 7 50 j ?_;refine rH [0] ?_;refine AllReadyH.cons rfl (fun K hK=>?_) AllReadyH.nil;refine iw rfl ?_;have C:=fun d=>cell_of_row _ _ d _ _ _ f0.out;go_simp;refine hK.out _ _ j (fun _=>?_);clear hK K C;try simp only [Act.put,pq]
  refine rH [8] ?_;refine AllReadyH.cons rfl (fun K hK=>?_) AllReadyH.nil;refine iw rfl ?_;go_simp;refine(k8.out _).mono ?_;rintro e b0 ⟨rfl,D⟩;have U:Ext L b0:=Q0.trans (Q0.drew (Q0.refl _ L)) D;have e1:=U.keep f0.out;refine hK.out _ _ (a0.out _ (Ext.of U)) (fun hS1=>?_);clear hK K D;refine tH 9 42 hS1 ?_;refine tH 10 52 hS1 ?_;refine tH 11 53 hS1 ?_;refine rH [12] ?_;refine AllReadyH.cons rfl (fun K hK=>?_) AllReadyH.nil;refine iw rfl ?_;refine wp_store_row 95 (.tmp 8) (.tmp 52) rfl S #[.int .u32 (o:Int),.int .u32 (p:Int)] rfl rfl _ _ e1 kz rfl kz ?_;have d2:=Q0.setRow b0 S #[.int .u32 (o:Int),.int .u32 (p:Int)];have i5:=setRow_heap _ _ _ #[.int .u32 (o:Int),.int .u32 (p:Int)] _ _ e1;refine hK.out _ _ (a0.out _ ((Ext.of U).trans d2)) (fun hS3=>?_);clear hK K;change wpAnyH _ _ _ _ _ _ _ (Act.put _ none _) _;simp only [Act.put];refine wpAnyH_done kz ?_ _;have a2:Ext k (b0.setRow S #[.int .u32 (o:Int),.int .u32 (p:Int)]):=Q0.after (Q0.trans J U) d2 (fun b hb e=>by have:=H.out;omega);obtain⟨i4,i1⟩:=zE (b0.setRow S #[.int .u32 (o:Int),.int .u32 (p:Int)]);rw [i1] at i5 a2 ⊢;clear i1 d2 j hS1 hS3 a0 e1 U B;have B:=k5;go_upto_region 12 with (fail)
  have R:U6 g x=(o,p):=by rw [B.out];skip
  have b9:=Zh R;clear R;have P:=Q7 N a2;have d3:z.heap.size<=i4.heap.size:=Nat.le_trans G.size a2.size;have C:=fun d=>cell_of_row _ _ d _ _ _ i5
  go_wp2_with (at_builtin;refine Qk rfl (.tmp 54) (.tmp 56) 99 rfl z.heap.size 95 _ 2 8 Tryz.underlying99 @Xt rfl zd _ _ _ rfl (Q7 P ((Q0.refl _ _).alloc _)) ⟨i4.heap.size,0,none⟩ 1 1 [.int .u32 (o:Int),.int .u32 (p:Int)] rfl rfl (Qq rfl) (V6 _ _) ?c3 ?c4 ?c5 ?_)
  case c3=>unfold maxLen;omega
  case c4=>omega
  case c5=>first | omega | (simp;omega) | exact Nat.le_trans d3 (Q0.alloc (Q0.refl (fun _=>False) _) _).size
  intro c7 c8 e0 O Q d0;have M:Ext z e0:=Q0.after (G.trans (Q0.trans a2 ((Q0.refl _ _).alloc _))) Q (fun b hb e=>by have:=(N.lt _ e).1;omega);have c0:=Zh O;have b8:=Zh M;clear O M Q d0 C P;go_wp2;exact⟨⟨d+1,c7,c8,by omega,tz,rfl,by rw [Vp i6.out i9.out,b9.out,Zn];exact c0.out,b8.out⟩,nz⟩
theorem Qgq{w:World}{u v:Value}{us vs:Wd}(t:Q6 w u us)(x:Q6 w v vs) :
  Calls Tryz.prog 146 #[u,v] w fun e w'=>e=.returned (.bool (decide (us=vs)))/\Ext w w':=by
 obtain⟨b0,a9,rfl,a0⟩:=t.slice;obtain⟨b2,b1,rfl,a1⟩:=x.slice;unfold maxLen at a0 a1;obtain⟨c,G⟩:=zE us.length;obtain⟨z,F⟩:=zE vs.length;rw [G] at t a0 ⊢;rw [F] at x a1 ⊢;obtain⟨a7,a8,o,y⟩:=Zh4 t x G F;clear t x G F;go_enter Tryz.func146,Tryz.ntmps146;by_cases T:c=z;case neg=>
  have c1:((c:Int) ==(z:Int))=false:=by simp;omega
  have c4:¬ (c:Int)=(z:Int):=by omega
  have l:¬ us=vs:=by intro E;rw [E,y.out] at o;exact T o.out.symm
  have p:=Zh (decide_eq_false l);clear l;go_wp2;go_ret;exact⟨by rw [p.out];rfl,Q0.refl _ _⟩
 subst T;go_wp2
 refine wp_loop (fun a q=>∃(b:Nat),b<=c/\a.defers=[]/\gS a [0,1,5]=(26,[.slice b0 c a9,.slice b2 c b1,.int .i64 b])/\us.take b=vs.take b/\Ext w q)
  (fun a _=>c - (intOf (a.tmps.getD 5 undef)).toNat) ?_ ?_
 ·exact⟨0,by omega,rfl,rfl,by simp,Q0.refl _ _⟩
 rintro⟨M,_⟩ q ⟨b,c7,b6,a3,U,g⟩;subst b6;obtain⟨u,rfl⟩:=Qj a3;clear a3;have N:=Zh U;clear U;by_cases Z:b<c
 ·have b3:(b:Int)<(c:Int):=by omega
  have H:b<us.length:=by rw [o.out];exact Z
  have I:b<vs.length:=by rw [y.out];exact Z
  obtain⟨b9,c8,b7,m,c5,A,B⟩:=(show Q6 q _ us from(a7.out.ext g)).at H;simp only [zV] at m;obtain⟨rfl,L,rfl⟩:=m;clear L;obtain⟨c0,c9,b8,m,c6,C,D⟩:=(show Q6 q _ vs from(a8.out.ext g)).at I;simp only [zV] at m;obtain⟨rfl,L,rfl⟩:=m;clear L;have X:us.getD b (0,0)=us[b]:=by rw [List.getD_eq_getElem?_getD,List.getElem?_eq_getElem H];rfl
  have Y:vs.getD b (0,0)=vs[b]:=by rw [List.getD_eq_getElem?_getD,List.getElem?_eq_getElem I];rfl
  rw [X] at A B;rw [Y] at C D;obtain⟨i,J⟩:=zE (us[b]);obtain⟨M,K⟩:=zE (vs[b]);have O:Hid (us[b]=i):=Zh J;have P:Hid (vs[b]=M):=Zh K;rw [J] at A B;rw [K] at C D;obtain⟨d,j⟩:=i;obtain⟨f,k⟩:=M;dsimp only at A B C D;clear X Y J K;by_cases s:d=f/\j=k
  ·obtain⟨rfl,rfl⟩:=s;have a2:us.take (b+1)=vs.take (b+1):=by
    rw [List.take_succ_eq_append_getElem H,List.take_succ_eq_append_getElem I,N.out,O.out,P.out]
   have a6:=Zh a2;clear a2;go_wp2
   go_quiet (fail)
   go_wp2;exact⟨⟨b+1,by omega,tz,rfl,a6.out,g.drewN _⟩,nz⟩
  ·have l:¬ us=vs:=by
    intro E;subst E;have r:=O.out.symm.trans P.out;simp only [Prod.mk.injEq] at r;exact s r
   have p:=Zh (decide_eq_false l);have V:(((d:Int) ==(f:Int)) && ((j:Int) ==(k:Int)))=false:=by
    by_cases r:d=f
    ·have Q:¬ j=k:=fun Q=>s ⟨r,Q⟩;simp;omega
    ·simp;omega
   have R:¬ ((d:Int)=(f:Int)/\(j:Int)=(k:Int)):=by omega
   have S:(d:Int)=(f:Int)->¬ (j:Int)=(k:Int):=by omega
   have a4:=Zh S;clear l s S;by_cases b4:(d:Int)=(f:Int)
   ·have c2:=a4.out b4;have c3:((j:Int) ==(k:Int))=false:=by simp;omega
    have b5:((d:Int) ==(f:Int))=true:=by simp;omega
    clear V R;go_wp2
    go_quiet (fail)
    go_wp2;go_ret;exact⟨by rw [p.out];rfl,g.drewN _⟩
   ·have b5:((d:Int) ==(f:Int))=false:=by simp;omega
    clear V R;go_wp2
    go_quiet (fail)
    go_wp2;go_ret;exact⟨by rw [p.out];rfl,g.drewN _⟩
 ·obtain rfl:b=c:=by omega
  have b3:¬ (b:Int)<(b:Int):=by omega
  have W:us=vs:=by have:=N.out;rwa [List.take_of_length_le (by rw [o.out];exact Nat.le_refl _),List.take_of_length_le (by rw [y.out];exact Nat.le_refl _)] at this
  have a5:=Zh (decide_eq_true W);clear W;go_wp2;go_ret;exact⟨by rw [a5.out];rfl,g⟩
theorem Qgu{w:World}{u v:Value}{us vs:Wd}(t:Q6 w u us)(x:Q6 w v vs) :
  Calls Tryz.prog 124 #[u,v] w fun e w'=>e=.returned (.bool (decide (us=vs)))/\Ext w w':=by
 obtain⟨b0,a9,rfl,a0⟩:=t.slice;obtain⟨b2,b1,rfl,a1⟩:=x.slice;unfold maxLen at a0 a1;obtain⟨c,G⟩:=zE us.length;obtain⟨z,F⟩:=zE vs.length;rw [G] at t a0 ⊢;rw [F] at x a1 ⊢;obtain⟨a7,a8,o,y⟩:=Zh4 t x G F;clear t x G F;go_enter Tryz.func124,Tryz.ntmps124;by_cases T:c=z;case neg=>
  have c1:((c:Int) ==(z:Int))=false:=by simp;omega
  have c4:¬ (c:Int)=(z:Int):=by omega
  have l:¬ us=vs:=by intro E;rw [E,y.out] at o;exact T o.out.symm
  have p:=Zh (decide_eq_false l);clear l;go_wp2;go_ret;exact⟨by rw [p.out];rfl,Q0.refl _ _⟩
 subst T;go_wp2
 refine wp_loop (fun a q=>∃(b:Nat),b<=c/\a.defers=[]/\gS a [0,1,12,13]=(26,[.slice b0 c a9,.slice b2 c b1,.int .i64 c,.int .i64 b])/\us.take b=vs.take b/\Ext w q)
  (fun a _=>c - (intOf (a.tmps.getD 13 undef)).toNat) ?_ ?_
 ·exact⟨0,by omega,rfl,rfl,by simp,Q0.refl _ _⟩
 rintro⟨M,_⟩ q ⟨b,c7,b6,a3,U,g⟩;subst b6;obtain⟨u,rfl⟩:=Qj a3;clear a3;have N:=Zh U;clear U;by_cases Z:b<c
 ·have b3:(b:Int)<(c:Int):=by omega
  have H:b<us.length:=by rw [o.out];exact Z
  have I:b<vs.length:=by rw [y.out];exact Z
  obtain⟨b9,c8,b7,m,c5,A,B⟩:=(show Q6 q _ us from(a7.out.ext g)).at H;simp only [zV] at m;obtain⟨rfl,L,rfl⟩:=m;clear L;obtain⟨c0,c9,b8,m,c6,C,D⟩:=(show Q6 q _ vs from(a8.out.ext g)).at I;simp only [zV] at m;obtain⟨rfl,L,rfl⟩:=m;clear L;have X:us.getD b (0,0)=us[b]:=by rw [List.getD_eq_getElem?_getD,List.getElem?_eq_getElem H];rfl
  have Y:vs.getD b (0,0)=vs[b]:=by rw [List.getD_eq_getElem?_getD,List.getElem?_eq_getElem I];rfl
  rw [X] at A B;rw [Y] at C D;obtain⟨i,J⟩:=zE (us[b]);obtain⟨M,K⟩:=zE (vs[b]);have O:Hid (us[b]=i):=Zh J;have P:Hid (vs[b]=M):=Zh K;rw [J] at A B;rw [K] at C D;obtain⟨d,j⟩:=i;obtain⟨f,k⟩:=M;dsimp only at A B C D;clear X Y J K;by_cases s:d=f/\j=k
  ·obtain⟨rfl,rfl⟩:=s;have a2:us.take (b+1)=vs.take (b+1):=by
    rw [List.take_succ_eq_append_getElem H,List.take_succ_eq_append_getElem I,N.out,O.out,P.out]
   have a6:=Zh a2;clear a2;go_wp2
   go_quiet (fail)
   go_wp2;exact⟨⟨b+1,by omega,tz,rfl,a6.out,g.drewN _⟩,nz⟩
  ·have l:¬ us=vs:=by
    intro E;subst E;have r:=O.out.symm.trans P.out;simp only [Prod.mk.injEq] at r;exact s r
   have p:=Zh (decide_eq_false l);have V:(((d:Int) ==(f:Int)) && ((j:Int) ==(k:Int)))=false:=by
    by_cases r:d=f
    ·have Q:¬ j=k:=fun Q=>s ⟨r,Q⟩;simp;omega
    ·simp;omega
   have R:¬ ((d:Int)=(f:Int)/\(j:Int)=(k:Int)):=by omega
   have S:(d:Int)=(f:Int)->¬ (j:Int)=(k:Int):=by omega
   have a4:=Zh S;clear l s S;by_cases b4:(d:Int)=(f:Int)
   ·have c2:=a4.out b4;have c3:((j:Int) ==(k:Int))=false:=by simp;omega
    have b5:((d:Int) ==(f:Int))=true:=by simp;omega
    clear V R;go_wp2
    go_quiet (fail)
    go_wp2;go_ret;exact⟨by rw [p.out];rfl,g.drewN _⟩
   ·have b5:((d:Int) ==(f:Int))=false:=by simp;omega
    clear V R;go_wp2
    go_quiet (fail)
    go_wp2;go_ret;exact⟨by rw [p.out];rfl,g.drewN _⟩
 ·obtain rfl:b=c:=by omega
  have b3:¬ (b:Int)<(b:Int):=by omega
  have W:us=vs:=by have:=N.out;rwa [List.take_of_length_le (by rw [o.out];exact Nat.le_refl _),List.take_of_length_le (by rw [y.out];exact Nat.le_refl _)] at this
  have a5:=Zh (decide_eq_true W);clear W;go_wp2;go_ret;exact⟨by rw [a5.out];rfl,g⟩
theorem eqW{w:World}{u v:Value}{us vs:Wd}(a:Q6 w u us)(b:Q6 w v vs) :
  Calls Tryz.prog 70 #[u,v] w fun e w'=>e=.returned (.bool (decide (us=vs)))/\Ext w w':=by
 have c:=fun(D:World) (hD:Ext w D)=>Qgu (a.ext hD) (b.ext hD);obtain⟨i,g,rfl,l⟩:=a.slice;obtain⟨k,j,rfl,m⟩:=b.slice;have d:=Zh c;clear c a b;go_enter Tryz.func70,Tryz.ntmps70;go_wp2_with fail;refine(d.out _ (by first | exact Q0.refl _ _ | exact Q0.drew (Q0.refl _ _))).mono ?_;rintro e n ⟨rfl,f⟩;clear d;go_wp2;go_ret;exact⟨rfl,by first | exact f | exact Q0.trans (Q0.drew (Q0.refl _ _)) f⟩
abbrev Qcp:Nat->(Nat->Prop)->Int->World->Array Value->Prop:=fun _ _ x _ ys=>ys=#[.int .i64 x]
theorem Q5k{w:World}{gf:Nat}{lb:Array Value}(Y:∀ args w,(callFunc gf args).run Tryz.prog w=.ok (.enter gf args) w) {M:Nat->Nat->Prop} {xs:List Int} (a0:∀ w1,Ext w w1->Gt Tryz.prog gf lb M Qcp xs (fun b=>b<w.heap.size) w1) (d1:xs.length<=1000) :
  Calls Tryz.prog 193 #[.slice none 0 0,.func (.func gf) #[] lb] w fun e w'=>∃ u,e=.returned u/\w'.ownsRow w.heap.size 3 1 u xs.length (Zq xs)/\Ext w w':=by
 refine Z4 Tryz.func193 rfl ?_;simp only [Tryz.ntmps193,zS,Nat.reduceAdd,Nat.reduceSub];have a8:=Zh a0;have a5:=Zh Y;clear a0 Y;go_wp2;obtain⟨c,B⟩:=zE w.heap.size;have H:(w.alloc (.cells #[.slice none 0 0] 48)).heap[c]?=some (.cells #[.slice none 0 0] 48 (0,0)):=Q3 B.symm;have C:Ext w (w.alloc (.cells #[.slice none 0 0] 48)):=(Q0.refl _ w).alloc _;have b8:(w.alloc (.cells #[.slice none 0 0] 48)).heap.size=c+1:=by rw [<-B];simp
 generalize (w.alloc (.cells #[.slice none 0 0] 48))=w1 at H C b8 ⊢;have L:=a8.out w1 C;rw [B] at L ⊢;have z:=Zh B;clear B
 refine Ut (xs:=xs) (K:=fun b=>b<c) rfl a5.out L (fun b a=>by omega) (fun _ _ x A y a=>by rw [a];rfl) (fun _ _ x A D y a _ _=>a)
  (fun k f g=>∃ u,g.heap[c]?=some (.cells #[u] 48 (0,0))/\g.ownsRow c 3 1 u f.length (Zq f)/\(∀ d,u.ownBlock=some d->d≠c/\d≠c+1/\d≠c+2/\¬ k d)/\Ext w g)
  (fun _ _ _ _=>False) ?hI ?hIx ?h0 (fun y t=>(t.setIfInBounds 7 (y.getD 0 undef)).setIfInBounds 5 (y.getD 0 undef)) ?assign ?body ?done ?stop
 case hI=>
  rintro k c1 f b0 b1 ⟨u,j,i,n,v⟩ r b9 b5;have s:Q0 (fun b=>k b\/b=c+2) b0 b1:=b9.mono (fun b _ a=>a.elim (fun q=>.inl q.1) (fun q=>.inr oz));refine⟨u,s.heap j (fun a=>?_),Qf i s (fun b hb e=>?_),fun d p=>?_,v.after s (fun b' h1 h2=>?_)⟩
  ·rcases a with a | a
   ·have:=(r _ a).1;omega
   ·omega
  ·have:=n b hb;exact e.elim this.2.2.2 (fun q=>this.2.2.1 q)
  ·obtain⟨a2,a3,a4,O⟩:=n d p;exact⟨a2,a3,a4,fun a=>by rcases(b5 d a).1 with a | a;exact O a;have:=(i.lt _ p).2;omega⟩
  ·have:=z.out;rcases h2 with a | a
   ·have:=(r _ a).1;omega
   ·omega
 case hIx=>exact fun _ _ _ _ _ _ a _ _ _=>a
 case h0=>
  intro g X _;exact⟨.slice none 0 0,X.keep H,World.ownsRow_nil _ _ _ _,(fun d p=>by cases p),Q0.trans C X⟩
 case assign=>
  rintro _ _ G y g c0 rfl b4;gi_wp2;exact b4
 case body=>
  rintro k f G d4 y g N d3 r s ⟨u,j,i,n,v⟩ rfl;simp only [pq];have d2:f.length<1000:=by
   have:=congrArg List.length N;simp at this;omega
  have Q:=cell_of_one j;have b2:=free_of_one j;have c9:c<g.heap.size:=(Array.getElem?_eq_some_iff.1 j).1;have d0:=Zh N;have P:=Zh r;clear N r;refine wpIn_block ?_;refine Xv kz (by rintro⟨_,_,a⟩;exact a) ?_;have a9:=Zh j;clear j
  go_wp2_with (at_builtin;refine Qk rfl (.tmp 8) (.tmp 10) 48 rfl c 3 _ 1 8 Tryz.underlying48 Tryz.infoI rfl zd _ _ _ rfl (Q7 i ((Q0.refl _ g).alloc _)) ⟨g.heap.size,0,none⟩ 1 1 [.int .i64 G] rfl rfl (Qq rfl) ?c2 ?c3 ?c4 ?c5 ?_)
  case c2=>first | rfl | (intro u a1;simp at a1;rcases a1 with rfl;rfl)
  case c3=>unfold maxLen;omega
  case c4=>omega
  case c5=>simp;omega
  intro l m o V W R;have E:Q0 (fun b'=>u.ownBlock=some b') g o:=Q0.trans (Q0.alloc (Q0.refl _ g) _) W;have I:=E.heap a9.out (fun e=>(n _ e).1 rfl);have S:Ext w o:=Q0.after v E (fun b' h1 e=>by have:=(i.lt _ e).1;have:=z.out;omega);have J:∀ d,(Value.slice l (f.length+1) m).ownBlock=some d->d≠c/\d≠c+1/\d≠c+2/\¬ k d:=by
   intro d p;rcases R with e | e
   ·exact n d (e ▸ p)
   ·rw [p] at e;cases e;exact⟨by first | omega | (simp;omega),by first | omega | (simp;omega),by first | omega | (simp;omega),fun a=>by have:=(P.out _ a).2;first | omega | (simp at this;omega)⟩
  have c6:=cell_of_one I;have c8:=free_of_one I;have F:=Q0.set1 o c 0 (.slice l (f.length+1) m);have U:(o.setCell ⟨c,0,none⟩ (.slice l (f.length+1) m)).heap[c]?=some (.cells #[.slice l (f.length+1) m] 48 (0,0)):=by
   simp only [World.setCell,Array.getElem?_modify,I];simp
  have T:Q0 (fun b=>¬ (b<c\/k b\/b=c+1\/b=c+1+1)) g (o.setCell ⟨c,0,none⟩ (.slice l (f.length+1) m)):=by
   refine(E.mono (fun b' _ e hn=>?_)).trans (F.mono (fun b' _ e hn=>?_))
   ·obtain⟨a2,a3,a4,O⟩:=n _ e;have:=(i.lt _ e).1;rcases hn with a | a | a
    ·omega
    ·exact O a
    ·omega
   ·rcases hn with a | a | a
    ·omega
    ·have:=(P.out _ a).1;omega
    ·omega
  have Z:∃ u,(o.setCell ⟨c,0,none⟩ (.slice l (f.length+1) m)).heap[c]?=some (.cells #[u] 48 (0,0))/\(o.setCell ⟨c,0,none⟩ (.slice l (f.length+1) m)).ownsRow c 3 1 u (f++[G]).length (Zq (f++[G]))/\(∀ d,u.ownBlock=some d->d≠c/\d≠c+1/\d≠c+2/\¬ k d)/\Ext w (o.setCell ⟨c,0,none⟩ (.slice l (f.length+1) m)):=by
   refine⟨_,U,?_,J,Q0.after S F (fun b h1 h2=>by have:=z.out;omega)⟩;rw [Q5l,List.length_append];exact Qf V F (fun b hb e=>(J b hb).1 e)
  have a7:=Zh T;have a6:=Zh Z;clear T Z U F J S E W V R Q b2 i n v s;go_wp2;exact⟨a7.out,a6.out⟩
 case done=>
  rintro k g ⟨u,j,i,n,v⟩ r s b3;have Q:=cell_of_one j;clear C H L;go_wp2;have b7:Z3 c ({ target:=.collected w1.heap.size,args:=#[] }::[]) g:=Z3.cons (base:=c) trivial oz b3 (fun e he=>by cases he);refine Yv b7 (fun w'=>results_tmp rfl _ _ _) (fun w' ht' hs=>⟨u,rfl,?_,?_⟩)
  ·rw [z.out];exact Qf i ht' (fun b hb e=>by obtain⟨c7,b6⟩:=Zg i hb;exact Shut.not b6 rfl e)
  ·exact Q0.after v ht' (fun b' h2 h3=>by have:=h3.1;have:=z.out;omega)
 case stop=>exact fun _ _ _ _ _ _ _ a=>a.elim
theorem Q3q{w:World}{gf:Nat}{lb:Array Value}(d:∀ args w,(callFunc gf args).run Tryz.prog w=.ok (.enter gf args) w) {M:Nat->Nat->Prop} {xs:List Int} (f:∀ w1,Ext w w1->Gt Tryz.prog gf lb M Qcp xs (fun b=>b<w.heap.size) w1) (k:xs.length<=1000) :
  Calls Tryz.prog 163 #[.func (.func gf) #[] lb] w fun e w'=>∃ u,e=.returned u/\w'.ownsRow w.heap.size 3 1 u xs.length (Zq xs)/\Ext w w':=by
 have c:=Q5k d f k;have g:=Zh c;clear c f d;go_enter Tryz.func163,Tryz.ntmps163;go_wp2_with fail;refine g.out.mono ?_;rintro e w' ⟨u,rfl,a,j⟩;obtain⟨m,l,rfl⟩:=Zd a;have i:=Zh a;clear a;go_wp2;go_ret;exact⟨_,rfl,i.out,j⟩
end Go.Proofs.YtfdlhlghcbeblaaGreatDoor
