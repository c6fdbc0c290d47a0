/- law.run: its iterator in ModeRight (printed by genrun.py). -/
import Derived.Test.YtedeckeahmkheaaGreatDoorK16
set_option maxRecDepth 100000
set_option maxHeartbeats 16000000
namespace Go.Proofs.YtedeckeahmkheaaGreatDoor
open Go.RowKit Go.Ab
attribute [local go_sem] Oper.semAt_some Y3 Z8
theorem Mp{w:World}{BW BL a3 a4:Nat}{l:Qa}{cs:List Value}{vo:Option Addr}{vc:Nat}{ws:Wd}{K:Nat->Prop}(k3:J1 l=true)(e7:l.mode=2)(o2:ws.length<=32)(e0:ws.length<=vc)(e4:Z6 K (.slice vo ws.length vc))
  (i8:∀ b,K b->b<w.heap.size) (E:∀ W,Q0 (fun b=>¬ K b) w W->W5 W BW BL a3 a4 l cs vo vc ws) :
  Ui Tryz.prog 42 #[.pointer (some ⟨BW,0,none⟩),.pointer (some ⟨BL,0,none⟩),.pointer (some ⟨a3,0,none⟩),.pointer (some ⟨a4,0,none⟩)] (Zn 2) (Db 2) (Qt l ws) K w:=by
 intro a0 m9 p4 W f1 i4 n6 j4 i3;obtain⟨n9,k5,k2,_,j8,_,_,_⟩:=Y6 k3;have b2:=E W f1;have k6:=b2.law.box.mode;rw [e7] at k6;obtain⟨l6,f2⟩:=zE ws.length;have a9:=cell_of_one b2.box;rw [f2] at a9 o2 e0 e4;obtain⟨g1,O,d3,l9,g4,I,d5,f9⟩:=Zh8 e4 f2 E j8 e7 i4 j4 i3;have d4:=Zh f1;have c3:=Zh b2;obtain⟨Z,e3⟩:=zE l.ifs.length;obtain⟨f4,e6⟩:=zE l.outs.length;rw [e3] at n9 k2;rw [e6] at k5 k2;have q:=Zh e3;have J:=Zh e6;clear E j8 e7 i4 n6 j4 i3 f1 b2 k3 f2 e4 e3 e6;show Calls _ _ #[.func (.yield a0) #[] #[],.pointer (some ⟨BW,0,none⟩),.pointer (some ⟨BL,0,none⟩),.pointer (some ⟨a3,0,none⟩),.pointer (some ⟨a4,0,none⟩)] _ _;go_enter Tryz.func42,Tryz.ntmps42;have d6:=c3.out.law.box.mode;rw [g4.out] at d6;go_upto_region 1 with (fail)
 obtain⟨N,p⟩:=zE (W.alloc (.cells #[.func (.yield a0) #[] #[]] 79));have G:Ext W N:=by rw [<-p];exact(Q0.refl _ W).alloc _
 have d9:N.heap[W.heap.size]?=some (.cells #[.func (.yield a0) #[] #[]] 79 (0,0)):=by rw [<-p];exact Q5 rfl
 have f0:N.heap.size=W.heap.size+1:=by rw [<-p];simp
 rw [p];obtain⟨e,b7⟩:=zE W.heap.size;rw [b7] at d9 f0 ⊢;have e2:=I.out;have f3:=d5.out;rw [b7] at e2 f3;have o7:=I;have I:=Zh e2;have d5:=Zh f3;clear e2 f3;have m1:Hid (∀ b,K b->b<e):=Zh fun b U=>by have:=i8 b U;have:=d4.out.size;omega
 have i1:=Zh b7;have a6:=Zh f0;clear i8;have a9:=G.cell_some a9 id;clear p b7 f0 k6;go_upto_region 2 with (fail)
 rw [a6.out];obtain⟨c2,Y⟩:=zE (N.alloc (.cells #[.slice vo l6 vc] 32));have C:Ext N c2:=by rw [<-Y];exact(Q0.refl _ N).alloc _
 have i9:Zp c2 (e+1) (.slice vo l6 vc):=by rw [<-Y];exact Q5 a6.out.symm
 have k8:c2.heap.size=e+2:=by rw [<-Y];simp [a6.out]
 have j5:=C.keep d9;rw [Y];have R:=G.trans C;have o0:=R.cell_some d6 id;have d1:=Zh k8;clear Y a9 d9 G C d6 k8;have i5:=I.out _ (fun b=>b=e\/b=e+1) [] _ _ f9.out (Ext.of R) (fun b U=>by have:=i1.out;have:=d1.out;omega);have g0:=Zh i5;have j2:Q0 (fun b=>¬ K b) w c2:=d4.out.trans (Ext.of R);clear i5;go_wp2;obtain⟨g9,i2,c7⟩:=Zh3 j2 j5 i9;clear j2 j5 i9 o0
 refine wp_loop (fun a P=>∃(a7:Nat->Prop) (A:List (Nat × Wd)) (u:Wd) (i:Nat) (f7:Option Addr) (f6:Nat),a.defers=[]/\gS a [0,1,2,3,4,5,6,10]=(117,[.func (.yield a0) #[] #[],.pointer (some ⟨BW,0,none⟩),.pointer (some ⟨BL,0,none⟩),.pointer (some ⟨a3,0,none⟩),.pointer (some ⟨a4,0,none⟩),.pointer (some ⟨e,0,none⟩),.pointer (some ⟨e+1,0,none⟩),.int .i64 i])/\Yx l ws A u i/\Zr w P K a7 m9 e a0 A u f7 f6)
  (fun a P=>Da P (e+1)+1 - (intOf (a.tmps.getD 10 undef)).toNat) ?_ ?_
 ·refine⟨(fun b=>b=e\/b=e+1),[],ws,0,vo,vc,rfl,rfl,.start g4.out,⟨g0.out,.inl rfl,.inr rfl,fun b U=>by have:=d1.out;omega,g9.out,i2.out,?_,?_,?_,?_⟩⟩
  ·rw [O.out];exact c7.out
  ·exact c3.out.word.ext R
  ·rw [O.out];exact e0
  ·rw [O.out];exact fun g o n c L h0'=>.inl (g1.out g o n c L h0')
 clear g0 f9 g9 i2 c7 c3 R d4 i1 a6 d1 e0 g1;rintro⟨t,_⟩ P ⟨a7,A,o5,i,f7,f6,n7,l0,T,M⟩;obtain⟨H,rfl⟩:∃ x,x=o5:=⟨_,rfl⟩;subst n7;obtain⟨u,rfl⟩:=Zf l0;clear l0;have E:=d3.out P M.t;obtain⟨c1,X⟩:=zE H.length;have f:=J7 M.n;have B:=cell_of_one M.n;have b0:=cell_of_one M.y;have b1:=cell_of_one E.bk;have Q:=cell_of_one E.bm;rw [q.out] at b1;rw [J.out] at Q;rw [X] at B f;have n8:=few (t:=A.length) (n:=ws.length+1) (m:=f4) (by have:=T.2.1;omega) k5 (by rw [O.out];omega);have q9:c1<=230:=by
  have F:=T.2.2.1;rw [J.out,X,O.out] at F;omega
 have j9:=T.2.2.2;rw [X] at j9;obtain⟨d,c4,c9,a5,d0⟩:=Zh5 X f T M E;clear X f T M E n8;by_cases e5:i+Z<=c1;case neg=>
  have F:¬ ((i:Int)+(Z:Int)<=(c1:Int)):=by omega
  have j7:=c9.out.done (by rw [d.out,q.out];omega);have l8:=Zh j7;clear j7 Q b0;go_wp2;go_end0
  exact⟨⟨_,rfl⟩,a7,.inl (by rw [l8.out];exact a5.out.j)⟩
 have F:(i:Int)+(Z:Int)<=(c1:Int):=by omega
 go_upto_region 14 with (fail)
 obtain⟨S,b3⟩:=d0.out.law;obtain⟨r9,r2,s4,r4,r7,p9,q2,s0,p5,q5,r3,s5,r5,r8,q0,q3,s1,p6,q6,r1,p7,r0,s3,p8,s2,r6,rfl,o8,p2,p3,o6,m3,p1,r,c7,c8,p0,o9,s6,l3,o3,l4,s7⟩:=Zo b3;have c0:=a5.out.wd;have b8:=H3 b3 c0 d0.out.tab i (by rw [d.out];exact j9) (by rw [d.out,q.out];omega);rw [d.out] at b8 c0;obtain⟨U,e1⟩:=zE (Z1 l H i);rw [e1] at b8;obtain⟨c5,c6,g2,m7,m2⟩:=Zh5 b8 e1 S c0 b3;clear b8 e1 S b3 c0 b1 Q b0
 go_wp2_with (first | (refine wpList_load_row rfl 34 (.tmp 2) rfl BL rfl _ _ _ _ g2.out Tryz.underlying34 rfl Tryz.lawInfo ?_) | fail)
 refine c5.out.mono ?_;rintro L n0 ⟨rfl,G⟩;have s:=a5.out.ext G I.out;have b6:=d3.out n0 s.t;cases U;case false=>
  have j0:=c9.out.miss (by rw [d.out,q.out];exact e5) c6.out;have m5:=Zh j0;have r:=Zh s;have f:=J7 s.n;rw [d.out] at f;have l7:=Zh f;clear j0 s b6 c5 G B f;go_wp2;refine⟨⟨a7,A,H,i+1,f7,f6,tz,rfl,m5.out,r.out⟩,?_⟩;rw [c4.out,l7.out];simp [intOf];omega
 have B:=cell_of_one s.n;rw [d.out] at B;have p:=s.wd;rw [d.out] at p;have k7:=Vb b6.law.2 p d.out (by have:=s.cap;rw [d.out] at this;exact this) i (by rw [q.out];exact e5) l9.out (by rw [J.out];omega) oz;have S:=b6.law.1;have l1:Z5 (Qv l H i):=by
  have F:=p.2;intro f5 k;unfold Qv Jl at k;rcases List.mem_append.1 k with k | k
  ·rcases List.mem_append.1 k with k | k
   ·exact F f5 (List.mem_of_mem_take k)
   ·exact Vk (fun x hx=>F x (List.mem_of_mem_drop (List.mem_of_mem_take hx))) m3.out.2 f5 k
  ·exact F f5 (List.mem_of_mem_drop k)
 obtain⟨g7,g3,r,i0⟩:=Zh4 k7 S s l1;obtain⟨j1,l5,k9⟩:=c9.out.hit c6.out;have g5:=Zh j1;have d2:=Zh k9;clear k7 S s b6 p l1 j1 k9 c5 G;go_upto_region 17 with (first | (refine wpList_load_row rfl 34 (.tmp 2) rfl BL rfl _ _ _ _ g3.out Tryz.underlying34 rfl Tryz.lawInfo ?_) | (go_at_call 21;refine g7.out.mono ?_;rintro L n1 ⟨s8,rfl,d7,C⟩;obtain⟨a2,a1,rfl⟩:=Z2 d7;have n4:=cell_of_one (C.keep r.out.n);have n5:=free_of_one (C.keep r.out.n)))
 obtain⟨a8,v,_,b5⟩:=(r.out).put2 m1.out d7 C i0.out (Nat.le_refl 2) I.out;have o1:=(r.out.lt _ r.out.on).2;obtain⟨n2,j3⟩:=zE (n1.setCell ⟨e+1,0,none⟩ (.slice a2 (Qv l H i).length a1));rw [j3] at v b5 ⊢;clear j3 d7 C B n4 n5 g7 g3 g2 r i0 m2 m7 a5 d0;obtain⟨z,b9⟩:=zE (Qv l H i);rw [b9] at v b5 g5 d2;have k4:=Xe (l:=l) (u:=H) (i:=i) (by rw [d.out,q.out];exact e5);rw [b9,d.out,q.out,J.out] at k4;rw [b9];obtain⟨o4,V⟩:=zE z.length;rw [V] at k4;have B:=cell_of_one v.n;rw [V] at B;have b0:=cell_of_one v.y;obtain⟨q7,s9,q1,q4,l2,j6⟩:=d5.out a8 A (i,z) l5 n2 #[.int .i64 (i:Int),.slice a2 o4 a1] d2.out v.j ⟨a2,a1,by rw [V],v.wd,v.cap,fun g o n c L h0'=>by obtain⟨l3,o3,l4⟩:=b5 g o n c L h0';exact⟨l3,by omega,l4⟩⟩;clear b5 o1;obtain⟨m4,m8,g8⟩:=Zh3 v j6 V;clear v j6 V b9 c6;rw [g8.out];refine(wpIn_wide (n:=0)).1 ?_;gi_wp2;refine m8.out.mono ?_;rintro L n3 (⟨rfl,i6,k1⟩ | ⟨rfl,i7,_⟩)
 ·have b4:=m4.out.yielded i6 k1;have d8:=d3.out n3 b4.t;have b1:=cell_of_one d8.bk;have Q:=cell_of_one d8.bm;rw [q.out] at b1;rw [J.out] at Q;have f:=J7 b4.n;rw [g8.out] at f;have c8:=Zh b4;have f8:=Zh f;clear b4 d8 f l2 B b0 i6 k1;have e8:=g5.out;rw [q.out,J.out] at e8;have g6:=Zh e8;clear e8;by_cases k0:Z=0
  ·subst k0;gi_wp2;go_wp2;refine⟨⟨a8,A++[(i,z)],z,i+f4+1,a2,a1,tz,rfl,g6.out,c8.out⟩,?_⟩;rw [c4.out,f8.out];simp [intOf];omega
  ·have q8:((Z:Int) == 0)=false:=by rw [beq_eq_false_iff_ne];omega
   have e9:=g6.out;rw [if_neg k0,Nat.add_zero] at e9;have m6:=Zh e9;clear e9;gi_wp2;go_wp2;refine⟨⟨a8,A++[(i,z)],z,i+f4,a2,a1,tz,rfl,m6.out,c8.out⟩,?_⟩;rw [c4.out,f8.out];simp [intOf];omega
 ·have m0:=Zh i7;clear i7 l2;gi_wp2;go_wp2;refine bodyPost_ret (results_none rfl _ _ _) rfl ?_;exact⟨⟨_,rfl⟩,a8,.inr ⟨A,(i,z),l5,d2.out,m0.out⟩⟩
end Go.Proofs.YtedeckeahmkheaaGreatDoor
