/- law.run: -/
import Derived.Test.YtfdlhlghcbeblaaGreatDoorY08
import Derived.Test.YtfdlhlghcbeblaaGreatDoorY10
set_option maxRecDepth 100000
set_option maxHeartbeats 16000000
namespace Go.Proofs.YtfdlhlghcbeblaaGreatDoor
open Go.RowKit Go.Ab
attribute [local go_sem] Oper.semAt_some Zf Qp
theorem Q34{w:World}{BW BL a7 a8:Nat}{l:Q7}{cs:List Value}{vo:Option Addr}{vc:Nat}{ws:Wd}{K:Nat->Prop}(l3:X8 l=true)(g0:l.mode=3)(p4:ws.length<=32)(f3:ws.length<=vc)(f7:Qr K (.slice vo ws.length vc))
  (k2:∀ b,K b->b<w.heap.size) (G:∀ W,Q1 (fun b=>¬ K b) w W->R7 W BW BL a7 a8 l cs vo vc ws) :
  Ut Tryz.prog 225 #[.pointer (some ⟨BW,0,none⟩),.pointer (some ⟨BL,0,none⟩),.pointer (some ⟨a7,0,none⟩),.pointer (some ⟨a8,0,none⟩)] (Yl 2) (Tg 2) (Z4 l ws) K w:=by
 intro a3 n9 r0 W g5 j8 o6 k7 j7;obtain⟨o9,l5,l2,_,l0,_,_,_⟩:=Gz l3;have b6:=G W g5;have l6:=b6.law.box.mode;rw [g0] at l6;obtain⟨T,g6⟩:=zE ws.length;have b4:=cell_of_one b6.box;rw [g6] at b4 p4 f3 f7;obtain⟨i4,N,d5,m9,c9,M,d7,i2⟩:=Zh8 f7 g6 G l0 g0 j8 k7 j7;have d6:=Zh g5;have a9:=Zh b6;obtain⟨B,f6⟩:=zE l.ifs.length;obtain⟨p5,f9⟩:=zE l.outs.length;rw [f6] at o9 l2;rw [f9] at l5 l2;have k:=Zh f6;have U:=Zh f9;clear G l0 g0 j8 o6 k7 j7 g5 b6 l3 g6 f7 f6 f9;show Calls _ _ #[.func (.yield a3) #[] #[],.pointer (some ⟨BW,0,none⟩),.pointer (some ⟨BL,0,none⟩),.pointer (some ⟨a7,0,none⟩),.pointer (some ⟨a8,0,none⟩)] _ _;go_enter Tryz.func225,Tryz.ntmps225;have e8:=a9.out.law.box.mode;rw [c9.out] at e8;go_upto_region 1 with (fail)
 obtain⟨S,r⟩:=zE (W.alloc (.cells #[.func (.yield a3) #[] #[]] 266));have J:Ext W S:=by rw [<-r];exact(Q1.refl _ W).alloc _
 have f2:S.heap[W.heap.size]?=some (.cells #[.func (.yield a3) #[] #[]] 266 (0,0)):=by rw [<-r];exact Q3 rfl
 have g4:S.heap.size=W.heap.size+1:=by rw [<-r];simp
 rw [r];obtain⟨e,c1⟩:=zE W.heap.size;rw [c1] at f2 g4 ⊢;have f5:=M.out;have g7:=d7.out;rw [c1] at f5 g7;have q3:=M;have M:=Zh f5;have d7:=Zh g7;clear f5 g7;have n1:Hid (∀ b,K b->b<e):=Zh fun b Z=>by have:=k2 b Z;have:=d6.out.size;omega
 have j4:=Zh c1;have b1:=Zh g4;clear k2;have b4:=J.cell_some b4 id;clear r c1 g4 l6;go_upto_region 2 with (fail)
 rw [b1.out];obtain⟨c6,a2⟩:=zE (S.alloc (.cells #[.slice vo T vc] 99));have F:Ext S c6:=by rw [<-a2];exact(Q1.refl _ S).alloc _
 have e9:Yz c6 (e+1) (.slice vo T vc):=by rw [<-a2];exact Q3 b1.out.symm
 have l8:c6.heap.size=e+2:=by rw [<-a2];simp [b1.out]
 have k8:=F.keep f2;rw [a2];have Q:=J.trans F;have p0:=Q.cell_some e8 id;have d3:=Zh l8;clear a2 b4 f2 J F e8 l8;have j9:=M.out _ (fun b=>b=e\/b=e+1) [] _ _ i2.out (Ext.of Q) (fun b Z=>by have:=j4.out;have:=d3.out;omega);have i3:=Zh j9;have k5:Q1 (fun b=>¬ K b) w c6:=d6.out.trans (Ext.of Q);clear j9;have I:=Q.cell_some (cell_of_one a9.out.bk) id;rw [k.out] at I;have p:=cell_of_one e9;go_wp2;clear I p;have p1:Xj l ws [] ws ((T:Int) - (B:Int)+1).toNat:=by
  have j6:=Xj.start (l:=l) (ws:=ws) (by rw [c9.out];decide) (by rw [c9.out];decide);rw [N.out,k.out] at j6;rw [show ((T:Int) - (B:Int)+1).toNat=T+1 - B by omega];exact j6
 obtain⟨j2,j5,d0⟩:=Zh3 k5 k8 e9;clear k5 k8 e9 p0
 refine wp_loop (fun a d8=>∃(b2:Nat->Prop) (E:List (Nat × Wd)) (u:Wd) (H:Int) (i1:Option Addr) (i0:Nat),a.defers=[]/\(a.tmps.size=117/\a.tmps.getD 0 undef=.func (.yield a3) #[] #[]/\a.tmps.getD 1 undef=.pointer (some ⟨BW,0,none⟩)/\a.tmps.getD 2 undef=.pointer (some ⟨BL,0,none⟩)/\a.tmps.getD 3 undef=.pointer (some ⟨a7,0,none⟩)/\a.tmps.getD 4 undef=.pointer (some ⟨a8,0,none⟩)/\a.tmps.getD 5 undef=.pointer (some ⟨e,0,none⟩)/\a.tmps.getD 6 undef=.pointer (some ⟨e+1,0,none⟩)/\a.tmps.getD 11 undef=.int .i64 H)/\-5<=H/\H<=300/\Xj l ws E u (H+1).toNat/\Yn w d8 K b2 n9 e a3 E u i1 i0)
  (fun a _=>(intOf (a.tmps.getD 11 undef)+1).toNat) ?_ ?_
 ·refine⟨(fun b=>b=e\/b=e+1),[],ws,(T:Int) - (B:Int),vo,vc,rfl,⟨rfl,rfl,rfl,rfl,rfl,rfl,rfl,rfl,rfl⟩,by omega,by omega,p1,⟨i3.out,.inl rfl,.inr rfl,fun b Z=>by have:=d3.out;omega,j2.out,j5.out,?_,?_,?_,?_⟩⟩
  ·rw [N.out];exact d0.out
  ·exact a9.out.word.ext Q
  ·rw [N.out];exact f3
  ·rw [N.out];exact fun g o n c O h0'=>.inl (i4.out g o n c O h0')
 clear i3 i2 j2 j5 d0 a9 Q d6 j4 b1 d3 f3 i4;rintro⟨t,_⟩ d8 ⟨b2,E,g9,H,i1,i0,o7,⟨m0,d9,e0,e2,e3,e4,e5,e6,e1⟩,s7,s8,A,R⟩;obtain⟨L,rfl⟩:∃ x,x=g9:=⟨_,rfl⟩;subst o7;obtain⟨g9,m1⟩:=Zd m0;obtain⟨u,rfl⟩:∃ x,x=g9:=⟨_,rfl⟩;have p2:t=#[u 0,u 1,u 2,u 3,u 4,u 5,u 6,u 7,u 8,u 9,u 10,u 11,u 12,u 13,u 14,u 15,u 16,u 17,u 18,u 19,u 20,u 21,u 22,u 23,u 24,u 25,u 26,u 27,u 28,u 29,u 30,u 31,u 32,u 33,u 34,u 35,u 36,u 37,u 38,u 39,u 40,u 41,u 42,u 43,u 44,u 45,u 46,u 47,u 48,u 49,u 50,u 51,u 52,u 53,u 54,u 55,u 56,u 57,u 58,u 59,u 60,u 61,u 62,u 63,u 64,u 65,u 66,u 67,u 68,u 69,u 70,u 71,u 72,u 73,u 74,u 75,u 76,u 77,u 78,u 79,u 80,u 81,u 82,u 83,u 84,u 85,u 86,u 87,u 88,u 89,u 90,u 91,u 92,u 93,u 94,u 95,u 96,u 97,u 98,u 99,u 100,u 101,u 102,u 103,u 104,u 105,u 106,u 107,u 108,u 109,u 110,u 111,u 112,u 113,u 114,u 115,u 116]:=m1;clear m1;subst p2;change u 0=_ at d9;change u 1=_ at e0;change u 2=_ at e2;change u 3=_ at e3;change u 4=_ at e4;change u 5=_ at e5;change u 6=_ at e6;change u 11=_ at e1;rw [d9,e0,e2,e3,e4,e5,e6,e1];clear d9 e0 e2 e3 e4 e5 e6 e1 m0;have G:=d5.out d8 R.t;obtain⟨p8,c4⟩:=zE L.length;have f:=Va R.n;have p:=cell_of_one R.n;have b5:=cell_of_one R.y;have I:=cell_of_one G.bk;have X:=cell_of_one G.bm;rw [k.out] at I;rw [U.out] at X;rw [c4] at p f;have o8:=few (t:=E.length) (n:=ws.length+1) (m:=p5) (by have:=A.2.1;omega) l5 (by rw [N.out];omega);have s6:p8<=230:=by
  have P:=A.2.2.1;rw [U.out,c4,N.out] at P;omega
 obtain⟨d,q1,V,b0,d2⟩:=Zh5 c4 f A R G;clear c4 f A R G o8;by_cases m4:0<=H;case neg=>
  have P:¬ (0:Int)<=H:=m4;have a0:=V.out;rw [show (H+1).toNat=0 by omega] at a0;have a0:=a0.done;have m8:=Zh a0;clear a0 X b5;go_wp2;go_end0
  exact⟨⟨_,rfl⟩,b2,.inl (by rw [m8.out];exact b0.out.j)⟩
 obtain⟨i,rfl⟩:=Int.eq_ofNat_of_zero_le m4;have A:=V.out;rw [show ((i:Int)+1).toNat=i+1 by omega] at A;have f8:=A.le;rw [d.out,k.out] at f8;have V:=Zh A;clear A;go_upto_region 24 with (fail)
 obtain⟨Y,b7⟩:=d2.out.law;obtain⟨t8,t1,u3,t3,t6,r5,r8,t9,r1,s1,t2,u4,t4,t7,r6,r9,u0,r2,s2,t0,r3,s9,u2,r4,u1,t5,rfl,q4,q8,q9,q2,n3,q7,s,d0,d1,q6,q5,u5,m5,p6,m6,u6⟩:=Yr b7;have c5:=b0.out.wd;have c2:=Bt b7 c5 d2.out.tab i (by rw [d.out];omega) (by rw [d.out,k.out];omega);rw [d.out] at c2 c5;obtain⟨Z,f4⟩:=zE (Zx l L i);rw [f4] at c2;obtain⟨c7,c8,i5,n7,n2⟩:=Zh5 c2 f4 Y c5 b7;clear c2 f4 Y b7 c5 I X b5
 go_wp2_with (first | (refine wpList_load_row rfl 102 (.tmp 2) rfl BL rfl _ _ _ _ i5.out Tryz.underlying102 rfl Tryz.lawInfo ?_) | fail)
 refine c7.out.mono ?_;rintro O o0 ⟨rfl,J⟩;have v:=b0.out.ext J M.out;have c0:=d5.out o0 v.t;cases Z;case false=>
  have k3:=V.out.miss c8.out;have n5:=Zh k3;have s:=Zh v;have f:=Va v.n;rw [d.out] at f;have p9:=Zh f;clear k3 v c0 c7 J p f;go_wp2;refine⟨⟨b2,E,L,(i:Int) - 1,i1,i0,tz,⟨rfl,rfl,rfl,rfl,rfl,rfl,rfl,rfl,rfl⟩,by omega,by omega,by rw [show ((i:Int) - 1+1).toNat=i by omega];exact n5.out,s.out⟩,?_⟩;simp [intOf]
 have p:=cell_of_one v.n;rw [d.out] at p;have r:=v.wd;rw [d.out] at r;have l7:=Lk c0.law.2 r d.out (by have:=v.cap;rw [d.out] at this;exact this) i (by rw [k.out];exact f8) m9.out (by rw [U.out];omega) oz;have Y:=c0.law.1;have m2:Zt (Yh l L i):=by
  have P:=r.2;intro g8 q;unfold Yh Gm at q;rcases List.mem_append.1 q with q | q
  ·rcases List.mem_append.1 q with q | q
   ·exact P g8 (List.mem_of_mem_take q)
   ·exact L8 (fun x hx=>P x (List.mem_of_mem_drop (List.mem_of_mem_take hx))) n3.out.2 g8 q
  ·exact P g8 (List.mem_of_mem_drop q)
 obtain⟨j0,i6,s,j3⟩:=Zh4 l7 Y v m2;obtain⟨k4,m7,l9⟩:=V.out.hit c8.out;have i8:=Zh k4;have d4:=Zh l9;clear l7 Y v c0 r m2 k4 l9 c7 J;go_upto_region 27 with (first | (refine wpList_load_row rfl 102 (.tmp 2) rfl BL rfl _ _ _ _ i6.out Tryz.underlying102 rfl Tryz.lawInfo ?_) | (go_at_call 230;refine j0.out.mono ?_;rintro O o1 ⟨u7,rfl,f0,F⟩;obtain⟨a6,a5,rfl⟩:=Zj f0;have o4:=cell_of_one (F.keep s.out.n);have o5:=free_of_one (F.keep s.out.n)))
 obtain⟨b3,z,_,b9⟩:=(s.out).put2 n1.out f0 F j3.out (Nat.le_refl 2) M.out;have p3:=(s.out.lt _ s.out.on).2;obtain⟨o2,k6⟩:=zE (o1.setCell ⟨e+1,0,none⟩ (.slice a6 (Yh l L i).length a5));rw [k6] at z b9 ⊢;clear k6 f0 F p o4 o5 j0 i6 i5 s j3 n2 n7 b0 d2;obtain⟨C,c3⟩:=zE (Yh l L i);rw [c3] at z b9 i8 d4;have l4:=Vw (l:=l) (u:=L) (i:=i) (by rw [d.out,k.out];exact f8);rw [c3,d.out,k.out,U.out] at l4;rw [c3];obtain⟨p7,a1⟩:=zE C.length;rw [a1] at l4;have p:=cell_of_one z.n;rw [a1] at p;have b5:=cell_of_one z.y;obtain⟨s3,u8,r7,s0,m3,k9⟩:=d7.out b3 E (i,C) m7 o2 #[.int .i64 (i:Int),.slice a6 p7 a5] d4.out z.j ⟨a6,a5,by rw [a1],z.wd,z.cap,fun g o n c O h0'=>by obtain⟨m5,p6,m6⟩:=b9 g o n c O h0';exact⟨m5,by omega,m6⟩⟩;clear b9 p3;obtain⟨n4,n8,j1⟩:=Zh3 z k9 a1;clear z k9 a1 c3 c8;rw [j1.out];refine(wpIn_wide (n:=0)).1 ?_;gi_wp2;refine n8.out.mono ?_;rintro O o3 (⟨rfl,k0,l1⟩ | ⟨rfl,k1,_⟩)
 ·have b8:=n4.out.yielded k0 l1;have f1:=d5.out o3 b8.t;have I:=cell_of_one f1.bk;have X:=cell_of_one f1.bm;rw [k.out] at I;rw [U.out] at X;have f:=Va b8.n;rw [j1.out] at f;have d1:=Zh b8;have q0:=Zh f;clear b8 f1 f m3 p b5 k0 l1;have g2:=i8.out;rw [k.out] at g2;have n6:=Zh g2;clear g2;obtain⟨a4,g1⟩:=zE (max B 1);have g3:=n6.out;rw [g1] at g3;have s4:max (B:Int) 1=(a4:Int):=by omega
  have s5:a4<=4/\1<=a4:=by omega
  have i9:=Zh g3;have i7:=Zh g1;clear g3 g1;gi_wp2;go_wp2
  ·refine⟨⟨by omega,by omega,b3,E++[(i,C)],C,?_,a6,a5,d1.out⟩,nz⟩;have e7:=i9.out
   rwa [show a4=1 by have:=i7.out;omega,show i+1 - 1=i by omega] at e7
  ·refine⟨⟨by omega,by omega,b3,E++[(i,C)],C,?_,a6,a5,d1.out⟩,nz⟩;have e7:=i9.out;rw [show a4=B by have:=i7.out;omega] at e7
   rwa [show ((i:Int) - (B:Int)+1).toNat=i+1 - B by omega]
 ·have n0:=Zh k1;clear k1 m3;gi_wp2;go_wp2;refine bodyPost_ret (results_none rfl _ _ _) rfl ?_;exact⟨⟨_,rfl⟩,b3,.inr ⟨E,(i,C),m7,d4.out,n0.out⟩⟩
def Q8h(k:Nat)(x:Yq):Yq:=⟨if 0<=x.frm then(k:Int) - 1 - x.frm else x.frm,x.cl,x.st,x.tk,if x.tk=0 then x.ofi else(k:Int) - 1 - x.ofi⟩
def Q9t(l:Q7):Q7:=⟨l.name,Q4n l.right,Q4n l.left,l.ifs.reverse,(l.outs.map (Q8h l.ifs.length)).reverse,if l.mode=2 then 3 else 2⟩
def Q97(l:List UInt8)(i:Nat):Bool:=(l.take i).all Rs
end Go.Proofs.YtfdlhlghcbeblaaGreatDoor
