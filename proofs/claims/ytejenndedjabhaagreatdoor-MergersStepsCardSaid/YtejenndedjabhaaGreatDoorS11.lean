/- ablautref08.fits. -/
import Derived.Test.YtejenndedjabhaaGreatDoorS08
set_option maxRecDepth 100000
set_option maxHeartbeats 16000000
namespace Go.Proofs.YtejenndedjabhaaGreatDoor
open Go.RowKit Go.Ab
attribute [local go_sem] Oper.semAt_some Zm Qv
theorem Qca{a:Nat}(c:a<4294967296):Y3 a 16777215=0↔a<16777216:=by
 have:=El (a:=a) (b:=a) c c;rw [Nat.or_self] at this;rw [this];exact⟨fun h=>h.1,fun h=>⟨h,h⟩⟩
theorem Qd0{k:Nat}{x:X1}(l:Xx x):Yp k x=if x.frm < -1\/(k:Int)<=x.frm then false else if okS x.st=false then false else if Y3 x.cl 16777215≠0 then false else if Y3 x.tk 16777215≠0 then false else if x.cl &&& (x.st.1 ||| x.st.2)≠0 then false else
  if x.tk &&& (x.st.1 ||| x.st.2)≠0 then false else if x.tk &&& x.cl≠0 then false else if x.tk=0 then decide (x.ofi=0) else(decide (0<=x.ofi) && decide (x.ofi<k)):=by
 have i:=Qca l.1;have j:=Qca l.2.2;unfold Yp;by_cases a:x.frm < -1\/(k:Int)<=x.frm
 ·rw [if_pos a];rcases a with a | a
  ·rw [show decide (-1<=x.frm)=false by rw [decide_eq_false_iff_not];omega];simp
  ·rw [show decide (x.frm<(k:Int))=false by rw [decide_eq_false_iff_not];omega];simp
 rw [if_neg a,show decide (-1<=x.frm)=true by rw [decide_eq_true_iff];omega,show decide (x.frm<(k:Int))=true by rw [decide_eq_true_iff];omega];by_cases b:okS x.st=false
 ·rw [if_pos b,b];simp
 rw [if_neg b,show okS x.st=true by simpa using b];by_cases c:Y3 x.cl 16777215=0;case neg=>rw [if_pos c,decide_eq_false (fun q=>c (i.2 q))];simp
 rw [if_neg (show ¬ (Y3 x.cl 16777215≠0) from fun q=>q c),decide_eq_true (i.1 c)];by_cases d:Y3 x.tk 16777215=0;case neg=>rw [if_pos d,decide_eq_false (fun q=>d (j.2 q))];simp
 rw [if_neg (show ¬ (Y3 x.tk 16777215≠0) from fun q=>q d),decide_eq_true (j.1 d)];by_cases e:x.cl &&& (x.st.1 ||| x.st.2)=0;case neg=>rw [if_pos e,decide_eq_false e];simp
 rw [if_neg (show ¬ (x.cl &&& (x.st.1 ||| x.st.2)≠0) from fun q=>q e),decide_eq_true e];by_cases f:x.tk &&& (x.st.1 ||| x.st.2)=0;case neg=>rw [if_pos f,decide_eq_false f];simp
 rw [if_neg (show ¬ (x.tk &&& (x.st.1 ||| x.st.2)≠0) from fun q=>q f),decide_eq_true f];by_cases g:x.tk &&& x.cl=0;case neg=>rw [if_pos g,decide_eq_false g];simp
 rw [if_neg (show ¬ (x.tk &&& x.cl≠0) from fun q=>q g),decide_eq_true g];simp only [Bool.and_self,Bool.true_and]
theorem Q8j{x:X1}(a1:Xx x)(k:Nat)(_hk:k<=9223372036854775807)(w:World) :
  Calls Tryz.prog 158 #[.agg (Zx x).toArray,.int .i64 (k:Int)] w fun e w'=>e=.returned (.bool (Yp k x))/\Ext w w':=by
 have c:=Zh (Qd0 (k:=k) a1);obtain⟨m,cl,⟨i,l⟩,tk,ofi⟩:=x;obtain⟨r,⟨u,v⟩,z⟩:=a1;dsimp only at r u v z c;have N:=fun(D:World)=>Vo (s:=(i,l)) ⟨u,v⟩ D;have a6:=u32_or_nat i l u v;have L:i ||| l<4294967296:=Nat.or_lt_two_pow (n:=32) u v;obtain⟨s,a0⟩:=zE (i ||| l);rw [a0] at a6 L c;have a7:bits .andNot .u32 (cl:Int) 16777215=((Y3 cl 16777215:Nat):Int):=Ht cl 16777215 r oz;obtain⟨e,V⟩:=zE (Y3 cl 16777215);rw [V] at a7 c;have b1:bits .andNot .u32 (tk:Int) 16777215=((Y3 tk 16777215:Nat):Int):=Ht tk 16777215 z oz;obtain⟨C,W⟩:=zE (Y3 tk 16777215);rw [W] at b1 c;have a8:=u32_and_nat cl s r L;obtain⟨E,X⟩:=zE (cl &&& s);rw [X] at a8 c;have a9:=u32_and_nat tk s z L;obtain⟨F,Y⟩:=zE (tk &&& s);rw [Y] at a9 c;have b0:=u32_and_nat tk cl z r;obtain⟨G,Z⟩:=zE (tk &&& cl);rw [Z] at b0 c;obtain⟨P,U⟩:=zE (okS (i,l));rw [U] at N c;have a3:=Zh N;obtain⟨b,T⟩:=zE (Yp k { frm:=m,cl:=cl,st:=(i,l),tk:=tk,ofi:=ofi });rw [T] at c ⊢;clear a0 V W X Y Z U N T;unfold Zx;dsimp only;go_enter Tryz.func158,Tryz.ntmps158;go_upto_region 1 with (fail)
 obtain⟨a2,A⟩:=zE (w.alloc (.cells #[.int .i64 m,.int .u32 (cl:Int),.int .u32 (i:Int),.int .u32 (l:Int),.int .u32 (tk:Int),.int .i64 ofi] 131));have H:Ext w a2:=by rw [<-A];exact(Q0.refl _ w).alloc _
 have q:a2.heap[w.heap.size]?=some (.cells #[.int .i64 m,.int .u32 (cl:Int),.int .u32 (i:Int),.int .u32 (l:Int),.int .u32 (tk:Int),.int .i64 ofi] 131 (0,0)):=by rw [<-A];exact Q3 rfl
 (try rw [A])
 obtain⟨b2,S⟩:=zE w.heap.size;rw [S] at q ⊢;have a4:=zR q;have O:=Zh q;clear A S q;by_cases Q:m < -1
 ·have a:Hid (b=false):=Zh (by rw [c.out,if_pos (.inl Q)]);clear c;go_wp2;go_ret;exact⟨by rw [a.out];rfl,H⟩
 by_cases R:(k:Int)<=m
 ·have a:Hid (b=false):=Zh (by rw [c.out,if_pos (.inr R)]);clear c;go_wp2;go_ret;exact⟨by rw [a.out];rfl,H⟩
 have d:Hid (b=if P=false then false else if e≠0 then false else if C≠0 then false else if E≠0 then false else if F≠0 then false else if G≠0 then false else if tk=0 then decide (ofi=0) else(decide (0<=ofi) && decide (ofi<k))):=Zh (by rw [c.out,if_neg (fun o=>o.elim Q R)]);clear c;go_wp2_with fail;refine(a3.out _).mono ?_;rintro b4 b7 ⟨rfl,I⟩;have g:=H.trans I;have b3:=zR (I.keep O.out);clear a4 I O;cases P
 ·have a:Hid (b=false):=Zh (by rw [d.out];rfl);clear d;go_wp2;go_ret;exact⟨by rw [a.out];rfl,g⟩
 by_cases f:e=0;case neg=>
  have t:((e:Int) != 0)=true:=by rw [bne_iff_ne];omega
  have a:Hid (b=false):=Zh (by rw [d.out,if_neg zd,if_pos f]);clear d;go_wp2;go_ret;exact⟨by rw [a.out];rfl,g⟩
 subst f;by_cases f:C=0;case neg=>
  have t:((C:Int) != 0)=true:=by rw [bne_iff_ne];omega
  have a:Hid (b=false):=Zh (by rw [d.out,if_neg zd,if_neg zd,if_pos f]);clear d;go_wp2;go_ret;exact⟨by rw [a.out];rfl,g⟩
 subst f;by_cases f:E=0;case neg=>
  have t:((E:Int) != 0)=true:=by rw [bne_iff_ne];omega
  have a:Hid (b=false):=Zh (by rw [d.out,if_neg zd,if_neg zd,if_neg zd,if_pos f]);clear d;go_wp2;go_ret;exact⟨by rw [a.out];rfl,g⟩
 subst f;by_cases f:F=0;case neg=>
  have t:((F:Int) != 0)=true:=by rw [bne_iff_ne];omega
  have a:Hid (b=false):=Zh (by rw [d.out,if_neg zd,if_neg zd,if_neg zd,if_neg zd,if_pos f]);clear d;go_wp2;go_ret;exact⟨by rw [a.out];rfl,g⟩
 subst f;by_cases f:G=0;case neg=>
  have t:((G:Int) != 0)=true:=by rw [bne_iff_ne];omega
  have a:Hid (b=false):=Zh (by rw [d.out,if_neg zd,if_neg zd,if_neg zd,if_neg zd,if_neg zd,if_pos f]);clear d;go_wp2;go_ret;exact⟨by rw [a.out];rfl,g⟩
 subst f;have p:Hid (b=if tk=0 then decide (ofi=0) else(decide (0<=ofi) && decide (ofi<k))):=Zh (by rw [d.out];rfl);clear d;by_cases M:tk=0
 ·have a5:((tk:Int) == 0)=true:=by rw [beq_iff_eq];omega
  have a:Hid (b=decide (ofi=0)):=Zh (by rw [p.out,if_pos M]);obtain⟨o,J⟩:=zE (decide (ofi=0));have b6:(ofi == 0)=o:=by rw [<-J];rfl
  rw [J] at a;clear p J M;go_wp2;go_ret;exact⟨by rw [a.out];rfl,g⟩
 ·have a5:((tk:Int) == 0)=false:=by rw [beq_eq_false_iff_ne];omega
  have a:Hid (b=(decide (0<=ofi) && decide (ofi<k))):=Zh (by rw [p.out,if_neg M]);clear p;by_cases K:0<=ofi
  ·have B:Hid (b=decide (ofi<k)):=Zh (by rw [a.out,decide_eq_true K];rfl);go_wp2;go_ret;exact⟨by rw [B.out];rfl,g⟩
  ·have b5:¬ (0:Int)<=ofi:=K;have B:Hid (b=false):=Zh (by rw [a.out,decide_eq_false K];rfl);go_wp2;go_ret;exact⟨by rw [B.out];rfl,g⟩
theorem Qav{w:World}{BW BL a7 a8:Nat}{l:Q7}{cs:List Value}{vo:Option Addr}{vc:Nat}{ws:Wd}{K:Nat->Prop}(l3:Zv l=true)(g0:l.mode=3)(p4:ws.length<=32)(f3:ws.length<=vc)(f7:Zj K (.slice vo ws.length vc))
  (k2:∀ b,K b->b<w.heap.size) (G:∀ W,Q0 (fun b=>¬ K b) w W->Q09 W BW BL a7 a8 l cs vo vc ws) :
  Wg Tryz.prog 209 #[.pointer (some ⟨BW,0,none⟩),.pointer (some ⟨BL,0,none⟩),.pointer (some ⟨a7,0,none⟩),.pointer (some ⟨a8,0,none⟩)] (Xm 2) (Q1i 2) (Qq l ws) K w:=by
 intro a3 n9 r0 W g5 j8 o6 k7 j7;obtain⟨o9,l5,l2,_,l0,_,_,_⟩:=Um l3;have b6:=G W g5;have l6:=b6.law.box.mode;rw [g0] at l6;obtain⟨T,g6⟩:=zE ws.length;have b4:=cell_of_one b6.box;rw [g6] at b4 p4 f3 f7;obtain⟨i4,N,d5,m9,c9,M,d7,i2⟩:=Zh8 f7 g6 G l0 g0 j8 k7 j7;have d6:=Zh g5;have a9:=Zh b6;obtain⟨B,f6⟩:=zE l.ifs.length;obtain⟨p5,f9⟩:=zE l.outs.length;rw [f6] at o9 l2;rw [f9] at l5 l2;have k:=Zh f6;have U:=Zh f9;clear G l0 g0 j8 o6 k7 j7 g5 b6 l3 g6 f7 f6 f9;show Calls _ _ #[.func (.yield a3) #[] #[],.pointer (some ⟨BW,0,none⟩),.pointer (some ⟨BL,0,none⟩),.pointer (some ⟨a7,0,none⟩),.pointer (some ⟨a8,0,none⟩)] _ _;go_enter Tryz.func209,Tryz.ntmps209;have e8:=a9.out.law.box.mode;rw [c9.out] at e8;go_upto_region 1 with (fail)
 obtain⟨S,r⟩:=zE (W.alloc (.cells #[.func (.yield a3) #[] #[]] 211));have J:Ext W S:=by rw [<-r];exact(Q0.refl _ W).alloc _
 have f2:S.heap[W.heap.size]?=some (.cells #[.func (.yield a3) #[] #[]] 211 (0,0)):=by rw [<-r];exact Q3 rfl
 have g4:S.heap.size=W.heap.size+1:=by rw [<-r];simp
 rw [r];obtain⟨e,c1⟩:=zE W.heap.size;rw [c1] at f2 g4 ⊢;have f5:=M.out;have g7:=d7.out;rw [c1] at f5 g7;have q3:=M;have M:=Zh f5;have d7:=Zh g7;clear f5 g7;have n1:Hid (∀ b,K b->b<e):=Zh fun b Z=>by have:=k2 b Z;have:=d6.out.size;omega
 have j4:=Zh c1;have b1:=Zh g4;clear k2;have b4:=J.cell_some b4 id;clear r c1 g4 l6;go_upto_region 2 with (fail)
 rw [b1.out];obtain⟨c6,a2⟩:=zE (S.alloc (.cells #[.slice vo T vc] 23));have F:Ext S c6:=by rw [<-a2];exact(Q0.refl _ S).alloc _
 have e9:Jg c6 (e+1) (.slice vo T vc):=by rw [<-a2];exact Q3 b1.out.symm
 have l8:c6.heap.size=e+2:=by rw [<-a2];simp [b1.out]
 have k8:=F.keep f2;rw [a2];have Q:=J.trans F;have p0:=Q.cell_some e8 id;have d3:=Zh l8;clear a2 b4 f2 J F e8 l8;have j9:=M.out _ (fun b=>b=e\/b=e+1) [] _ _ i2.out (Ext.of Q) (fun b Z=>by have:=j4.out;have:=d3.out;omega);have i3:=Zh j9;have k5:Q0 (fun b=>¬ K b) w c6:=d6.out.trans (Ext.of Q);clear j9;have I:=Q.cell_some (cell_of_one a9.out.bk) id;rw [k.out] at I;have p:=cell_of_one e9;go_wp2;clear I p;have p1:Xy l ws [] ws ((T:Int) - (B:Int)+1).toNat:=by
  have j6:=Xy.start (l:=l) (ws:=ws) (by rw [c9.out];decide) (by rw [c9.out];decide);rw [N.out,k.out] at j6;rw [show ((T:Int) - (B:Int)+1).toNat=T+1 - B by omega];exact j6
 obtain⟨j2,j5,d0⟩:=Zh3 k5 k8 e9;clear k5 k8 e9 p0
 refine wp_loop (fun a d8=>∃(b2:Nat->Prop) (E:List (Nat × Wd)) (u:Wd) (H:Int) (i1:Option Addr) (i0:Nat),a.defers=[]/\(a.tmps.size=117/\a.tmps.getD 0 undef=.func (.yield a3) #[] #[]/\a.tmps.getD 1 undef=.pointer (some ⟨BW,0,none⟩)/\a.tmps.getD 2 undef=.pointer (some ⟨BL,0,none⟩)/\a.tmps.getD 3 undef=.pointer (some ⟨a7,0,none⟩)/\a.tmps.getD 4 undef=.pointer (some ⟨a8,0,none⟩)/\a.tmps.getD 5 undef=.pointer (some ⟨e,0,none⟩)/\a.tmps.getD 6 undef=.pointer (some ⟨e+1,0,none⟩)/\a.tmps.getD 11 undef=.int .i64 H)/\-5<=H/\H<=300/\Xy l ws E u (H+1).toNat/\Xz w d8 K b2 n9 e a3 E u i1 i0)
  (fun a _=>(intOf (a.tmps.getD 11 undef)+1).toNat) ?_ ?_
 ·refine⟨(fun b=>b=e\/b=e+1),[],ws,(T:Int) - (B:Int),vo,vc,rfl,⟨rfl,rfl,rfl,rfl,rfl,rfl,rfl,rfl,rfl⟩,by omega,by omega,p1,⟨i3.out,.inl rfl,.inr rfl,fun b Z=>by have:=d3.out;omega,j2.out,j5.out,?_,?_,?_,?_⟩⟩
  ·rw [N.out];exact d0.out
  ·exact a9.out.word.ext Q
  ·rw [N.out];exact f3
  ·rw [N.out];exact fun g o n c O h0'=>.inl (i4.out g o n c O h0')
 clear i3 i2 j2 j5 d0 a9 Q d6 j4 b1 d3 f3 i4;rintro⟨t,_⟩ d8 ⟨b2,E,g9,H,i1,i0,o7,⟨m0,d9,e0,e2,e3,e4,e5,e6,e1⟩,s7,s8,A,R⟩;obtain⟨L,rfl⟩:∃ x,x=g9:=⟨_,rfl⟩;subst o7;obtain⟨g9,m1⟩:=Z5 m0;obtain⟨u,rfl⟩:∃ x,x=g9:=⟨_,rfl⟩;have p2:t=#[u 0,u 1,u 2,u 3,u 4,u 5,u 6,u 7,u 8,u 9,u 10,u 11,u 12,u 13,u 14,u 15,u 16,u 17,u 18,u 19,u 20,u 21,u 22,u 23,u 24,u 25,u 26,u 27,u 28,u 29,u 30,u 31,u 32,u 33,u 34,u 35,u 36,u 37,u 38,u 39,u 40,u 41,u 42,u 43,u 44,u 45,u 46,u 47,u 48,u 49,u 50,u 51,u 52,u 53,u 54,u 55,u 56,u 57,u 58,u 59,u 60,u 61,u 62,u 63,u 64,u 65,u 66,u 67,u 68,u 69,u 70,u 71,u 72,u 73,u 74,u 75,u 76,u 77,u 78,u 79,u 80,u 81,u 82,u 83,u 84,u 85,u 86,u 87,u 88,u 89,u 90,u 91,u 92,u 93,u 94,u 95,u 96,u 97,u 98,u 99,u 100,u 101,u 102,u 103,u 104,u 105,u 106,u 107,u 108,u 109,u 110,u 111,u 112,u 113,u 114,u 115,u 116]:=m1;clear m1;subst p2;change u 0=_ at d9;change u 1=_ at e0;change u 2=_ at e2;change u 3=_ at e3;change u 4=_ at e4;change u 5=_ at e5;change u 6=_ at e6;change u 11=_ at e1;rw [d9,e0,e2,e3,e4,e5,e6,e1];clear d9 e0 e2 e3 e4 e5 e6 e1 m0;have G:=d5.out d8 R.t;obtain⟨p8,c4⟩:=zE L.length;have f:=Gz R.n;have p:=cell_of_one R.n;have b5:=cell_of_one R.y;have I:=cell_of_one G.bk;have X:=cell_of_one G.bm;rw [k.out] at I;rw [U.out] at X;rw [c4] at p f;have o8:=few (t:=E.length) (n:=ws.length+1) (m:=p5) (by have:=A.2.1;omega) l5 (by rw [N.out];omega);have s6:p8<=230:=by
  have P:=A.2.2.1;rw [U.out,c4,N.out] at P;omega
 obtain⟨d,q1,V,b0,d2⟩:=Zh5 c4 f A R G;clear c4 f A R G o8;by_cases m4:0<=H;case neg=>
  have P:¬ (0:Int)<=H:=m4;have a0:=V.out;rw [show (H+1).toNat=0 by omega] at a0;have a0:=a0.done;have m8:=Zh a0;clear a0 X b5;go_wp2;go_end0
  exact⟨⟨_,rfl⟩,b2,.inl (by rw [m8.out];exact b0.out.j)⟩
 obtain⟨i,rfl⟩:=Int.eq_ofNat_of_zero_le m4;have A:=V.out;rw [show ((i:Int)+1).toNat=i+1 by omega] at A;have f8:=A.le;rw [d.out,k.out] at f8;have V:=Zh A;clear A;go_upto_region 24 with (fail)
 obtain⟨Y,b7⟩:=d2.out.law;obtain⟨t8,t1,u3,t3,t6,r5,r8,t9,r1,s1,t2,u4,t4,t7,r6,r9,u0,r2,s2,t0,r3,s9,u2,r4,u1,t5,rfl,q4,q8,q9,q2,n3,q7,s,d0,d1,q6,q5,u5,m5,p6,m6,u6⟩:=Zu b7;have c5:=b0.out.wd;have c2:=Q4v b7 c5 d2.out.tab i (by rw [d.out];omega) (by rw [d.out,k.out];omega);rw [d.out] at c2 c5;obtain⟨Z,f4⟩:=zE (Y1 l L i);rw [f4] at c2;obtain⟨c7,c8,i5,n7,n2⟩:=Zh5 c2 f4 Y c5 b7;clear c2 f4 Y b7 c5 I X b5
 go_wp2_with (first | (refine wpList_load_row rfl 50 (.tmp 2) rfl BL rfl _ _ _ _ i5.out Tryz.underlying50 rfl Tryz.lawInfo ?_) | fail)
 refine c7.out.mono ?_;rintro O o0 ⟨rfl,J⟩;have v:=b0.out.ext J M.out;have c0:=d5.out o0 v.t;cases Z;case false=>
  have k3:=V.out.miss c8.out;have n5:=Zh k3;have s:=Zh v;have f:=Gz v.n;rw [d.out] at f;have p9:=Zh f;clear k3 v c0 c7 J p f;go_wp2;refine⟨⟨b2,E,L,(i:Int) - 1,i1,i0,tz,⟨rfl,rfl,rfl,rfl,rfl,rfl,rfl,rfl,rfl⟩,by omega,by omega,by rw [show ((i:Int) - 1+1).toNat=i by omega];exact n5.out,s.out⟩,?_⟩;simp [intOf]
 have p:=cell_of_one v.n;rw [d.out] at p;have r:=v.wd;rw [d.out] at r;have l7:=Rg c0.law.2 r d.out (by have:=v.cap;rw [d.out] at this;exact this) i (by rw [k.out];exact f8) m9.out (by rw [U.out];omega) oz;have Y:=c0.law.1;have m2:Zn (Ya l L i):=by
  have P:=r.2;intro g8 q;unfold Ya Ke at q;rcases List.mem_append.1 q with q | q
  ·rcases List.mem_append.1 q with q | q
   ·exact P g8 (List.mem_of_mem_take q)
   ·exact W0 (fun x hx=>P x (List.mem_of_mem_drop (List.mem_of_mem_take hx))) n3.out.2 g8 q
  ·exact P g8 (List.mem_of_mem_drop q)
 obtain⟨j0,i6,s,j3⟩:=Zh4 l7 Y v m2;obtain⟨k4,m7,l9⟩:=V.out.hit c8.out;have i8:=Zh k4;have d4:=Zh l9;clear l7 Y v c0 r m2 k4 l9 c7 J;go_upto_region 27 with (first | (refine wpList_load_row rfl 50 (.tmp 2) rfl BL rfl _ _ _ _ i6.out Tryz.underlying50 rfl Tryz.lawInfo ?_) | (go_at_call 213;refine j0.out.mono ?_;rintro O o1 ⟨u7,rfl,f0,F⟩;obtain⟨a6,a5,rfl⟩:=Qu f0;have o4:=cell_of_one (F.keep s.out.n);have o5:=free_of_one (F.keep s.out.n)))
 obtain⟨b3,z,_,b9⟩:=(s.out).put2 n1.out f0 F j3.out (Nat.le_refl 2) M.out;have p3:=(s.out.lt _ s.out.on).2;obtain⟨o2,k6⟩:=zE (o1.setCell ⟨e+1,0,none⟩ (.slice a6 (Ya l L i).length a5));rw [k6] at z b9 ⊢;clear k6 f0 F p o4 o5 j0 i6 i5 s j3 n2 n7 b0 d2;obtain⟨C,c3⟩:=zE (Ya l L i);rw [c3] at z b9 i8 d4;have l4:=V7 (l:=l) (u:=L) (i:=i) (by rw [d.out,k.out];exact f8);rw [c3,d.out,k.out,U.out] at l4;rw [c3];obtain⟨p7,a1⟩:=zE C.length;rw [a1] at l4;have p:=cell_of_one z.n;rw [a1] at p;have b5:=cell_of_one z.y;obtain⟨s3,u8,r7,s0,m3,k9⟩:=d7.out b3 E (i,C) m7 o2 #[.int .i64 (i:Int),.slice a6 p7 a5] d4.out z.j ⟨a6,a5,by rw [a1],z.wd,z.cap,fun g o n c O h0'=>by obtain⟨m5,p6,m6⟩:=b9 g o n c O h0';exact⟨m5,by omega,m6⟩⟩;clear b9 p3;obtain⟨n4,n8,j1⟩:=Zh3 z k9 a1;clear z k9 a1 c3 c8;rw [j1.out];refine(wpIn_wide (n:=0)).1 ?_;gi_wp2;refine n8.out.mono ?_;rintro O o3 (⟨rfl,k0,l1⟩ | ⟨rfl,k1,_⟩)
 ·have b8:=n4.out.yielded k0 l1;have f1:=d5.out o3 b8.t;have I:=cell_of_one f1.bk;have X:=cell_of_one f1.bm;rw [k.out] at I;rw [U.out] at X;have f:=Gz b8.n;rw [j1.out] at f;have d1:=Zh b8;have q0:=Zh f;clear b8 f1 f m3 p b5 k0 l1;have g2:=i8.out;rw [k.out] at g2;have n6:=Zh g2;clear g2;obtain⟨a4,g1⟩:=zE (max B 1);have g3:=n6.out;rw [g1] at g3;have s4:max (B:Int) 1=(a4:Int):=by omega
  have s5:a4<=4/\1<=a4:=by omega
  have i9:=Zh g3;have i7:=Zh g1;clear g3 g1;gi_wp2;go_wp2
  ·refine⟨⟨by omega,by omega,b3,E++[(i,C)],C,?_,a6,a5,d1.out⟩,nz⟩;have e7:=i9.out
   rwa [show a4=1 by have:=i7.out;omega,show i+1 - 1=i by omega] at e7
  ·refine⟨⟨by omega,by omega,b3,E++[(i,C)],C,?_,a6,a5,d1.out⟩,nz⟩;have e7:=i9.out;rw [show a4=B by have:=i7.out;omega] at e7
   rwa [show ((i:Int) - (B:Int)+1).toNat=i+1 - B by omega]
 ·have n0:=Zh k1;clear k1 m3;gi_wp2;go_wp2;refine bodyPost_ret (results_none rfl _ _ _) rfl ?_;exact⟨⟨_,rfl⟩,b3,.inr ⟨E,(i,C),m7,d4.out,n0.out⟩⟩
def Dx(l:List UInt8)(i:Nat):Bool:=(l.take i).all Va
theorem Qax(c:UInt8)(b:Bool)(h:((decide (97<=c.toNat) && decide (c.toNat<=122)) || (decide (65<=c.toNat) && decide (c.toNat<=90)) || (decide (48<=c.toNat) && decide (c.toNat<=57)) || decide (c.toNat=45))=b):Va c=b:=h
theorem Q9n(l:List UInt8)(a5:l.length<=9223372036854775807)(w:World) :
  Calls Tryz.prog 156 #[.string ⟨l.toArray⟩] w fun e w'=>e=.returned (.bool (Uo ⟨l.toArray⟩))/\w=w':=by
 have v:Hid (Uo ⟨l.toArray⟩=(decide (1<=l.length) && decide (l.length<=24) && l.all Va)):=Zh (by simp [Uo,ByteArray.size]);obtain⟨x,O⟩:=zE (Uo ⟨l.toArray⟩);rw [O] at v ⊢;obtain⟨y,D⟩:∃ y:ByteArray,(⟨l.toArray⟩:ByteArray)=y:=⟨_,rfl⟩;have a2:y.size=l.length:=by rw [<-D];simp [ByteArray.size]
 have a0:=Zh D;obtain⟨u,J⟩:=zE l.length;have L:=Zh J;rw [J] at a2 a5 v;rw [D];clear D O J;go_enter Tryz.func156,Tryz.ntmps156;go_wp2
 refine wp_loop (fun a M=>∃(f:Nat),f<=u/\a.defers=[]/\(a.tmps.size=49/\a.tmps.getD 0 undef=.string y/\a.tmps.getD 3 undef=.int .i64 f)/\Dx l f=true/\w=M)
  (fun a _=>u - (intOf (a.tmps.getD 3 undef)).toNat) ?_ ?_
 ·exact⟨0,by omega,rfl,⟨rfl,rfl,rfl⟩,by simp [Dx],rfl⟩
 rintro⟨b0,_⟩ M ⟨f,b2,a3,⟨T,F,G⟩,B,rfl⟩;subst a3;obtain⟨b1,U⟩:=Z5 T;obtain⟨d,rfl⟩:∃ c,c=b1:=⟨_,rfl⟩;have a7:b0=#[d 0,d 1,d 2,d 3,d 4,d 5,d 6,d 7,d 8,d 9,d 10,d 11,d 12,d 13,d 14,d 15,d 16,d 17,d 18,d 19,d 20,d 21,d 22,d 23,d 24,d 25,d 26,d 27,d 28,d 29,d 30,d 31,d 32,d 33,d 34,d 35,d 36,d 37,d 38,d 39,d 40,d 41,d 42,d 43,d 44,d 45,d 46,d 47,d 48]:=U;clear U;subst a7;change d 0=_ at F;change d 3=_ at G;rw [F,G];clear F G T;have K:=Zh B;clear B;by_cases a4:f<u;case neg=>
  obtain rfl:f=u:=by omega
  have a1:¬ (f:Int)<(f:Int):=by omega
  have B:l.all Va=true:=by have:=K.out;unfold Dx at this;rwa [List.take_of_length_le (by rw [L.out];exact Nat.le_refl _)] at this
  have Y:=Zh B;clear B;by_cases P:1<=f
  ·have a8:(1:Int)<=(f:Int):=by omega
   by_cases Q:f<=24
   ·have a9:(f:Int)<=24:=by omega
    have A:Hid (x=true):=Zh (by rw [v.out,Y.out,decide_eq_true P,decide_eq_true Q];rfl);go_wp2;go_ret;exact⟨by rw [A.out];rfl,rfl⟩
   ·have a9:¬ (f:Int)<=24:=by omega
    have A:Hid (x=false):=Zh (by rw [v.out,decide_eq_false Q];simp);go_wp2;go_ret;exact⟨by rw [A.out];rfl,rfl⟩
  ·have a8:¬ (1:Int)<=(f:Int):=by omega
   have A:Hid (x=false):=Zh (by rw [v.out,decide_eq_false P];simp);go_wp2;go_ret;exact⟨by rw [A.out];rfl,rfl⟩
 have a1:(f:Int)<(u:Int):=by omega
 have R:f<l.length:=by rw [L.out];exact a4
 obtain⟨j,E⟩:=zE (l[f]);have V:y[f]' oz=j:=by
  have:=a0.out;subst this;simp [ByteArray.getElem_eq_getElem_data,E]
 have a6:=j.toNat_lt
 have X:Va j=true->Dx l (f+1)=true:=fun h=>by
  have N:=K.out;unfold Dx at N ⊢;rw [List.take_succ_eq_append_getElem R,List.all_append,N,E];simp [h]
 have S:Va j=false->x=false:=fun h=>by
  rw [v.out];have:l.all Va=false:=List.all_eq_false.2 ⟨j,by rw [<-E];exact List.getElem_mem R,by rw [h];decide⟩;rw [this];simp
 have I:=fun b=>Qax j b;have H:((y[f]' oz).toNat:Int)=(j.toNat:Int):=by rw [V]
 obtain⟨c,W⟩:=zE j.toNat;rw [W] at a6 I H;obtain⟨C,z,k,Z⟩:=Zh4 X S I H;clear X S I H W V E;go_upto_region 5 with (fail)
 rw [Z.out];by_cases b3:c<=44
 ·have s:¬ (97:Int)<=(c:Int):=by omega
  have m:(c:Int)<=122:=by omega
  have q:¬ (65:Int)<=(c:Int):=by omega
  have r:(c:Int)<=90:=by omega
  have o:¬ (48:Int)<=(c:Int):=by omega
  have p:(c:Int)<=57:=by omega
  have n:((c:Int) == 45)=false:=by rw [beq_eq_false_iff_ne];omega
  have g:Va j=false:=k.out false (by apply Bool.eq_iff_iff.2;simp;omega);have i:=Zh (z.out g);clear g;go_wp2;go_ret;exact⟨by rw [i.out];rfl,rfl⟩
 by_cases b4:c<=45
 ·have t:45<=c:=by omega
  have s:¬ (97:Int)<=(c:Int):=by omega
  have m:(c:Int)<=122:=by omega
  have q:¬ (65:Int)<=(c:Int):=by omega
  have r:(c:Int)<=90:=by omega
  have o:¬ (48:Int)<=(c:Int):=by omega
  have p:(c:Int)<=57:=by omega
  have n:((c:Int) == 45)=true:=by rw [beq_iff_eq];omega
  have g:Va j=true:=k.out true (by apply Bool.eq_iff_iff.2;simp;omega);have i:=Zh (C.out g);clear g;go_wp2;first | exact⟨⟨f+1,by omega,tz,⟨rfl,rfl,rfl⟩,i.out,rfl⟩,nz⟩ | exact⟨⟨f+1,by omega,by simp,i.out⟩,nz⟩
 by_cases b5:c<=47
 ·have t:46<=c:=by omega
  have s:¬ (97:Int)<=(c:Int):=by omega
  have m:(c:Int)<=122:=by omega
  have q:¬ (65:Int)<=(c:Int):=by omega
  have r:(c:Int)<=90:=by omega
  have o:¬ (48:Int)<=(c:Int):=by omega
  have p:(c:Int)<=57:=by omega
  have n:((c:Int) == 45)=false:=by rw [beq_eq_false_iff_ne];omega
  have g:Va j=false:=k.out false (by apply Bool.eq_iff_iff.2;simp;omega);have i:=Zh (z.out g);clear g;go_wp2;go_ret;exact⟨by rw [i.out];rfl,rfl⟩
 by_cases b6:c<=57
 ·have t:48<=c:=by omega
  have s:¬ (97:Int)<=(c:Int):=by omega
  have m:(c:Int)<=122:=by omega
  have q:¬ (65:Int)<=(c:Int):=by omega
  have r:(c:Int)<=90:=by omega
  have o:(48:Int)<=(c:Int):=by omega
  have p:(c:Int)<=57:=by omega
  have n:((c:Int) == 45)=false:=by rw [beq_eq_false_iff_ne];omega
  have g:Va j=true:=k.out true (by apply Bool.eq_iff_iff.2;simp;omega);have i:=Zh (C.out g);clear g;go_wp2;first | exact⟨⟨f+1,by omega,tz,⟨rfl,rfl,rfl⟩,i.out,rfl⟩,nz⟩ | exact⟨⟨f+1,by omega,by simp,i.out⟩,nz⟩
 by_cases b7:c<=64
 ·have t:58<=c:=by omega
  have s:¬ (97:Int)<=(c:Int):=by omega
  have m:(c:Int)<=122:=by omega
  have q:¬ (65:Int)<=(c:Int):=by omega
  have r:(c:Int)<=90:=by omega
  have o:(48:Int)<=(c:Int):=by omega
  have p:¬ (c:Int)<=57:=by omega
  have n:((c:Int) == 45)=false:=by rw [beq_eq_false_iff_ne];omega
  have g:Va j=false:=k.out false (by apply Bool.eq_iff_iff.2;simp;omega);have i:=Zh (z.out g);clear g;go_wp2;go_ret;exact⟨by rw [i.out];rfl,rfl⟩
 by_cases b8:c<=90
 ·have t:65<=c:=by omega
  have s:¬ (97:Int)<=(c:Int):=by omega
  have m:(c:Int)<=122:=by omega
  have q:(65:Int)<=(c:Int):=by omega
  have r:(c:Int)<=90:=by omega
  have o:(48:Int)<=(c:Int):=by omega
  have p:¬ (c:Int)<=57:=by omega
  have n:((c:Int) == 45)=false:=by rw [beq_eq_false_iff_ne];omega
  have g:Va j=true:=k.out true (by apply Bool.eq_iff_iff.2;simp;omega);have i:=Zh (C.out g);clear g;go_wp2;first | exact⟨⟨f+1,by omega,tz,⟨rfl,rfl,rfl⟩,i.out,rfl⟩,nz⟩ | exact⟨⟨f+1,by omega,by simp,i.out⟩,nz⟩
 by_cases b9:c<=96
 ·have t:91<=c:=by omega
  have s:¬ (97:Int)<=(c:Int):=by omega
  have m:(c:Int)<=122:=by omega
  have q:(65:Int)<=(c:Int):=by omega
  have r:¬ (c:Int)<=90:=by omega
  have o:(48:Int)<=(c:Int):=by omega
  have p:¬ (c:Int)<=57:=by omega
  have n:((c:Int) == 45)=false:=by rw [beq_eq_false_iff_ne];omega
  have g:Va j=false:=k.out false (by apply Bool.eq_iff_iff.2;simp;omega);have i:=Zh (z.out g);clear g;go_wp2;go_ret;exact⟨by rw [i.out];rfl,rfl⟩
 by_cases c0:c<=122
 ·have t:97<=c:=by omega
  have s:(97:Int)<=(c:Int):=by omega
  have m:(c:Int)<=122:=by omega
  have q:(65:Int)<=(c:Int):=by omega
  have r:¬ (c:Int)<=90:=by omega
  have o:(48:Int)<=(c:Int):=by omega
  have p:¬ (c:Int)<=57:=by omega
  have n:((c:Int) == 45)=false:=by rw [beq_eq_false_iff_ne];omega
  have g:Va j=true:=k.out true (by apply Bool.eq_iff_iff.2;simp;omega);have i:=Zh (C.out g);clear g;go_wp2;first | exact⟨⟨f+1,by omega,tz,⟨rfl,rfl,rfl⟩,i.out,rfl⟩,nz⟩ | exact⟨⟨f+1,by omega,by simp,i.out⟩,nz⟩
 ·have t:123<=c:=by omega
  have s:(97:Int)<=(c:Int):=by omega
  have m:¬ (c:Int)<=122:=by omega
  have q:(65:Int)<=(c:Int):=by omega
  have r:¬ (c:Int)<=90:=by omega
  have o:(48:Int)<=(c:Int):=by omega
  have p:¬ (c:Int)<=57:=by omega
  have n:((c:Int) == 45)=false:=by rw [beq_eq_false_iff_ne];omega
  have g:Va j=false:=k.out false (by apply Bool.eq_iff_iff.2;simp;omega);have i:=Zh (z.out g);clear g;go_wp2;go_ret;exact⟨by rw [i.out];rfl,rfl⟩
theorem Eo{w:World}{cs:List Value}{l:Q7}{v:Value}{g:Wd}(n7:Zq w l cs)(j9:Q4 w v g)(l2:∀ x∈l.outs,Yp g.length x=true)(r4:l.outs.length<=1000) :
  Calls Tryz.prog 193 #[.agg cs.toArray,v] w fun e w'=>∃ u,e=.returned u/\w'.ownsRow w.heap.size 26 2 u l.outs.length (Qx (Yz l g))/\Ext w w':=by
 obtain⟨s1,s0,rfl,o3⟩:=j9.slice;obtain⟨p3,o6,p8,o8,p1,m3,m5,p4,m0,m7,o7,p9,o9,p2,m4,m6,p5,m1,m8,o5,m2,o4,p7,c2,p6,p0,rfl,q3,e9,q6,q1,k6,s6,s3,s4,s5,e8,s2,t7,t8,t9,u0,u1⟩:=Zu n7;obtain⟨k4,k0⟩:=zE g.length;rw [k0] at j9 o3 l2;rw [e8.out] at r4;unfold maxLen at o3;obtain⟨b1,e2,q5⟩:=Zh3 j9 k0 l2;rw [k0];clear n7 j9 k0 l2;have e9:=Yx l g;rw [e8.out] at e9;have s7:=Zh e9;clear e9;rw [e8.out];go_enter Tryz.func193,Tryz.ntmps193;go_upto_region 1 with (fail)
 obtain⟨z,k1⟩:=zE (w.alloc (.cells #[.string p3,.int .i64 o6,.int .u32 (p8:Int),.int .u32 (o8:Int),.bool p1,.int .i64 m3,.int .i64 m5,.slice p4 m0 m7,.int .i64 o7,.int .u32 (p9:Int),.int .u32 (o9:Int),.bool p2,.int .i64 m4,.int .i64 m6,.slice p5 m1 m8,.slice o5 m2 o4,.slice p7 c2 p6,.int .i64 p0] 50));have f6:Ext w z:=by rw [<-k1];exact(Q0.refl _ w).alloc _
 have l0:z.heap[w.heap.size]?=some (.cells #[.string p3,.int .i64 o6,.int .u32 (p8:Int),.int .u32 (o8:Int),.bool p1,.int .i64 m3,.int .i64 m5,.slice p4 m0 m7,.int .i64 o7,.int .u32 (p9:Int),.int .u32 (o9:Int),.bool p2,.int .i64 m4,.int .i64 m6,.slice p5 m1 m8,.slice o5 m2 o4,.slice p7 c2 p6,.int .i64 p0] 50 (0,0)):=by rw [<-k1];exact Q3 rfl
 have Y:w.heap.size<=z.heap.size:=f6.size;rw [k1];obtain⟨q0,n0⟩:=zE w.heap.size;rw [n0] at l0 Y ⊢;have q2:=Zh l0;have l7:=Zh f6;have o2:=b1.out.ext f6;have j8:=k6.out.ext f6;have b1:=Zh o2;have k6:=Zh j8;clear k1 l0 n0 o2 j8 q1 q3 e9 q6;go_wp2
 refine wp_loop (fun a W=>∃(d:Nat) (l6:Option Addr) (l5:Nat),d<=c2/\a.defers=[]/\gS a [1,2,5,6]=(59,[.slice s1 k4 s0,.pointer (some ⟨q0,0,none⟩),.slice l6 d l5,.int .i64 d])/\W.ownsRow z.heap.size 26 2 (.slice l6 d l5) d (Qx (S3 l g d))/\Ext z W)
  (fun a _=>c2 - (intOf (a.tmps.getD 6 undef)).toNat) ?_ ?_
 ·exact⟨0,none,0,by omega,rfl,rfl,World.ownsRow_nil _ _ _ _,Q0.refl _ _⟩
 clear f6;rintro⟨u2,_⟩ k ⟨d,l6,l5,t5,r1,o1,N,G⟩;subst r1;obtain⟨u,rfl⟩:=Qc o1;clear o1;have m9:=cell_of_row _ _ 16 _ _ _ (G.keep q2.out);by_cases r3:d<c2;case neg=>
  obtain rfl:d=c2:=by omega
  have c9:¬ ((d:Int)<(d:Int)):=by omega
  rw [Q0q l g e8.out] at N;have q4:=Zh N;clear N;go_wp2;go_ret;exact⟨_,rfl,Z9 q4.out l7.out.size,l7.out.trans G⟩
 have c9:(d:Int)<(c2:Int):=by omega
 have g2:d<l.outs.length:=by rw [e8.out];exact r3
 obtain⟨t0,t6,s9,T,t4,e6,j0,j1,f1,f2,j2,j3⟩:=(k6.out.ext G).at g2;simp only [zV] at T;obtain⟨rfl,d9,rfl⟩:=T;clear d9;obtain⟨x,l4⟩:=zE (l.outs[d]);have i9:Hid (l.outs[d]?=some x):=Zh (by rw [List.getElem?_eq_getElem g2,l4]);have g1:=Ce (q5.out _ (List.getElem_mem g2));rw [l4] at j0 j1 f1 f2 j2 j3 e6 g1;have d4:U3 g x=if x.tk=0 then(X5 (if 0<=x.frm then g.getD x.frm.toNat (0,0) else(0,0)) x.cl x.st).1 else(Ju (X5 (if 0<=x.frm then g.getD x.frm.toNat (0,0) else(0,0)) x.cl x.st).1 (g.getD x.ofi.toNat (0,0)) x.tk).1:=rfl
 have i6:=Zh g2;clear l4 g2;obtain⟨j4,n3⟩:=zE x.frm;obtain⟨X,n2⟩:=zE x.cl;obtain⟨⟨b6,b7⟩,o0⟩:=zE x.st;obtain⟨A,Z⟩:=zE x.tk;obtain⟨k2,n9⟩:=zE x.ofi;unfold Xx at e6;rw [n3] at j0 g1 d4;rw [n2] at j1 e6 d4;rw [o0] at f1 f2 e6 d4;rw [Z] at j2 e6 g1 d4;rw [n9] at j3 g1 d4;dsimp only at f1 f2;clear n3 n2 o0 Z n9;have i7:=Zh d4;obtain⟨n5,j7,n6⟩:=e6;obtain⟨t2,n8⟩:=g1;have l8:=Zh n8;clear d4 n8;obtain⟨b2,f9⟩:=zE ((k.alloc (.cells #[.int .i64 j4,.int .u32 (X:Int),.int .u32 (b6:Int),.int .u32 (b7:Int),.int .u32 (A:Int),.int .i64 k2] 131)).alloc (.cells #[.int .u32 0,.int .u32 0] 26));have f8:Ext k b2:=by rw [<-f9];exact((Q0.refl _ k).alloc _).alloc _
 have b4:b2.heap[k.heap.size]?=some (.cells #[.int .i64 j4,.int .u32 (X:Int),.int .u32 (b6:Int),.int .u32 (b7:Int),.int .u32 (A:Int),.int .i64 k2] 131 (0,0)):=by rw [<-f9];exact Q9 (Q3 rfl)
 have Y:b2.heap[k.heap.size+1]?=some (.cells #[.int .u32 0,.int .u32 0] 26 (0,0)):=by rw [<-f9];exact Q3 zy
 have i8:=Zh f9;clear f9;by_cases j6:0<=j4;case pos=>
  obtain⟨i,rfl⟩:=Int.eq_ofNat_of_zero_le j6;have n4:i<k4:=by omega
  obtain⟨j5,k3,s8,T,t3,E,F⟩:=(b1.out.ext G).at (i:=i) (by rw [e2.out];exact n4);simp only [zV] at T;obtain⟨rfl,d9,rfl⟩:=T;clear d9;obtain⟨⟨q,r⟩,l3⟩:=zE (g.getD i (0,0));have e5:=b1.out.2.get i (by rw [e2.out];exact n4);rw [l3] at E F e5;dsimp only at E F;have B:Hid (U3 g x=if A=0 then(X5 (q,r) X (b6,b7)).1 else(Ju (X5 (q,r) X (b6,b7)).1 (g.getD k2.toNat (0,0)) A).1):=Zh (by rw [i7.out,if_pos j6];simp only [Int.toNat_natCast,l3]);clear l3 i7;go_upto_region 7 with (fail)
  rw [i8.out];clear m9;obtain⟨a1,a4⟩:=zE k.heap.size;obtain⟨S,a3⟩:=zE (k.heap.size+1);have e3:=Zh a4;have H:=Zh a3;rw [a4] at b4;rw [a3] at Y;rw [a3,a4];clear a4 a3 i8 j0 j1 f1 f2 j2 j3;have I:=fun d=>cell_of_row _ _ d _ _ _ b4;have q8:=f8.cell_some E id;have q9:=f8.cell_some F id;have l9:=Zh b4;have k7:=Zh Y;clear b4 Y E F;go_upto_region 9 with (refine wpList_store_row rfl 26 (.tmp 8) (.tmp 29) rfl S #[.int .u32 (q:Int),.int .u32 (r:Int)] rfl rfl _ _ k7.out kz rfl kz ?_)
  have k9:=Q0.setRow b2 S #[.int .u32 (q:Int),.int .u32 (r:Int)];have b3:=setRow_heap _ _ _ #[.int .u32 (q:Int),.int .u32 (r:Int)] _ _ k7.out;have b5:=k9.heap l9.out (by have:=e3.out;have:=H.out;omega);have e4:Ext k (b2.setRow S #[.int .u32 (q:Int),.int .u32 (r:Int)]):=Q0.after f8 k9 (fun b hb e=>by have:=H.out;omega);obtain⟨q7,n1⟩:=zE (b2.setRow S #[.int .u32 (q:Int),.int .u32 (r:Int)]);rw [n1] at b3 b5 e4 ⊢;clear n1 k9 I q8 q9 l9 k7;have g3:Qh (q,r):=e5;have a5:=fun(c:World)=>Re g3 j7 n5 c;have d8:=Fp (m:=X) g3 j7;obtain⟨⟨⟨s,t⟩,r9⟩,g9⟩:=zE (X5 (q,r) X (b6,b7));rw [g9] at a5 B d8;dsimp only at a5 B d8;have e7:=Zh a5;clear a5 g9;have I:=fun d=>cell_of_row _ _ d _ _ _ b5;have C:=fun d=>cell_of_row _ _ d _ _ _ b3;go_wp2_with fail;refine(e7.out _).mono ?_;rintro e c6 ⟨rfl,D⟩;have f7:=e4.trans D;have i2:=D.keep b5;have g6:=D.keep b3;have c1:=Zh g6;clear I C b5 b3 e4 D e7;go_upto_region 10 with (refine wpList_store_row rfl 26 (.tmp 8) (.tmp 37) rfl S #[.int .u32 (s:Int),.int .u32 (t:Int)] rfl rfl _ _ c1.out kz rfl kz ?_)
  have d1:=Q0.setRow c6 S #[.int .u32 (s:Int),.int .u32 (t:Int)];have a6:=setRow_heap _ _ _ #[.int .u32 (s:Int),.int .u32 (t:Int)] _ _ c1.out;have V:=d1.heap i2 (by have:=e3.out;have:=H.out;omega);have J:Ext k (c6.setRow S #[.int .u32 (s:Int),.int .u32 (t:Int)]):=Q0.after f7 d1 (fun b hb e=>by have:=H.out;omega);obtain⟨L,i0⟩:=zE (c6.setRow S #[.int .u32 (s:Int),.int .u32 (t:Int)]);rw [i0] at a6 V J ⊢;clear i0 d1 i2 g6 c1 f7;have I:=fun d=>cell_of_row _ _ d _ _ _ V;by_cases Z:A=0;case pos=>
   subst Z;go_upto_region 12 with (fail)
   clear I V;have R:U3 g x=(s,t):=by rw [B.out];simp
   have b9:=Zh R;clear R;have P:=Q6 N J;have d3:z.heap.size<=L.heap.size:=Nat.le_trans G.size J.size;have C:=fun d=>cell_of_row _ _ d _ _ _ a6
   go_wp2_with (at_builtin;refine Qo rfl (.tmp 54) (.tmp 56) 23 rfl z.heap.size 26 _ 2 8 Tryz.underlying23 @Yt rfl zd _ _ _ rfl (Q6 P ((Q0.refl _ _).alloc _)) ⟨L.heap.size,0,none⟩ 1 1 [.int .u32 (s:Int),.int .u32 (t:Int)] rfl rfl (Qn rfl) (Us _ _) ?c3 ?c4 ?c5 ?_)
   case c3=>unfold maxLen;omega
   case c4=>omega
   case c5=>first | omega | (simp;omega) | exact Nat.le_trans d3 (Q0.alloc (Q0.refl (fun _=>False) _) _).size
   intro c7 c8 e0 O Q d0;have M:Ext z e0:=Q0.after (G.trans (Q0.trans J ((Q0.refl _ _).alloc _))) Q (fun b hb e=>by have:=(N.lt _ e).1;omega);have c0:=Zh O;have b8:=Zh M;clear O M Q d0 C P;go_wp2;exact⟨⟨d+1,c7,c8,by omega,tz,rfl,by rw [Ve i6.out i9.out,b9.out,Zl];exact c0.out,b8.out⟩,nz⟩
  obtain⟨l1,j8⟩:=l8.out Z;have r5:((A:Int) != 0)=true:=by rw [bne_iff_ne];omega
  obtain⟨f,rfl⟩:=Int.eq_ofNat_of_zero_le l1;have g4:f<k4:=by omega
  obtain⟨f3,i3,r0,T,r2,E,F⟩:=(b1.out.ext G).at (i:=f) (by rw [e2.out];exact g4);simp only [zV,Option.some.injEq,Addr.mk.injEq] at T;obtain⟨⟨rfl,rfl,_⟩,d9,rfl⟩:=T;clear d9;obtain⟨⟨a8,a9⟩,d6⟩:=zE (g.getD f (0,0));have d5:=b1.out.2.get f (by rw [e2.out];exact g4);rw [d6] at E F d5;have g5:Qh (a8,a9):=d5;dsimp only at E F;have a7:=fun(c:World)=>Ci d8 g5 n6 c;obtain⟨⟨⟨o,p⟩,r8⟩,d7⟩:=zE (Ju (s,t) (a8,a9) A);rw [d7] at a7;dsimp only at a7;have k8:=Zh a7;have k5:Hid (U3 g x=(o,p)):=Zh (by rw [B.out,if_neg Z,show ((f:Int)).toNat=f from rfl,d6,d7]);clear a7 d7 d6 d5 g5;have g0:∀(c:World),Q0 (·=S) L c->c.cell? ⟨a1,4,none⟩=some (.int .u32 (A:Int))/\c.cell? ⟨a1,5,none⟩=some (.int .i64 f)/\c.cell? ⟨j5,k3+f*2,none⟩=some (.int .u32 (a8:Int))/\c.cell? ⟨j5,k3+f*2+1,none⟩=some (.int .u32 (a9:Int)):=by
   intro c f5;have f4:=f5.heap V (by have:=e3.out;have:=H.out;omega);have c9:Ext k c:=Q0.after J f5 (fun b hb e=>by have:=H.out;omega);exact⟨cell_of_row _ _ 4 _ _ _ f4,cell_of_row _ _ 5 _ _ _ f4,c9.cell_some E id,c9.cell_some F id⟩
  have a0:=Zh g0;have f0:=Zh a6;clear g0;go_upto_region 11 with (fail)
  clear I V a6 E F;refine wp_region_held_drew (S:=fun c=>c.cell? ⟨a1,4,none⟩=some (.int .u32 (A:Int))/\c.cell? ⟨a1,5,none⟩=some (.int .i64 f)/\c.cell? ⟨j5,k3+f*2,none⟩=some (.int .u32 (a8:Int))/\c.cell? ⟨j5,k3+f*2+1,none⟩=some (.int .u32 (a9:Int))) kz (a0.out _ (Q0.drew (Q0.refl _ L))) ?_;intro j;refine tH 1 44 j ?_;refine tH 2 45 j ?_;refine tH 3 46 j ?_;refine tH 4 47 j ?_;refine tH 5 48 j ?_;refine tH 6 49 j ?_;refine tH 7 50 j ?_;refine rH [0] ?_;refine AllReadyH.cons rfl (fun K hK=>?_) AllReadyH.nil;refine iw rfl ?_;have C:=fun d=>cell_of_row _ _ d _ _ _ f0.out;go_simp;refine hK.out _ _ j (fun _=>?_);clear hK K C;try simp only [Act.put,pq]
  refine rH [8] ?_;refine AllReadyH.cons rfl (fun K hK=>?_) AllReadyH.nil;refine iw rfl ?_;go_simp;refine(k8.out _).mono ?_;rintro e b0 ⟨rfl,D⟩;have U:Ext L b0:=Q0.trans (Q0.drew (Q0.refl _ L)) D;have e1:=U.keep f0.out;refine hK.out _ _ (a0.out _ (Ext.of U)) (fun hS1=>?_);clear hK K D;refine tH 9 42 hS1 ?_;refine tH 10 52 hS1 ?_;refine tH 11 53 hS1 ?_;refine rH [12] ?_;refine AllReadyH.cons rfl (fun K hK=>?_) AllReadyH.nil;refine iw rfl ?_;refine wp_store_row 26 (.tmp 8) (.tmp 52) rfl S #[.int .u32 (o:Int),.int .u32 (p:Int)] rfl rfl _ _ e1 kz rfl kz ?_;have d2:=Q0.setRow b0 S #[.int .u32 (o:Int),.int .u32 (p:Int)];have i5:=setRow_heap _ _ _ #[.int .u32 (o:Int),.int .u32 (p:Int)] _ _ e1;refine hK.out _ _ (a0.out _ ((Ext.of U).trans d2)) (fun hS3=>?_);clear hK K;change wpAnyH _ _ _ _ _ _ _ (Act.put _ none _) _;simp only [Act.put];refine wpAnyH_done kz ?_ _;have a2:Ext k (b0.setRow S #[.int .u32 (o:Int),.int .u32 (p:Int)]):=Q0.after (Q0.trans J U) d2 (fun b hb e=>by have:=H.out;omega);obtain⟨i4,i1⟩:=zE (b0.setRow S #[.int .u32 (o:Int),.int .u32 (p:Int)]);rw [i1] at i5 a2 ⊢;clear i1 d2 j hS1 hS3 a0 e1 U B;have B:=k5;go_upto_region 12 with (fail)
  have R:U3 g x=(o,p):=by rw [B.out];skip
  have b9:=Zh R;clear R;have P:=Q6 N a2;have d3:z.heap.size<=i4.heap.size:=Nat.le_trans G.size a2.size;have C:=fun d=>cell_of_row _ _ d _ _ _ i5
  go_wp2_with (at_builtin;refine Qo rfl (.tmp 54) (.tmp 56) 23 rfl z.heap.size 26 _ 2 8 Tryz.underlying23 @Yt rfl zd _ _ _ rfl (Q6 P ((Q0.refl _ _).alloc _)) ⟨i4.heap.size,0,none⟩ 1 1 [.int .u32 (o:Int),.int .u32 (p:Int)] rfl rfl (Qn rfl) (Us _ _) ?c3 ?c4 ?c5 ?_)
  case c3=>unfold maxLen;omega
  case c4=>omega
  case c5=>first | omega | (simp;omega) | exact Nat.le_trans d3 (Q0.alloc (Q0.refl (fun _=>False) _) _).size
  intro c7 c8 e0 O Q d0;have M:Ext z e0:=Q0.after (G.trans (Q0.trans a2 ((Q0.refl _ _).alloc _))) Q (fun b hb e=>by have:=(N.lt _ e).1;omega);have c0:=Zh O;have b8:=Zh M;clear O M Q d0 C P;go_wp2;exact⟨⟨d+1,c7,c8,by omega,tz,rfl,by rw [Ve i6.out i9.out,b9.out,Zl];exact c0.out,b8.out⟩,nz⟩
 case neg=>
  have t1:¬ (0:Int)<=j4:=j6;have e5:(0:Nat)<4294967296/\(0:Nat)<4294967296:=⟨by decide,by decide⟩;obtain⟨q,g7⟩:∃ y:Nat,y=0:=⟨_,rfl⟩;obtain⟨r,g8⟩:∃ y:Nat,y=0:=⟨_,rfl⟩;have r6:(.int .u32 0:Value)=.int .u32 (q:Int):=by rw [g7];rfl
  have r7:(.int .u32 0:Value)=.int .u32 (r:Int):=by rw [g8];rfl
  have e5:q<4294967296/\r<4294967296:=by rw [g7,g8];exact e5
  have B:Hid (U3 g x=if A=0 then(X5 (q,r) X (b6,b7)).1 else(Ju (X5 (q,r) X (b6,b7)).1 (g.getD k2.toNat (0,0)) A).1):=Zh (by rw [i7.out,if_neg j6,g7,g8]);have Y:b2.heap[k.heap.size+1]?=some (.cells #[.int .u32 (q:Int),.int .u32 (r:Int)] 26 (0,0)):=by rw [g7,g8];exact Y
  clear i7 r6 r7 g7 g8;go_upto_region 7 with (fail)
  rw [i8.out];clear m9;obtain⟨a1,a4⟩:=zE k.heap.size;obtain⟨S,a3⟩:=zE (k.heap.size+1);have e3:=Zh a4;have H:=Zh a3;rw [a4] at b4;rw [a3] at Y;rw [a3,a4];clear a4 a3 i8 j0 j1 f1 f2 j2 j3;have I:=fun d=>cell_of_row _ _ d _ _ _ b4;go_upto_region 9 with (fail)
  clear I;obtain⟨q7,rfl⟩:∃ c,c=b2:=⟨_,rfl⟩;have b3:=Y;have b5:=b4;have e4:=f8;clear Y b4 f8;have g3:Qh (q,r):=e5;have a5:=fun(c:World)=>Re g3 j7 n5 c;have d8:=Fp (m:=X) g3 j7;obtain⟨⟨⟨s,t⟩,r9⟩,g9⟩:=zE (X5 (q,r) X (b6,b7));rw [g9] at a5 B d8;dsimp only at a5 B d8;have e7:=Zh a5;clear a5 g9;have I:=fun d=>cell_of_row _ _ d _ _ _ b5;have C:=fun d=>cell_of_row _ _ d _ _ _ b3;go_wp2_with fail;refine(e7.out _).mono ?_;rintro e c6 ⟨rfl,D⟩;have f7:=e4.trans D;have i2:=D.keep b5;have g6:=D.keep b3;have c1:=Zh g6;clear I C b5 b3 e4 D e7;go_upto_region 10 with (refine wpList_store_row rfl 26 (.tmp 8) (.tmp 37) rfl S #[.int .u32 (s:Int),.int .u32 (t:Int)] rfl rfl _ _ c1.out kz rfl kz ?_)
  have d1:=Q0.setRow c6 S #[.int .u32 (s:Int),.int .u32 (t:Int)];have a6:=setRow_heap _ _ _ #[.int .u32 (s:Int),.int .u32 (t:Int)] _ _ c1.out;have V:=d1.heap i2 (by have:=e3.out;have:=H.out;omega);have J:Ext k (c6.setRow S #[.int .u32 (s:Int),.int .u32 (t:Int)]):=Q0.after f7 d1 (fun b hb e=>by have:=H.out;omega);obtain⟨L,i0⟩:=zE (c6.setRow S #[.int .u32 (s:Int),.int .u32 (t:Int)]);rw [i0] at a6 V J ⊢;clear i0 d1 i2 g6 c1 f7;have I:=fun d=>cell_of_row _ _ d _ _ _ V;by_cases Z:A=0;case pos=>
   subst Z;go_upto_region 12 with (fail)
   clear I V;have R:U3 g x=(s,t):=by rw [B.out];simp
   have b9:=Zh R;clear R;have P:=Q6 N J;have d3:z.heap.size<=L.heap.size:=Nat.le_trans G.size J.size;have C:=fun d=>cell_of_row _ _ d _ _ _ a6
   go_wp2_with (at_builtin;refine Qo rfl (.tmp 54) (.tmp 56) 23 rfl z.heap.size 26 _ 2 8 Tryz.underlying23 @Yt rfl zd _ _ _ rfl (Q6 P ((Q0.refl _ _).alloc _)) ⟨L.heap.size,0,none⟩ 1 1 [.int .u32 (s:Int),.int .u32 (t:Int)] rfl rfl (Qn rfl) (Us _ _) ?c3 ?c4 ?c5 ?_)
   case c3=>unfold maxLen;omega
   case c4=>omega
   case c5=>first | omega | (simp;omega) | exact Nat.le_trans d3 (Q0.alloc (Q0.refl (fun _=>False) _) _).size
   intro c7 c8 e0 O Q d0;have M:Ext z e0:=Q0.after (G.trans (Q0.trans J ((Q0.refl _ _).alloc _))) Q (fun b hb e=>by have:=(N.lt _ e).1;omega);have c0:=Zh O;have b8:=Zh M;clear O M Q d0 C P;go_wp2;exact⟨⟨d+1,c7,c8,by omega,tz,rfl,by rw [Ve i6.out i9.out,b9.out,Zl];exact c0.out,b8.out⟩,nz⟩
  obtain⟨l1,j8⟩:=l8.out Z;have r5:((A:Int) != 0)=true:=by rw [bne_iff_ne];omega
  obtain⟨f,rfl⟩:=Int.eq_ofNat_of_zero_le l1;have g4:f<k4:=by omega
  obtain⟨f3,i3,r0,T,r2,E,F⟩:=(b1.out.ext G).at (i:=f) (by rw [e2.out];exact g4);simp only [zV] at T;obtain⟨rfl,d9,rfl⟩:=T;clear d9;obtain⟨⟨a8,a9⟩,d6⟩:=zE (g.getD f (0,0));have d5:=b1.out.2.get f (by rw [e2.out];exact g4);rw [d6] at E F d5;have g5:Qh (a8,a9):=d5;dsimp only at E F;have a7:=fun(c:World)=>Ci d8 g5 n6 c;obtain⟨⟨⟨o,p⟩,r8⟩,d7⟩:=zE (Ju (s,t) (a8,a9) A);rw [d7] at a7;dsimp only at a7;have k8:=Zh a7;have k5:Hid (U3 g x=(o,p)):=Zh (by rw [B.out,if_neg Z,show ((f:Int)).toNat=f from rfl,d6,d7]);clear a7 d7 d6 d5 g5;have g0:∀(c:World),Q0 (·=S) L c->c.cell? ⟨a1,4,none⟩=some (.int .u32 (A:Int))/\c.cell? ⟨a1,5,none⟩=some (.int .i64 f)/\c.cell? ⟨f3,i3+f*2,none⟩=some (.int .u32 (a8:Int))/\c.cell? ⟨f3,i3+f*2+1,none⟩=some (.int .u32 (a9:Int)):=by
   intro c f5;have f4:=f5.heap V (by have:=e3.out;have:=H.out;omega);have c9:Ext k c:=Q0.after J f5 (fun b hb e=>by have:=H.out;omega);exact⟨cell_of_row _ _ 4 _ _ _ f4,cell_of_row _ _ 5 _ _ _ f4,c9.cell_some E id,c9.cell_some F id⟩
  have a0:=Zh g0;have f0:=Zh a6;clear g0;go_upto_region 11 with (fail)
  clear I V a6 E F;refine wp_region_held_drew (S:=fun c=>c.cell? ⟨a1,4,none⟩=some (.int .u32 (A:Int))/\c.cell? ⟨a1,5,none⟩=some (.int .i64 f)/\c.cell? ⟨f3,i3+f*2,none⟩=some (.int .u32 (a8:Int))/\c.cell? ⟨f3,i3+f*2+1,none⟩=some (.int .u32 (a9:Int))) kz (a0.out _ (Q0.drew (Q0.refl _ L))) ?_;intro j;refine tH 1 44 j ?_;refine tH 2 45 j ?_;refine tH 3 46 j ?_;refine tH 4 47 j ?_;refine tH 5 48 j ?_;refine tH 6 49 j ?_;refine tH 7 50 j ?_;refine rH [0] ?_;refine AllReadyH.cons rfl (fun K hK=>?_) AllReadyH.nil;refine iw rfl ?_;have C:=fun d=>cell_of_row _ _ d _ _ _ f0.out;go_simp;refine hK.out _ _ j (fun _=>?_);clear hK K C;try simp only [Act.put,pq]
  refine rH [8] ?_;refine AllReadyH.cons rfl (fun K hK=>?_) AllReadyH.nil;refine iw rfl ?_;go_simp;refine(k8.out _).mono ?_;rintro e b0 ⟨rfl,D⟩;have U:Ext L b0:=Q0.trans (Q0.drew (Q0.refl _ L)) D;have e1:=U.keep f0.out;refine hK.out _ _ (a0.out _ (Ext.of U)) (fun hS1=>?_);clear hK K D;refine tH 9 42 hS1 ?_;refine tH 10 52 hS1 ?_;refine tH 11 53 hS1 ?_;refine rH [12] ?_;refine AllReadyH.cons rfl (fun K hK=>?_) AllReadyH.nil;refine iw rfl ?_;refine wp_store_row 26 (.tmp 8) (.tmp 52) rfl S #[.int .u32 (o:Int),.int .u32 (p:Int)] rfl rfl _ _ e1 kz rfl kz ?_;have d2:=Q0.setRow b0 S #[.int .u32 (o:Int),.int .u32 (p:Int)];have i5:=setRow_heap _ _ _ #[.int .u32 (o:Int),.int .u32 (p:Int)] _ _ e1;refine hK.out _ _ (a0.out _ ((Ext.of U).trans d2)) (fun hS3=>?_);clear hK K;change wpAnyH _ _ _ _ _ _ _ (Act.put _ none _) _;simp only [Act.put];refine wpAnyH_done kz ?_ _;have a2:Ext k (b0.setRow S #[.int .u32 (o:Int),.int .u32 (p:Int)]):=Q0.after (Q0.trans J U) d2 (fun b hb e=>by have:=H.out;omega);obtain⟨i4,i1⟩:=zE (b0.setRow S #[.int .u32 (o:Int),.int .u32 (p:Int)]);rw [i1] at i5 a2 ⊢;clear i1 d2 j hS1 hS3 a0 e1 U B;have B:=k5;go_upto_region 12 with (fail)
  have R:U3 g x=(o,p):=by rw [B.out];skip
  have b9:=Zh R;clear R;have P:=Q6 N a2;have d3:z.heap.size<=i4.heap.size:=Nat.le_trans G.size a2.size;have C:=fun d=>cell_of_row _ _ d _ _ _ i5
  go_wp2_with (at_builtin;refine Qo rfl (.tmp 54) (.tmp 56) 23 rfl z.heap.size 26 _ 2 8 Tryz.underlying23 @Yt rfl zd _ _ _ rfl (Q6 P ((Q0.refl _ _).alloc _)) ⟨i4.heap.size,0,none⟩ 1 1 [.int .u32 (o:Int),.int .u32 (p:Int)] rfl rfl (Qn rfl) (Us _ _) ?c3 ?c4 ?c5 ?_)
  case c3=>unfold maxLen;omega
  case c4=>omega
  case c5=>first | omega | (simp;omega) | exact Nat.le_trans d3 (Q0.alloc (Q0.refl (fun _=>False) _) _).size
  intro c7 c8 e0 O Q d0;have M:Ext z e0:=Q0.after (G.trans (Q0.trans a2 ((Q0.refl _ _).alloc _))) Q (fun b hb e=>by have:=(N.lt _ e).1;omega);have c0:=Zh O;have b8:=Zh M;clear O M Q d0 C P;go_wp2;exact⟨⟨d+1,c7,c8,by omega,tz,rfl,by rw [Ve i6.out i9.out,b9.out,Zl];exact c0.out,b8.out⟩,nz⟩
end Go.Proofs.YtejenndedjabhaaGreatDoor
