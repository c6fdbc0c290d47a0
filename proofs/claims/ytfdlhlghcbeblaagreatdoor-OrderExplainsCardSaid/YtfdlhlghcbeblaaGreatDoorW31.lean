/- ablautlaw14.OrderExplains (printed by genexplo.py). -/
import Derived.Test.YtfdlhlghcbeblaaGreatDoorW27
import Derived.Test.YtfdlhlghcbeblaaGreatDoorW29
set_option maxRecDepth 100000
set_option maxHeartbeats 16000000
namespace Go.Proofs.YtfdlhlghcbeblaaGreatDoor
open Go.RowKit Go.Ab
attribute [local go_sem] Oper.semAt_some Z1 Qk
theorem Qal(ps:Qg)(qs:Q8)(x:List Nat):V4 ps qs x<=qs.length:=by
 unfold V4;refine Nat.le_trans List.countP_le_length ?_;unfold Z8;rw [List.length_map];exact Nat.le_refl _
theorem Qbr(ps:Qg)(qs:Q8)(x:List Nat):-1<=byI ps x qs/\byI ps x qs<=qs.length:=by
 have a:(Z8 ps x qs).length=qs.length:=by unfold Z8;rw [List.length_map]
 have b:J3 ps x qs<=qs.length:=by unfold J3;rw [<-a];exact List.findIdx_le_length
 unfold byI
 split <;> omega
theorem Q6u(LD:List Q5)(qs:Q8):-1<=U9 LD qs/\U9 LD qs<=qs.length:=by
 have a:=H6 LD qs (Y1 LD.length (List.range LD.length));unfold U9
 split
 ·exact a
 ·omega
structure Q5l (LD:List Q5) (qs:Q8) (RS:List (List Nat)) (L:List (List Nat)) (bx:List Nat) (bn:Int) (x:List Nat) (i:Nat) (c:Nat) (f:Int):Prop where
 hit:f<0->L[((RS.take i).filter (Zo LD qs)).length]?=some x/\((RS.take (i+1)).filter (Zo LD qs)).length=((RS.take i).filter (Zo LD qs)).length+1
 miss:¬ f<0->((RS.take (i+1)).filter (Zo LD qs)).length=((RS.take i).filter (Zo LD qs)).length
 up:(Qw LD qs (RS.take i)).2<(c:Int)->(Qw LD qs (RS.take (i+1))).2=(c:Int)
 same:¬ (Qw LD qs (RS.take i)).2<(c:Int)->(Qw LD qs (RS.take (i+1))).2=(Qw LD qs (RS.take i)).2
 best:(Qw LD qs (RS.take i)).2<(c:Int)->(c:Int)=bn->bx=x
theorem Qbn{ps:Qg}{qs:Q8}(h:Qo (ps.map (·.1)) (qs.map (·.1))=0) {i:Nat} (b:i<(Qa ps.length).length) :
  Q5l (ps.map (·.1)) qs (Qa ps.length) (Z4 (ps.map (·.1)) qs ps.length) (V0 (ps.map (·.1)) qs) (U9 (ps.map (·.1)) qs) (Qa ps.length)[i] i (V4 ps qs (Qa ps.length)[i]) (byI ps (Qa ps.length)[i] qs):=by
 have e:(Qa ps.length)[i]∈Qa ps.length:=List.getElem_mem b;have a:=Qad h e;have j:=Qb6 h e;have g:V0 (ps.map (·.1)) qs=(Qw (ps.map (·.1)) qs (Qa ps.length)).1:=by unfold V0;rw [if_pos h,List.length_map,Yc]
 have f:U9 (ps.map (·.1)) qs=(Qw (ps.map (·.1)) qs (Qa ps.length)).2:=by unfold U9;rw [if_pos h,List.length_map,Yc]
 rw [Uq,g,f,j];have c:=Rh (Zo (ps.map (·.1)) qs) b;have d:=Fe (LD:=ps.map (·.1)) (qs:=qs) b;refine⟨fun hf=>?_,fun hf=>?_,fun hl=>?_,fun hl=>?_,fun hl he=>?_⟩
 ·rw [decide_eq_true hf] at a;rw [if_pos a] at c;exact⟨St b a,c⟩
 ·rw [decide_eq_false hf] at a;rw [if_neg (by rw [a];decide)] at c;exact c
 ·rw [d];unfold Zb;rw [if_pos hl]
 ·rw [d];unfold Zb;rw [if_neg hl]
 ·exact Q1g b hl he
theorem Qcy{ps:Qg}{qs:Q8}(h:Qo (ps.map (·.1)) (qs.map (·.1))=0) :
  (((Qa ps.length).take (Qa ps.length).length).filter (Zo (ps.map (·.1)) qs)).length=(Z4 (ps.map (·.1)) qs ps.length).length/\(Qw (ps.map (·.1)) qs ((Qa ps.length).take (Qa ps.length).length)).2=U9 (ps.map (·.1)) qs/\Km (ps.map (·.1)) qs=decide (U9 (ps.map (·.1)) qs=qs.length):=by
 have d:U9 (ps.map (·.1)) qs=(Qw (ps.map (·.1)) qs (Qa ps.length)).2:=by unfold U9;rw [if_pos h,List.length_map,Yc]
 rw [List.take_length,d,Uq];refine⟨rfl,rfl,?_⟩;unfold Km;rw [if_pos h,List.length_map,Uq];have c:=Mi (LD:=ps.map (·.1)) (qs:=qs) (L:=Qa ps.length);by_cases b:(Qa ps.length).filter (Zo (ps.map (·.1)) qs)=[]
 ·rw [b,decide_eq_false (fun q=>(c.1 q) b)];rfl
 ·rw [decide_eq_true (c.2 b)];cases hq:(Qa ps.length).filter (Zo (ps.map (·.1)) qs) with
  | nil=>exact absurd hq b
  | cons a r=>rfl
theorem Qc5{ps:Qg}{qs:Q8}(h:Qo (ps.map (·.1)) (qs.map (·.1))=0) :
  (Z4 (ps.map (·.1)) qs ps.length=[]->Km (ps.map (·.1)) qs=false/\Vf (ps.map (·.1)) qs=[]) /\
  (∀ y r,Z4 (ps.map (·.1)) qs ps.length=y::r->Km (ps.map (·.1)) qs=true/\Vf (ps.map (·.1)) qs=y/\V0 (ps.map (·.1)) qs=y):=by
 unfold Km Vf;rw [if_pos h,if_pos h,List.length_map];refine⟨fun e=>by rw [e];exact⟨rfl,rfl⟩,fun y r e=>?_⟩;rw [e];refine⟨rfl,rfl,?_⟩;unfold V0;rw [if_pos h,List.length_map,Yc];rw [Uq] at e;exact Q39 e
def Qba(Z:Nat)(lv pv al bv gv:Value)(B:Bool)(bn:Int)(P:Nat->Nat)(Q:Nat->Int)(w2:World)(a:Act)(W:World):Prop:=∃(i:Nat),i<=Z/\a.defers=[]/\gS a [0,1,5,8,10,11,13,14,15,16]=(190,[lv,pv,al,.bool B,bv,.int .i64 bn,.int .i64 (P i:Nat),.int .i64 (Q i),gv,.int .i64 i])/\Ext w2 W
theorem Cy{w:World}{ps:Qg}{qs:Q8}{lo:Option Addr}{n lc:Nat}{n2:Option Addr}{m pc:Nat}(e8:Qz w (.slice lo n lc) ps) (U:ps.length=n) (d1:Z3 w (.slice n2 m pc) qs) (b2:qs.length=m) (c9:Tab w) :
  Calls Tryz.prog 13 #[.slice lo n lc,.slice n2 m pc] w fun e w'=>e=.returned (.bool true)/\Ext w w':=by
 have w4:m<=maxLen:=by rw [<-b2];exact d1.1.2.1
 unfold maxLen at w4;have u4:=Hn e8 U d1 b2 c9;have u5:=fun(V:World) (j:Ext w V)=>Hl V (c9.keep j id);have c3:=fun(V:World) (I:n<=4)=>Er (w:=V) I;have e4:=fun(V:World) (j:Ext w V)=>Fr (most:=1000) (e8.ext j) U (Qj d1 j) b2 (c9.keep j id);have G:=fun(V:World) (j:Ext w V)=>N6 (e8.ext j) U (Qj d1 j) b2 (c9.keep j id);have n0:=fun(V:World) (j:Ext w V)=>Q7w (e8.ext j) U (Qj d1 j) b2 (c9.keep j id);have Y:=fun(V:World) (j:Ext w V) (ol:List Nat) (yo:Option Addr) (yc:Nat) (hy:Rd V (.slice yo n yc) n 1 (Qd ol)) (hyl:ol.length=n) (l2:∀ x∈ol,x<n) (h4:n<=4)=>Q1n (e8.ext j) U hy hyl l2 oz (Qj d1 j) b2 (c9.keep j id);have D:=fun(V:World) (j:Ext w V) (x:List Nat) (yo:Option Addr) (yc:Nat) (hy:Rd V (.slice yo n yc) n 1 (Qd x)) (hyl:x.length=n)=>Nq (xs:=Xt x) (e8.ext j) U (by rw [S2];exact hy) (by unfold Xt;rw [List.length_map,hyl]) (Qj d1 j) b2 (c9.keep j id)
 have r0:W8 (ps.map (·.1)) (qs.map (·.1))->n<=4/\Qo (ps.map (·.1)) (qs.map (·.1))=0:=fun I=>by
  obtain⟨b1,_,w0⟩:=I;rw [List.length_map,U] at b1;exact⟨b1,w0⟩
 have y:Qo (ps.map (·.1)) (qs.map (·.1))=0->∀ x∈Qa n,Hk (ps.map (·.1)) (Xt x) qs=max (byI ps x qs) 0/\Ht (ps.map (·.1)) (Xt x) qs=decide (0<=byI ps x qs)/\Y5 (ps.map (·.1)) (Xt x) (qs.map (·.1))=0:=fun I x G=>by
  have b1:=Q9x I (x:=x) (by rw [U];exact G);exact⟨b1.1,b1.2,W4 I (by rw [List.length_map,U];exact G)⟩
 have m9:n<=4->Qo (ps.map (·.1)) (qs.map (·.1))=0->Uj (ps.map (·.1)) qs 1000=Z4 (ps.map (·.1)) qs n:=fun h4 p6=>by
  have b1:=Db (ps.map (·.1)) qs n h4;unfold Uj;rw [if_pos p6,List.length_map,U];exact List.take_of_length_le oz
 have A:Qo (ps.map (·.1)) (qs.map (·.1))=0->∀(i:Nat) (x:List Nat),(Qa n)[i]?=some x->Q5l (ps.map (·.1)) qs (Qa n) (Z4 (ps.map (·.1)) qs n) (V0 (ps.map (·.1)) qs) (U9 (ps.map (·.1)) qs) x i (V4 ps qs x) (byI ps x qs):=fun I i x G=>by
  subst U;obtain⟨r1,rfl⟩:=List.getElem?_eq_some_iff.1 G;exact Qbn I r1
 have d0:=fun(I:Qo (ps.map (·.1)) (qs.map (·.1))=0)=>Qcy I;have i6:=fun(I:Qo (ps.map (·.1)) (qs.map (·.1))=0)=>Qc5 I;have l2:=Xw n;have q0:=Dm n;have q7:=fun x=>Qal ps qs x;have q5:=fun x=>Qbr ps qs x;have t7:=Q6u (ps.map (·.1)) qs;have q4:=fun l=>H6 (ps.map (·.1)) qs l;rw [U] at d0 i6;rw [b2] at d0 t7;simp only [b2] at q7 q5 q4;obtain⟨g,t4⟩:=zE (Qa n);simp only [t4] at l2 q0 c3 y A d0;obtain⟨x4,t1⟩:=zE (Qo (ps.map (·.1)) (qs.map (·.1)));simp only [t1] at r0 y m9 A d0 i6 e4 G n0;obtain⟨K,t2⟩:=zE (Z4 (ps.map (·.1)) qs n);simp only [t2] at m9 A d0 i6;obtain⟨b0,c2⟩:=zE (Vf (ps.map (·.1)) qs);obtain⟨x3,c8⟩:=zE (Km (ps.map (·.1)) qs);obtain⟨Q,i3⟩:=zE (V0 (ps.map (·.1)) qs);obtain⟨X,n1⟩:=zE (U9 (ps.map (·.1)) qs);simp only [c2,c8] at G;simp only [c2,c8,i3] at i6;simp only [c8,n1] at d0;simp only [i3,n1] at n0 A;rw [n1] at t7;obtain⟨s1,o9,j0,n7,p0,n9,d5,d9⟩:=Zh8 u4 u5 c3 e4 G n0 Y D;obtain⟨o6,o4,n8,o8,o3,o7,e0,p1⟩:=Zh8 r0 y m9 A d0 i6 l2 q0;obtain⟨d7,d6,d4⟩:=Zh3 q7 q5 q4;clear u4 u5 c3 e4 G n0 Y D r0 y m9 A d0 i6 l2 q0 q7 q5 q4 e8 U d1 b2 c9 t4 t1 t2 c2 c8 i3 n1;go_enter Tryz.func13,Tryz.ntmps13;go_wp2_with fail;refine s1.out.mono ?_;rintro e u8 ⟨v1,rfl,u0,t0⟩;have j2:=Zh t0;have o5:=Zh u0;clear t0 s1 u0;cases v1 with
 | false=>
  clear j0 n7 p0 n9 d5 d9 o6 o4 n8 o8 o3 o7 e0 p1 d7 d6 d4 o5;go_wp2_with fail;refine(o9.out u8 j2.out).mono ?_;rintro e n3 ⟨rfl,c⟩;have j3:=Zh (j2.out.trans c);clear c;go_wp2;go_ret;exact⟨rfl,j3.out⟩
 | true=>
  obtain⟨i7,w1⟩:=o6.out (o5.out uz);subst w1;have t6:=p1.out i7;have e4:=n7.out u8 j2.out;rw [n8.out i7 uz] at e4;have y:=o4.out uz;have A:=o8.out uz;obtain⟨s5,s6,s7⟩:=o3.out uz;obtain⟨t8,t9⟩:=o7.out uz;obtain⟨r8,g4,g5,g1,g2,g3,j8,j9⟩:=Zh8 e4 y A s5 s6 s7 t8 t9;clear e4 y A s5 s6 s7 t8 t9 o5 o6 p1 n7 n8 o4 o8 o3 o7;go_wp2_with fail;refine r8.out.mono ?_;rintro e n3 ⟨m7,i0,rfl,c4,c⟩;obtain⟨N,q1⟩:=zE K.length;have g0:=Zh q1;simp only [q1] at c4 ⊢;have j3:=Zh (j2.out.trans c);have s2:Hid (∀ b,Ext n3 b->Za b (.slice m7 N i0) K):=Zh (fun b f=>Za.ext c4 f);clear c4 c r8 j2 q1;go_wp2_with fail;refine(p0.out n3 j3.out).mono ?_;rintro e n4 ⟨n6,n5,rfl,l5,c⟩;have o1:=Zh (j3.out.trans c);have s9:Ext n3 n4:=c;have s3:Hid (∀ b,Ext n4 b->Rd b (.slice n6 b0.length n5) b0.length 1 (Qd b0)):=Zh (fun b f=>l5.ext f);clear l5 c p0 j3;go_wp2_with fail;refine(n9.out n4 o1.out).mono ?_;rintro e J ⟨b7,b6,rfl,l5,c⟩;have r9:=Zh (o1.out.trans c);have p7:Ext n4 J:=c;have k2:Hid (∀ b,Ext J b->Rd b (.slice b7 Q.length b6) Q.length 1 (Qd Q)):=Zh (fun b f=>l5.ext f);have m6:Hid (∀ b,Ext J b->Rd b (.slice n6 b0.length n5) b0.length 1 (Qd b0)):=Zh (fun b f=>s3.out b (p7.trans f));have k1:Hid (∀ b,Ext J b->Za b (.slice m7 N i0) K):=Zh (fun b f=>s2.out b (s9.trans (p7.trans f)));clear l5 c n9 o1 s3 s2 s9 p7;by_cases k7:K=[]
  ·obtain⟨c8,c2⟩:=j8.out k7;subst c8 c2;obtain rfl:N=0:=by rw [<-g0.out,k7];rfl
   have j4:=r9;have i2:Ext J J:=Q0.refl _ _;clear k7 m6;go_wp2_with fail;have c3:=j0.out J i7;refine c3.mono ?_;rintro e a3 ⟨_,rfl,⟨m2,m1,rfl,c4⟩,c⟩;have b4:=Zh (j4.out.trans c);have e2:Ext J a3:=i2.trans c;have k3:Hid (∀ b,Ext a3 b->Za b (.slice m2 g.length m1) g):=Zh (fun b f=>Za.ext c4 f);have g9:Hid (∀ b,Ext a3 b->Rd b (.slice b7 Q.length b6) Q.length 1 (Qd Q)):=Zh (fun b f=>k2.out b (e2.trans f));have m5:Hid (∀ b,Ext a3 b->Za b (.slice m7 0 i0) K):=Zh (fun b f=>k1.out b (e2.trans f));clear c4 c c3 j0 j4 i2 e2 k2 k1;obtain⟨R,e3⟩:=zE g.length;obtain⟨i1,e5⟩:=zE Q.length;have e1:=Zh e3;have d3:=Zh e5;rw [e3] at t6 ⊢;simp only [e5];clear e3 e5;go_wp2;refine wp_loop (Qba R (.slice lo n lc) (.slice n2 m pc) (.slice m7 0 i0) (.slice b7 i1 b6) (.slice m2 R m1) false X (fun i=>((g.take i).filter (Zo (ps.map (·.1)) qs)).length) (fun i=>(Qw (ps.map (·.1)) qs (g.take i)).2) a3) (fun a _=>((R:Int) - intOf (a.tmps.getD 16 undef)).toNat) ?_ ?_
   ·exact⟨0,by omega,rfl,rfl,Q0.refl _ _⟩
   rintro⟨w9,_⟩ b5 ⟨i,r1,q8,f0,j⟩;dsimp only at f0;subst q8;obtain⟨x0,rfl⟩:=Qq f0;clear f0;have o:=Zh j;clear j;by_cases l1:i<R;case neg=>
    obtain rfl:i=R:=by omega
    have b1:¬ (i:Int)<(i:Int):=by omega
    have T:=g1.out;have q:=g2.out;have k6:=g3.out;rw [e1.out] at T q;rw [T,g0.out,q];have w2:((X:Int) ==(m:Int))=false:=by rw [k6];by_cases I:X=(m:Int) <;> simp [I]
    clear T q k6 g1 g2 g3 g5 g4 d5 d9 e0 d7 d6 d4 k3 g9 m5 j8 j9;go_wp2_with fail;refine(o9.out b5 (b4.out.trans o.out)).mono ?_;rintro e m3 ⟨rfl,c⟩;have o2:=Zh ((b4.out.trans o.out).trans c);clear c;go_wp2;go_ret;exact⟨rfl,o2.out⟩
   have b1:(i:Int)<(R:Int):=by omega
   have p6:(0:Int)<=(i:Int):=by omega
   have e7:i<g.length:=by rw [e1.out];exact l1
   obtain⟨x2,f7,l6⟩:=k3.out b5 o.out;obtain⟨b9,b8,T,q⟩:=l6 i e7;rw [e1.out] at f7;obtain⟨v9,w8,v4,l4,_,u⟩:=Xk f7 l1;simp only [zV] at l4;obtain⟨rfl,r6,rfl⟩:=l4;rw [T] at u;have f9:g[i]∈g:=List.getElem_mem e7;obtain⟨W,f8⟩:=e0.out _ f9;have A:=g5.out i _ (List.getElem?_eq_getElem e7);have y:=g4.out _ f9;obtain⟨x,G⟩:=zE (g[i]);rw [G] at u q W A y;simp only [G] at f8;rw [W] at u q;have Y:=d5.out b5 (b4.out.trans o.out) x b9 b8 q W f8 i7;have D:=fun(V:World) (hV:Ext b5 V)=>d9.out V ((b4.out.trans o.out).trans hV) x b9 b8 (q.ext hV) W;simp only [y.1,y.2.1,y.2.2] at D;have q6:=d7.out x;have q2:=d6.out x;have q3:=d4.out (g.take i);obtain⟨s,l0⟩:=zE (V4 ps qs x);obtain⟨r,e6⟩:=zE (byI ps x qs);rw [l0] at Y A q6;rw [e6] at Y A q2;simp only [e6] at D;obtain⟨f1,f2,f3,f4,f5⟩:=A;obtain⟨H,O⟩:=zE (((g.take i).filter (Zo (ps.map (·.1)) qs)).length);obtain⟨v0,c1⟩:=zE (((g.take (i+1)).filter (Zo (ps.map (·.1)) qs)).length);obtain⟨b3,c5⟩:=zE ((Qw (ps.map (·.1)) qs (g.take i)).2);obtain⟨w7,e9⟩:=zE ((Qw (ps.map (·.1)) qs (g.take (i+1))).2);rw [O,c1] at f1;rw [O,c1] at f2;rw [c5,e9] at f3 f4;rw [c5] at f5 q3;rw [O,c5];have w3:H<=i:=by rw [<-O];exact Nat.le_trans (List.length_filter_le _ _) (by rw [List.length_take];omega)
   obtain⟨g7,g8,a7,a8,a9,a4,a5,j1⟩:=Zh8 f1 f2 f3 f4 f5 c1 e9 Y;obtain⟨j6,d8,k0,c6⟩:=Zh4 D u q W;clear f1 f2 f3 f4 f5 O c1 c5 e9 Y D G f9 f8 y l0 e6 T q r6 f7 l6 W d5 d9 g5 g4 e0 d7 d6 d4 g1 g2 g3 j8 j9;go_wp2_with fail;refine j1.out.mono ?_;rintro e p2 ⟨rfl,c⟩;have u:=c.cell_some d8.out id;have D:=j6.out p2 c;have j7:=Zh D;have a6:=Zh c;clear c D j1 j6;go_wp2_with fail;refine j7.out.mono ?_;rintro e p ⟨rfl,c⟩;have B:=Zh (a6.out.trans c);have u:=(a6.out.trans c).cell_some d8.out id;have m4:=Zh u;clear c j7 a6 d8;by_cases q9:r<0;case pos=>
    have p3:¬ r>=0:=by omega
    have p4:decide (0<=r)=false:=decide_eq_false oz;have p5:max r 0=0:=by omega
    obtain⟨k9,c0⟩:=g7.out q9;have i4:H<K.length:=(List.getElem?_eq_some_iff.1 k9).1;rw [g0.out] at i4;exact absurd i4 (Nat.not_lt_zero _)
   have p3:r>=0:=by omega
   have p4:decide (0<=r)=true:=decide_eq_true oz;have p5:max r 0=r:=by omega
   have c0:=g8.out oz;have a0:=Zh c0;clear c0 g7 g8;by_cases P:b3<(s:Int)
   ·have l8:(s:Int) > b3:=P;have E:=a7.out P;have t:=a9.out P;have M:=Zh E;have Z:=Zh t;clear E t a7 a8 a9;by_cases a2:(s:Int)=X
    ·have t:=Z.out a2;subst a2;have L:=Xe (.slice b7 i1 b6) (.slice b9 n b8) x x p (by have:=g9.out p (o.out.trans B.out);rw [d3.out,t] at this;have c7:=d3.out;rw [t] at c7;rw [c7];exact this) (by rw [c6.out];exact k0.out.ext B.out);rw [decide_eq_true rfl] at L;have a1:=Zh L;clear L t Z;go_wp2_with fail;refine a1.out.mono ?_;rintro e k5 ⟨rfl,l9,F⟩;have j5:=Zh ((o.out.trans B.out).trans (show Ext p k5 by rw [F];exact(Q0.refl _ p).drewN _));clear F a1 u;go_wp2;exact⟨⟨i+1,by omega,tz,(Prod.ext rfl (lE rfl (lE rfl (lE rfl (lE rfl (lE rfl (lE rfl (lE (by dsimp only;rw [a4.out,a0.out];rfl) (lE (by dsimp only;rw [a5.out,M.out];rfl) rfl))))))))),j5.out⟩,mz⟩
    ·have u6:((s:Int) == X)=false:=by rw [beq_eq_false_iff_ne];exact a2
     clear Z;go_wp2;exact⟨⟨i+1,by omega,tz,(Prod.ext rfl (lE rfl (lE rfl (lE rfl (lE rfl (lE rfl (lE rfl (lE (by dsimp only;rw [a4.out,a0.out];rfl) (lE (by dsimp only;rw [a5.out,M.out];rfl) rfl))))))))),o.out.trans B.out⟩,mz⟩
   ·have l8:¬ (s:Int) > b3:=P;have E:=a8.out oz;have M:=Zh E;clear E a7 a8 a9;go_wp2;exact⟨⟨i+1,by omega,tz,(Prod.ext rfl (lE rfl (lE rfl (lE rfl (lE rfl (lE rfl (lE rfl (lE (by dsimp only;rw [a4.out,a0.out];rfl) (lE (by dsimp only;rw [a5.out,M.out];rfl) rfl))))))))),o.out.trans B.out⟩,mz⟩
  ·obtain⟨i9,m0,m8⟩:∃ i9 m0,K=i9::m0:=by cases K with | nil=>exact absurd rfl k7 | cons a m0=>exact⟨a,m0,rfl⟩
   obtain⟨c8,c2,i3⟩:=j9.out i9 m0 m8;subst c8;have u2:0<K.length:=by rw [m8];simp
   have p9:K[0]=i9:=by simp [m8]
   have u1:=g0.out;have v8:(N:Int) > 0:=by omega
   have u3:0<N:=by omega
   obtain⟨x1,f6,l7⟩:=k1.out J (Q0.refl _ _);obtain⟨r5,r4,i8,d2⟩:=l7 0 u2;rw [u1] at f6;obtain⟨s8,u7,x5,l3,_,i5⟩:=Xk f6 u3;simp only [zV] at l3;obtain⟨rfl,r7,rfl⟩:=l3;rw [i8,p9,Nat.add_zero] at i5;rw [p9] at d2;have r2:=Xe (.slice n6 b0.length n5) (.slice r5 i9.length r4) b0 i9 J (m6.out J (Q0.refl _ _)) d2;rw [decide_eq_true c2] at r2;have r3:=fun(b:World) (f:Ext J b)=>Xe (.slice n6 b0.length n5) (.slice b7 Q.length b6) b0 Q b (m6.out b f) (k2.out b f);simp only [decide_eq_true (c2.trans i3.symm)] at r3;have s0:=Zh r2;have a6:=Zh r3;clear r2 r3 k7 m8 c2 i3 p9 i8 d2 f6 l7 r7 m6;have v7:(0:Int)<(N:Int):=by omega
   clear u1 u3 u2;go_wp2_with fail;refine s0.out.mono ?_;rintro e m3 ⟨rfl,l9,F⟩;have p8:Ext J m3:=by rw [F];exact(Q0.refl _ J).drewN _
   clear F s0 i5;go_wp2_with fail;refine(a6.out m3 p8).mono ?_;rintro e u9 ⟨rfl,l9,F⟩;have i2:Ext J u9:=p8.trans (by rw [F];exact(Q0.refl _ m3).drewN _);have j4:=Zh (r9.out.trans i2);clear F a6 p8 v8 v7;go_wp2_with fail;have c3:=j0.out u9 i7;refine c3.mono ?_;rintro e a3 ⟨_,rfl,⟨m2,m1,rfl,c4⟩,c⟩;have b4:=Zh (j4.out.trans c);have e2:Ext J a3:=i2.trans c;have k3:Hid (∀ b,Ext a3 b->Za b (.slice m2 g.length m1) g):=Zh (fun b f=>Za.ext c4 f);have g9:Hid (∀ b,Ext a3 b->Rd b (.slice b7 Q.length b6) Q.length 1 (Qd Q)):=Zh (fun b f=>k2.out b (e2.trans f));have m5:Hid (∀ b,Ext a3 b->Za b (.slice (some ⟨s8,u7,none⟩) N i0) K):=Zh (fun b f=>k1.out b (e2.trans f));clear c4 c c3 j0 j4 i2 e2 k2 k1;obtain⟨R,e3⟩:=zE g.length;obtain⟨i1,e5⟩:=zE Q.length;have e1:=Zh e3;have d3:=Zh e5;rw [e3] at t6 ⊢;simp only [e5];clear e3 e5;go_wp2;refine wp_loop (Qba R (.slice lo n lc) (.slice n2 m pc) (.slice (some ⟨s8,u7,none⟩) N i0) (.slice b7 i1 b6) (.slice m2 R m1) true X (fun i=>((g.take i).filter (Zo (ps.map (·.1)) qs)).length) (fun i=>(Qw (ps.map (·.1)) qs (g.take i)).2) a3) (fun a _=>((R:Int) - intOf (a.tmps.getD 16 undef)).toNat) ?_ ?_
   ·exact⟨0,by omega,rfl,rfl,Q0.refl _ _⟩
   rintro⟨w9,_⟩ b5 ⟨i,r1,q8,f0,j⟩;dsimp only at f0;subst q8;obtain⟨x0,rfl⟩:=Qq f0;clear f0;have o:=Zh j;clear j;by_cases l1:i<R;case neg=>
    obtain rfl:i=R:=by omega
    have b1:¬ (i:Int)<(i:Int):=by omega
    have T:=g1.out;have q:=g2.out;have k6:=g3.out;rw [e1.out] at T q;rw [T,g0.out,q];have w2:((X:Int) ==(m:Int))=true:=by rw [k6];by_cases I:X=(m:Int) <;> simp [I]
    clear T q k6 g1 g2 g3 g5 g4 d5 d9 e0 d7 d6 d4 k3 g9 m5 j8 j9;go_wp2_with fail;refine(o9.out b5 (b4.out.trans o.out)).mono ?_;rintro e m3 ⟨rfl,c⟩;have o2:=Zh ((b4.out.trans o.out).trans c);clear c;go_wp2;go_ret;exact⟨rfl,o2.out⟩
   have b1:(i:Int)<(R:Int):=by omega
   have p6:(0:Int)<=(i:Int):=by omega
   have e7:i<g.length:=by rw [e1.out];exact l1
   obtain⟨x2,f7,l6⟩:=k3.out b5 o.out;obtain⟨b9,b8,T,q⟩:=l6 i e7;rw [e1.out] at f7;obtain⟨v9,w8,v4,l4,_,u⟩:=Xk f7 l1;simp only [zV] at l4;obtain⟨rfl,r6,rfl⟩:=l4;rw [T] at u;have f9:g[i]∈g:=List.getElem_mem e7;obtain⟨W,f8⟩:=e0.out _ f9;have A:=g5.out i _ (List.getElem?_eq_getElem e7);have y:=g4.out _ f9;obtain⟨x,G⟩:=zE (g[i]);rw [G] at u q W A y;simp only [G] at f8;rw [W] at u q;have Y:=d5.out b5 (b4.out.trans o.out) x b9 b8 q W f8 i7;have D:=fun(V:World) (hV:Ext b5 V)=>d9.out V ((b4.out.trans o.out).trans hV) x b9 b8 (q.ext hV) W;simp only [y.1,y.2.1,y.2.2] at D;have q6:=d7.out x;have q2:=d6.out x;have q3:=d4.out (g.take i);obtain⟨s,l0⟩:=zE (V4 ps qs x);obtain⟨r,e6⟩:=zE (byI ps x qs);rw [l0] at Y A q6;rw [e6] at Y A q2;simp only [e6] at D;obtain⟨f1,f2,f3,f4,f5⟩:=A;obtain⟨H,O⟩:=zE (((g.take i).filter (Zo (ps.map (·.1)) qs)).length);obtain⟨v0,c1⟩:=zE (((g.take (i+1)).filter (Zo (ps.map (·.1)) qs)).length);obtain⟨b3,c5⟩:=zE ((Qw (ps.map (·.1)) qs (g.take i)).2);obtain⟨w7,e9⟩:=zE ((Qw (ps.map (·.1)) qs (g.take (i+1))).2);rw [O,c1] at f1;rw [O,c1] at f2;rw [c5,e9] at f3 f4;rw [c5] at f5 q3;rw [O,c5];have w3:H<=i:=by rw [<-O];exact Nat.le_trans (List.length_filter_le _ _) (by rw [List.length_take];omega)
   obtain⟨g7,g8,a7,a8,a9,a4,a5,j1⟩:=Zh8 f1 f2 f3 f4 f5 c1 e9 Y;obtain⟨j6,d8,k0,c6⟩:=Zh4 D u q W;clear f1 f2 f3 f4 f5 O c1 c5 e9 Y D G f9 f8 y l0 e6 T q r6 f7 l6 W d5 d9 g5 g4 e0 d7 d6 d4 g1 g2 g3 j8 j9;go_wp2_with fail;refine j1.out.mono ?_;rintro e p2 ⟨rfl,c⟩;have u:=c.cell_some d8.out id;have D:=j6.out p2 c;have j7:=Zh D;have a6:=Zh c;clear c D j1 j6;go_wp2_with fail;refine j7.out.mono ?_;rintro e p ⟨rfl,c⟩;have B:=Zh (a6.out.trans c);have u:=(a6.out.trans c).cell_some d8.out id;have m4:=Zh u;clear c j7 a6 d8;by_cases q9:r<0;case pos=>
    have p3:¬ r>=0:=by omega
    have p4:decide (0<=r)=false:=decide_eq_false oz;have p5:max r 0=0:=by omega
    obtain⟨k9,c0⟩:=g7.out q9;have i4:H<K.length:=(List.getElem?_eq_some_iff.1 k9).1;have t3:K[H]=x:=by have:=(List.getElem?_eq_some_iff.1 k9).2;exact this
    obtain⟨x1,f6,l7⟩:=m5.out p (o.out.trans B.out);obtain⟨r5,r4,i8,d2⟩:=l7 H i4;rw [t3] at i8 d2;rw [g0.out] at f6 i4;obtain⟨y2,y3,x6,l3,_,i5⟩:=Xk f6 i4;simp only [zV] at l3;obtain⟨w5,r7,w6⟩:=l3;cases w5;subst w6;rw [i8,c6.out] at i5;rw [c6.out] at d2;have v5:¬ (H:Int)>=(N:Int):=by omega
    have v6:¬ (N:Int)<=(H:Int):=by omega
    have x7:decide ((H:Int)>=(N:Int))=false:=decide_eq_false v5;have x8:decide ((N:Int)<=(H:Int))=false:=decide_eq_false v6;have x9:decide (N<=H)=false:=decide_eq_false oz;have y0:(H:Int)<(N:Int):=by omega
    have y1:(0:Int)<=(H:Int):=by omega
    have L:=fun(b:World) (f:Ext p b)=>Xe (.slice r5 n r4) (.slice b9 n b8) x x b (by rw [c6.out];exact d2.ext f) (by rw [c6.out];exact k0.out.ext (B.out.trans f));simp only [decide_eq_true] at L;obtain⟨a1,o0,a0⟩:=Zh3 L i5 c0;clear L i5 k9 t3 i8 d2 r7 f6 l7 c0 g7 g8 u;go_upto_region 18 with (fail)
    have C:Ext p p.drew:=(Q0.refl _ p).drew;refine Qv (S:=fun b=>Ext p b) [] kz C ?_;intro _;obtain⟨s4,t5⟩:=zE p.drew;rw [t5] at C ⊢;clear t5;refine tE 0 136 C ?_;refine tE 1 137 C ?_;refine tE 2 138 C ?_;refine tE 3 139 C ?_;refine tE 4 140 C ?_;refine tE 5 141 C ?_;refine tE 6 142 C ?_;refine tE 7 143 C ?_;refine tkE (i:=8) (d:=144) (v:=?_) rfl (Or.inl ⟨by rfl,?_⟩) C ?_;rotate_left
    ·intro b f;have v2:=(show Ext p b from f).cell_some o0.out id;have v3:=(show Ext p b from f).cell_some m4.out id;go_simp;try with_reducible rfl
    try simp only [Act.put,pq]
    refine tE 9 145 C ?_;refine tE 10 146 C ?_;refine tE 11 147 C ?_;refine tkE (i:=12) (d:=148) (v:=?_) rfl (Or.inl ⟨by rfl,?_⟩) C ?_;rotate_left
    ·intro b f;have v2:=(show Ext p b from f).cell_some o0.out id;have v3:=(show Ext p b from f).cell_some m4.out id;go_simp;try with_reducible rfl
    try simp only [Act.put,pq]
    refine rE [13] ?_;refine Q1.cons rfl (fun H O=>?_) Q1.nil;refine iw rfl ?_;go_simp;refine(a1.out s4 C).mono ?_;rintro e k4 ⟨rfl,l9,F⟩;have k8:Ext p k4:=by rw [F];exact C.trans ((Q0.refl _ s4).drewN _)
    clear F;refine O _ _ k8 (fun _=>?_);clear O H;try simp only [Act.put,pq]
    refine tE 14 150 k8 ?_;refine tE 15 151 k8 ?_;refine Ql kz ?_ _;have g6:=Zh k8;clear k8 C a1 o0;have u:=g6.out.cell_some m4.out id;by_cases P:b3<(s:Int)
    ·have l8:(s:Int) > b3:=P;have E:=a7.out P;have t:=a9.out P;have M:=Zh E;have Z:=Zh t;clear E t a7 a8 a9;by_cases a2:(s:Int)=X
     ·have t:=Z.out a2;subst a2;have L:=Xe (.slice b7 i1 b6) (.slice b9 n b8) x x k4 (by have:=g9.out k4 (o.out.trans (B.out.trans g6.out));rw [d3.out,t] at this;have c7:=d3.out;rw [t] at c7;rw [c7];exact this) (by rw [c6.out];exact k0.out.ext (B.out.trans g6.out));rw [decide_eq_true rfl] at L;have a1:=Zh L;clear L t Z;go_wp2_with fail;refine a1.out.mono ?_;rintro e k5 ⟨rfl,l9,F⟩;have j5:=Zh ((o.out.trans (B.out.trans g6.out)).trans (show Ext k4 k5 by rw [F];exact(Q0.refl _ k4).drewN _));clear F a1 u;go_wp2;exact⟨⟨i+1,by omega,tz,(Prod.ext rfl (lE rfl (lE rfl (lE rfl (lE rfl (lE rfl (lE rfl (lE (by dsimp only;rw [a4.out,a0.out];rfl) (lE (by dsimp only;rw [a5.out,M.out];rfl) rfl))))))))),j5.out⟩,mz⟩
     ·have u6:((s:Int) == X)=false:=by rw [beq_eq_false_iff_ne];exact a2
      clear Z;go_wp2;exact⟨⟨i+1,by omega,tz,(Prod.ext rfl (lE rfl (lE rfl (lE rfl (lE rfl (lE rfl (lE rfl (lE (by dsimp only;rw [a4.out,a0.out];rfl) (lE (by dsimp only;rw [a5.out,M.out];rfl) rfl))))))))),o.out.trans (B.out.trans g6.out)⟩,mz⟩
    ·have l8:¬ (s:Int) > b3:=P;have E:=a8.out oz;have M:=Zh E;clear E a7 a8 a9;go_wp2;exact⟨⟨i+1,by omega,tz,(Prod.ext rfl (lE rfl (lE rfl (lE rfl (lE rfl (lE rfl (lE rfl (lE (by dsimp only;rw [a4.out,a0.out];rfl) (lE (by dsimp only;rw [a5.out,M.out];rfl) rfl))))))))),o.out.trans (B.out.trans g6.out)⟩,mz⟩
   have p3:r>=0:=by omega
   have p4:decide (0<=r)=true:=decide_eq_true oz;have p5:max r 0=r:=by omega
   have c0:=g8.out oz;have a0:=Zh c0;clear c0 g7 g8;by_cases P:b3<(s:Int)
   ·have l8:(s:Int) > b3:=P;have E:=a7.out P;have t:=a9.out P;have M:=Zh E;have Z:=Zh t;clear E t a7 a8 a9;by_cases a2:(s:Int)=X
    ·have t:=Z.out a2;subst a2;have L:=Xe (.slice b7 i1 b6) (.slice b9 n b8) x x p (by have:=g9.out p (o.out.trans B.out);rw [d3.out,t] at this;have c7:=d3.out;rw [t] at c7;rw [c7];exact this) (by rw [c6.out];exact k0.out.ext B.out);rw [decide_eq_true rfl] at L;have a1:=Zh L;clear L t Z;go_wp2_with fail;refine a1.out.mono ?_;rintro e k5 ⟨rfl,l9,F⟩;have j5:=Zh ((o.out.trans B.out).trans (show Ext p k5 by rw [F];exact(Q0.refl _ p).drewN _));clear F a1 u;go_wp2;exact⟨⟨i+1,by omega,tz,(Prod.ext rfl (lE rfl (lE rfl (lE rfl (lE rfl (lE rfl (lE rfl (lE (by dsimp only;rw [a4.out,a0.out];rfl) (lE (by dsimp only;rw [a5.out,M.out];rfl) rfl))))))))),j5.out⟩,mz⟩
    ·have u6:((s:Int) == X)=false:=by rw [beq_eq_false_iff_ne];exact a2
     clear Z;go_wp2;exact⟨⟨i+1,by omega,tz,(Prod.ext rfl (lE rfl (lE rfl (lE rfl (lE rfl (lE rfl (lE rfl (lE (by dsimp only;rw [a4.out,a0.out];rfl) (lE (by dsimp only;rw [a5.out,M.out];rfl) rfl))))))))),o.out.trans B.out⟩,mz⟩
   ·have l8:¬ (s:Int) > b3:=P;have E:=a8.out oz;have M:=Zh E;clear E a7 a8 a9;go_wp2;exact⟨⟨i+1,by omega,tz,(Prod.ext rfl (lE rfl (lE rfl (lE rfl (lE rfl (lE rfl (lE rfl (lE (by dsimp only;rw [a4.out,a0.out];rfl) (lE (by dsimp only;rw [a5.out,M.out];rfl) rfl))))))))),o.out.trans B.out⟩,mz⟩
end Go.Proofs.YtfdlhlghcbeblaaGreatDoor
