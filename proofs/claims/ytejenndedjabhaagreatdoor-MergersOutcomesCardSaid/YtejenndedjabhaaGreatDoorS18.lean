/- ablautref08.Hit (printed by genrefhit.py). -/
import Derived.Test.YtejenndedjabhaaGreatDoorS13
import Derived.Test.YtejenndedjabhaaGreatDoorS17
import Derived.Test.YtejenndedjabhaaGreatDoorS14
set_option maxRecDepth 100000
set_option maxHeartbeats 16000000
namespace Go.Proofs.YtejenndedjabhaaGreatDoor
open Go.RowKit Go.Ab
attribute [local go_sem] Oper.semAt_some Zm Qv
theorem Rr{w:World}{cs:List Value}{l:Q7}{vo:Option Addr}{vn vc:Nat}{ws:Wd}(f9:Zq w l cs)(T:Q4 w (.slice vo vn vc) ws) (R:ws.length=vn) (b:Nat) (k4:b<=ws.length+1) (g3:l.ifs.length+ws.length<=100000) :
  Calls Tryz.prog 192 #[.agg cs.toArray,.slice vo vn vc,.int .i64 b] w fun e w'=>e=.returned (.bool (Y1 l ws b))/\Ext w w':=by
 rw [R] at k4 g3;obtain⟨g7,c9,d7,d1,d3,a6,a9,d5,a4,b2,d0,d8,d2,d4,a7,b0,d6,a5,b3,g5,f,U,g9,e8,g8,g6,rfl,j2,e5,e6,e2,k1,j9,j6,j7,u,j8,j5,m8,i0,W,i1,m9⟩:=Zu f9;rw [u.out] at g3
 have Z:Hid (∀ g,Ext w g->Calls Tryz.prog 202 #[.agg #[.int .i64 c9,.int .u32 (d7:Int),.int .u32 (d1:Int),.bool d3,.int .i64 a6,.int .i64 a9,.slice d5 a4 b2],.slice vo vn vc,.int .i64 b] g fun e w'=>∃ E,e=.returned (.tuple #[E,.int .i64 (X0 l.left ws b)])/\w'.ownsRow g.heap.size 3 1 E (Vd l.left ws b).length (Y4 (Vd l.left ws b))/\Ext g w'):=
  Zh fun g hE=>Ew (e5.out.ext hE) (T.ext hE) _
 have a1:Hid (∀ g,Ext w g->Calls Tryz.prog 203 #[.agg #[.int .i64 d0,.int .u32 (d8:Int),.int .u32 (d2:Int),.bool d4,.int .i64 a7,.int .i64 b0,.slice d6 a5 b3],.slice vo vn vc,.int .i64 ((b:Int)+(f:Int))] g fun e w'=>∃ E,e=.returned (.tuple #[E,.int .i64 (X0 l.right ws ((b:Int)+(f:Int)))])/\w'.ownsRow g.heap.size 3 1 E (V4 l.right ws ((b:Int)+(f:Int))).length (Y4 (V4 l.right ws ((b:Int)+(f:Int))))/\Ext g w'):=
  Zh fun g hE=>Q3z (e6.out.ext hE) (T.ext hE) _
 have e7:=Zh T;have e4:=Zh R;have c3:=fun(m:Y1 l ws b=true)=>V6 m;rw [u.out,R] at c3;have f4:=fun(d:Nat) (f8:d<l.ifs.length) (m:Jk (ws.getD (b+d) (0,0)) (l.ifs.getD d (0,0))=false)=>Q0x f8 m;have I:=fun(J:b+l.ifs.length<=ws.length) (m:∀ d,d<l.ifs.length->Jk (ws.getD (b+d) (0,0)) (l.ifs.getD d (0,0))=true)=>Q51 (l:=l) (ws:=ws) J m;obtain⟨j3,i8,i6⟩:=Zh3 c3 f4 I;have i9:Hid (De l ws b=(!(Vd l.left ws (b:Int)).isEmpty && !(V4 l.right ws ((b:Int)+(f:Int))).isEmpty)):=Zh (by unfold De;rw [u.out,Int.natCast_add]);clear f9 T R j2 e5 e6 j9 j6 j7 j5 k1 j8 c3 f4 I;go_enter Tryz.func192,Tryz.ntmps192;go_upto_region 1 with (fail)
 obtain⟨d9,t⟩:=zE (w.alloc (.cells #[.string g7,.int .i64 c9,.int .u32 (d7:Int),.int .u32 (d1:Int),.bool d3,.int .i64 a6,.int .i64 a9,.slice d5 a4 b2,.int .i64 d0,.int .u32 (d8:Int),.int .u32 (d2:Int),.bool d4,.int .i64 a7,.int .i64 b0,.slice d6 a5 b3,.slice g5 f U,.slice g9 e8 g8,.int .i64 g6] 50));have f1:Ext w d9:=by rw [<-t];exact(Q0.refl _ w).alloc _
 have c2:d9.heap[w.heap.size]?=some (.cells #[.string g7,.int .i64 c9,.int .u32 (d7:Int),.int .u32 (d1:Int),.bool d3,.int .i64 a6,.int .i64 a9,.slice d5 a4 b2,.int .i64 d0,.int .u32 (d8:Int),.int .u32 (d2:Int),.bool d4,.int .i64 a7,.int .i64 b0,.slice d6 a5 b3,.slice g5 f U,.slice g9 e8 g8,.int .i64 g6] 50 (0,0)):=by rw [<-t];exact Q3 rfl
 rw [t];obtain⟨Y,f0⟩:=zE w.heap.size;rw [f0] at c2 ⊢;have e3:=Zh c2;have z:=fun d=>cell_of_row _ _ d _ _ _ e3.out;clear t f0 c2;have l7:¬ (b:Int)<0:=by omega
 by_cases m3:vn<b+f
 ·have e9:(vn:Int)<(b:Int)+(f:Int):=by omega
  have f7:Y1 l ws b=false:=by
   cases hh:Y1 l ws b with
   | false=>rfl
   | true=>exact absurd (j3.out hh) oz
  have a2:=Zh f7;clear f7;go_wp2;go_ret;exact⟨by rw [a2.out];rfl,f1⟩
 have e9:¬ (vn:Int)<(b:Int)+(f:Int):=by omega
 go_wp2;clear z
 refine wp_loop (fun a g=>∃(d:Nat),d<=f/\a.defers=[]/\gS a [1,2,3,7,8]=(70,[.slice vo vn vc,.int .i64 b,.pointer (some ⟨Y,0,none⟩),.int .i64 f,.int .i64 d])/\(∀ k,k<d->Jk (ws.getD (b+k) (0,0)) (l.ifs.getD k (0,0))=true)/\Ext d9 g)
  (fun a _=>f - (intOf (a.tmps.getD 8 undef)).toNat) ?_ ?_
 ·exact⟨0,by omega,rfl,rfl,fun k J=>absurd J oz,Q0.refl _ _⟩
 rintro⟨X,_⟩ g ⟨d,f8,k7,g4,I,b6⟩;subst k7;obtain⟨E,rfl⟩:=Qc g4;clear g4;have e0:=Zh I;clear I;have C:=b6.keep e3.out;have H:=f1.trans b6;by_cases k8:d<f;case neg=>
  obtain rfl:f=d:=by omega
  have e9:¬ (f:Int)<(f:Int):=by omega
  have z:=fun d=>cell_of_row _ _ d _ _ _ C;have F:Hid (Y1 l ws b=(!(Vd l.left ws (b:Int)).isEmpty && !(V4 l.right ws ((b:Int)+(f:Int))).isEmpty)):=Zh (by rw [i6.out (by rw [u.out,e4.out];omega) (by rw [u.out];exact e0.out),i9.out]);have j4:=Zh C;clear C;obtain⟨b1,f3⟩:=zE (Vd l.left ws (b:Int));obtain⟨b5,f6⟩:=zE (V4 l.right ws ((b:Int)+(f:Int)));rw [f3] at Z F;rw [f6] at a1 F;clear f3 f6;go_wp2_with fail;refine(Z.out g H).mono ?_;rintro e l2 ⟨k9,rfl,g1,n⟩;obtain⟨m6,l5,rfl,k5⟩:∃ p c,k9=.slice p b1.length c/\b1.length<=maxLen:=by
   obtain⟨i0,W,a8,b4,o,i1⟩:=Rd.of_own g1;exact⟨a8,b4,o,W⟩
  unfold maxLen at k5;clear g1;have f2:=H.trans n;have j1:=Zh (n.keep j4.out);have z:=fun d=>cell_of_row _ _ d _ _ _ j1.out;clear n;go_wp2_with fail;refine(a1.out l2 f2).mono ?_;rintro e n0 ⟨l0,rfl,g2,n⟩;obtain⟨m7,l6,rfl,k6⟩:∃ p c,l0=.slice p b5.length c/\b5.length<=maxLen:=by
   obtain⟨i0,W,a8,b4,o,i1⟩:=Rd.of_own g2;exact⟨a8,b4,o,W⟩
  unfold maxLen at k6;clear g2;have P:=f2.trans n;clear n z;have a0:=Zh P;clear Z a1 P;cases b1 with
  | nil=>
   have k2:¬ (0:Int)<(([]:List Nat).length:Int):=by simp
   go_wp2;go_ret;exact⟨by rw [F.out];simp,a0.out⟩
  | cons x r=>
   have k2:(0:Int)<((x::r).length:Int):=by rw [List.length_cons];omega
   cases b5 with
   | nil=>
    have B:¬ (0:Int)<(([]:List Nat).length:Int):=by simp
    go_wp2;go_ret;exact⟨by rw [F.out];simp,a0.out⟩
   | cons y q=>
    have B:(0:Int)<((y::q).length:Int):=by rw [List.length_cons];omega
    go_wp2;go_ret;exact⟨by rw [F.out];simp,a0.out⟩
 have l8:(d:Int)<(f:Int):=by omega
 have Q:d<l.ifs.length:=by rw [u.out];exact k8
 have c1:b+d<ws.length:=by rw [e4.out];omega
 obtain⟨A,D,l3,o,m1,L,M⟩:=(e2.out.ext H).at Q;simp only [zV] at o;obtain⟨rfl,c8,rfl⟩:=o;clear c8;obtain⟨B,V,l4,o,m2,N,O⟩:=(e7.out.ext H).at c1;simp only [zV] at o;obtain⟨rfl,c8,rfl⟩:=o;clear c8;obtain⟨b9,c0⟩:=e2.out.2.get d Q;obtain⟨t,c6⟩:=e7.out.2.get (b+d) c1;obtain⟨s,c4⟩:=zE (ws.getD (b+d) (0,0));obtain⟨X,c5⟩:=zE (l.ifs.getD d (0,0));obtain⟨v,b7⟩:=zE (Jk s X);have e1:Hid (Jk (ws.getD (b+d) (0,0)) (l.ifs.getD d (0,0))=v):=Zh (by rw [c4,c5];exact b7);rw [c4] at N O t c6;rw [c5] at L M b9 c0;have b8:=fun(i:World)=>Qc3 (s:=s) (c:=X) ⟨t,c6⟩ ⟨b9,c0⟩ i;simp only [b7] at b8;obtain⟨i2,i3⟩:=s;obtain⟨i4,i5⟩:=X;dsimp only at L M N O;have f5:∀(i:World),Ext g i->i.cell? ⟨Y,15,none⟩=some (.slice (some ⟨A,D,none⟩) f U)/\i.cell? ⟨B,V+(b+d)*2,none⟩=some (.int .u32 (i2:Int))/\i.cell? ⟨B,V+(b+d)*2+1,none⟩=some (.int .u32 (i3:Int))/\i.cell? ⟨A,D+d*2,none⟩=some (.int .u32 (i4:Int))/\i.cell? ⟨A,D+d*2+1,none⟩=some (.int .u32 (i5:Int)):=by
  intro i G;exact⟨cell_of_row _ _ 15 _ _ _ (G.keep C),G.cell_some N id,G.cell_some O id,G.cell_some L id,G.cell_some M id⟩
 obtain⟨i7,a3,j0⟩:=Zh3 b8 f5 Q;have z:=cell_of_row _ _ 15 _ _ _ C;have l9:(b:Int)+(d:Int)<(vn:Int):=by omega
 have m0:(0:Int)<=(b:Int)+(d:Int):=by omega
 have m5:IntKind.i64.wrap ((b:Int)+(d:Int))=(b:Int)+(d:Int):=IntWalk.i64_in _ oz;have m4:((b:Int)+(d:Int)).toNat=b+d:=by omega
 clear b8 c4 c5 b7 b9 c0 t c6 L M N O f5 C Q c1;go_upto_region 7 with (fail)
 clear z;refine wp_region_held_drew (S:=fun i=>i.cell? ⟨Y,15,none⟩=some (.slice (some ⟨A,D,none⟩) f U)/\i.cell? ⟨B,V+(b+d)*2,none⟩=some (.int .u32 (i2:Int))/\i.cell? ⟨B,V+(b+d)*2+1,none⟩=some (.int .u32 (i3:Int))/\i.cell? ⟨A,D+d*2,none⟩=some (.int .u32 (i4:Int))/\i.cell? ⟨A,D+d*2+1,none⟩=some (.int .u32 (i5:Int))) kz (a3.out _ (Q0.drew (Q0.refl _ g))) ?_;intro j;refine tH 0 31 j ?_;refine tH 1 32 j ?_;refine tH 2 33 j ?_;refine tH 3 34 j ?_;refine tH 4 35 j ?_;refine tH 5 36 j ?_;refine tH 6 37 j ?_;refine tH 7 38 j ?_;refine tH 8 39 j ?_;refine tH 9 40 j ?_;refine tH 10 41 j ?_;refine rH [11] ?_;refine AllReadyH.cons rfl (fun K hK=>?_) AllReadyH.nil;refine iw rfl ?_;go_simp;refine(i7.out _).mono ?_;rintro e l1 ⟨rfl,n⟩;have c7:Ext g l1:=Q0.trans (Q0.drew (Q0.refl _ g)) n;refine hK.out _ _ (a3.out _ c7) (fun hS1=>?_);clear hK K n;refine tH 12 43 hS1 ?_;refine wpAnyH_done kz ?_ _;clear j hS1 a3;have P:=b6.trans c7;have k3:=H.trans c7;cases v
 ·have a2:=Zh (i8.out d j0.out e1.out);go_wp2;go_ret;exact⟨by rw [a2.out];rfl,k3⟩
 ·have g0:∀ k,k<d+1->Jk (ws.getD (b+k) (0,0)) (l.ifs.getD k (0,0))=true:=by
   intro k J;rcases Nat.lt_succ_iff_lt_or_eq.1 J with m | m
   ·exact e0.out k m
   ·rw [m];exact e1.out
  have k0:=Zh g0;clear g0;go_wp2;exact⟨⟨d+1,by omega,tz,rfl,k0.out,P⟩,nz⟩
def Ff(t:List (Nat × Wd)):Int:=if X7 t=true then 11 else 0
def Mi(t:List (Nat × Wd)):List (Nat × Wd):=if X7 t=true then [] else t
theorem Tq{a:List (Nat × Wd)} (h:X7 a=false):Ff a=0/\Mi a=a:=by unfold Ff Mi;rw [h];exact⟨rfl,rfl⟩
theorem S2{t b rest:List (Nat × Wd)} {x:Nat × Wd} (h:t=b++x::rest) (a:32<x.2.length):Ff t=11/\Mi t=[]:=by
 have:X7 t=true:=by
  rw [h];unfold X7;rw [List.any_append,List.any_cons,decide_eq_true a];simp
 unfold Ff Mi;rw [this];exact⟨rfl,rfl⟩
theorem Ml{a:List (Nat × Wd)} {x:Nat × Wd} (h:X7 a=false) (b:x.2.length<=32):X7 (a++[x])=false:=by
 unfold X7 at h ⊢;rw [List.any_append,h];simp;omega
theorem Tryz.infoW2:(Tryz.prog.info? 23).map (fun i=>(i.zero,i.size,i.bytes))=some (some (.slice none 0 0),1,24):=by kernel_rfl
theorem Q4r{w:World}{vo:Option Addr}{vc:Nat}{ws:Wd}(hv:Q4 w (.slice vo ws.length vc) ws):Zj (fun g=>g<w.heap.size) (.slice vo ws.length vc):=fun g o n c e h0=>by
 obtain⟨_,_,ao,cap,q,h3⟩:=hv.1;rw [q] at e;cases e;cases q;obtain⟨g',o',q1,q2,_⟩:=h3 h0;cases q1;exact q2
def Q6o(v:Value):Nat:=match v with | .slice _ n _=>n | _=>0
theorem Q6v{w:World}{l:Q7}{cs:List Value}{vo:Option Addr}{vc:Nat}{ws:Wd}(a0:Zq w l cs)(b8:Q4 w (.slice vo ws.length vc) ws) (Z:ws.length<=vc) (n1:Zv l=true) (n5:l.mode=2) (b9:ws.length<=32) :
  Calls Tryz.prog 179 #[.agg cs.toArray,.slice vo ws.length vc] w fun e w'=>∃ u v,e=.returned (.tuple #[u,v,.int .i64 (Ff (Qq l ws))])/\Xw w.heap.size w' u v (Mi (Qq l ws))/\Ext w w':=by
 obtain⟨s0,s2,m9,_,m7,_,_,_⟩:=Um n1;have m8:=fun(I:World) (J:Ext w I) (f:Wd) (p:Option Addr) (d j:Nat) (t:f.length=d) (r:Q4 I (.slice p d j) f) (Y:d<=32) (i:Nat) (hi:i<=d)=>Rr (a0.ext J) r t i oz oz;have o0:=fun(I:World) (J:Ext w I) (f:Wd) (p:Option Addr) (d j:Nat) (t:f.length=d) (r:Q4 I (.slice p d j) f) (Z:d<=j) (Y:d<=32) (i:Nat) (hi:Y1 l f i=true)=>P4 (a0.ext J) r t Z i (by rw [<-t];exact V6 hi) m7 oz oz;have f3:=Q4r b8
 have n6:∀(f:Wd) (i:Nat),Zn f->Zn (Ya l f i):=fun f i r=>by
  obtain⟨_,_,_,_,_,_,_,_,_,s3⟩:=a0;unfold Ya Ke;intro a4 s;rw [List.mem_append,List.mem_append] at s;rcases s with (s | s) | s
  ·exact r a4 (List.mem_of_mem_take s)
  ·exact W0 (fun a4 s=>r a4 (List.mem_of_mem_drop (List.mem_of_mem_take s))) s3.2 a4 s
  ·exact r a4 (List.mem_of_mem_drop s)
 obtain⟨p7,p0,q2,p2,p5,k1,k3,p8,j9,k5,p1,q3,p3,p6,k2,k4,p9,k0,c2,o9,E,o8,q1,b0,q0,p4,rfl,q8,r3,r4,q6,L,t0,s8,s9,T,d6,s7,u2,u3,u4,u5,u6⟩:=Zu a0;obtain⟨t1,f0⟩:=zE (Qq l ws);rw [f0];have o1:Jm l ws [] ws 0:=Jm.start n5;rw [T.out] at s0 m9;rw [d6.out] at s2 m9;obtain⟨s6,g3⟩:=zE ws.length;rw [g3] at b8 Z f3 b9 ⊢;have s5:=b9;obtain⟨q5,r5,i4,r2,j2,j1,j5,j8⟩:=Zh8 m8 o0 f3 n6 f0 o1 b8 g3;clear a0 b8 m8 o0 f3 n6 f0 o1 m7 n1 n5 q6 L r3 r4 q8 g3;go_enter Tryz.func179,Tryz.ntmps179;go_upto_region 1 with (fail)
 obtain⟨a5,a1⟩:=zE (w.alloc (.cells #[.string p7,.int .i64 p0,.int .u32 (q2:Int),.int .u32 (p2:Int),.bool p5,.int .i64 k1,.int .i64 k3,.slice p8 j9 k5,.int .i64 p1,.int .u32 (q3:Int),.int .u32 (p3:Int),.bool p6,.int .i64 k2,.int .i64 k4,.slice p9 k0 c2,.slice o9 E o8,.slice q1 b0 q0,.int .i64 p4] 50));have l0:Ext w a5:=by rw [<-a1];exact(Q0.refl _ w).alloc _
 have b4:a5.heap[w.heap.size]?=some (.cells #[.string p7,.int .i64 p0,.int .u32 (q2:Int),.int .u32 (p2:Int),.bool p5,.int .i64 k1,.int .i64 k3,.slice p8 j9 k5,.int .i64 p1,.int .u32 (q3:Int),.int .u32 (p3:Int),.bool p6,.int .i64 k2,.int .i64 k4,.slice p9 k0 c2,.slice o9 E o8,.slice q1 b0 q0,.int .i64 p4] 50 (0,0)):=by rw [<-a1];exact Q3 rfl
 have g1:a5.heap.size=w.heap.size+1:=by rw [<-a1];simp
 rw [a1];obtain⟨C,e5⟩:=zE w.heap.size;rw [e5] at b4 g1 ⊢;obtain⟨q7,i1,e0⟩:=Zh3 b4 e5 g1;have l9:=j5.out.ext l0;have j6:=Zh l9;have r7:=cell_of_row _ _ 15 _ _ _ b4;clear a1 e5 b4 g1 l9 j5;go_wp2
 refine wp_loop (fun a P=>∃(i:Nat) (G:List (Nat × Wd)) (f:Wd) (d:Nat) (p:Option Addr) (j:Nat) (c:Nat) (z B:Option Addr) (y A:Nat) (g6:List Value),a.defers=[]/\gS a [1,2,7,8,9,10]=(53,[.slice p d j,.pointer (some ⟨C,0,none⟩),.slice z c y,.slice B c A,.int .i64 E,.int .i64 i]) /\
   (Jm l ws G f i)/\X7 G=false/\f.length=d/\d<=32/\G.length=c/\Q4 P (.slice p d j) f/\d<=j/\Xg P (.slice z c y) (.slice B c A) (.slice p d j)/\TrP (C+1) P (.slice z c y) (.slice B c A) g6 G/\Ext a5 P)
  (fun a _=>Q6o (a.tmps.getD 1 undef)+2 - (intOf (a.tmps.getD 10 undef)).toNat) ?_ ?_
 ·exact⟨0,[],ws,s6,vo,vc,0,none,none,0,0,[],rfl,rfl,j1.out,rfl,j8.out,b9,rfl,j6.out,Z,i4.out.mono fun g hg=>⟨by have:=e0.out;have:=i1.out;omega,(fun e=>by cases e),(fun e=>by cases e)⟩,TrP.nil _ _,Q0.refl _ _⟩
 clear j1 j6 i4 r7 Z b9;rintro⟨u8,_⟩ I ⟨i,G,f,d,p,j,c,z,B,y,A,g6,r9,o2,b3,n3,o5,Y,o3,o7,r,m0,l3,J⟩;subst r9;obtain⟨u,rfl⟩:=Qc o2;clear o2;have d0:=Zh (J.keep q7.out);have e8:=l0.trans J;have t7:c<=33:=by obtain⟨_,t5,_,_⟩:=b3;have:=j8.out;have:=s5;omega
 have t8:i<=33:=by obtain⟨_,_,_,t6⟩:=b3;omega
 obtain⟨S,a6,O,U,e3,g7,d8⟩:=Zh7 b3 n3 o5 o3 o7 m0 l3;clear b3 n3 o5 o3 o7 m0 l3;by_cases m6:i+E<=d;case neg=>
  have k6:¬ ((i:Int)+(E:Int)<=(d:Int)):=by omega
  have m5:=S.out.done (by rw [O.out,T.out];omega);rw [j2.out] at m5;subst m5;obtain⟨W,X⟩:=Tq a6.out;have F:=d8.out.out;rw [<-X] at F;have c8:=Zh W;have r1:=Zh F;clear W X F m6;go_wp2;exact bodyPost_ret (Jd rfl _ _ _) rfl ⟨_,_,by rw [c8.out];rfl,r1.out.base (by have:=i1.out;omega),e8⟩
 have k6:(i:Int)+(E:Int)<=(d:Int):=by omega
 have f2:=q5.out I e8 f p d j O.out e3.out Y i oz;obtain⟨g4,f7⟩:=zE (Y1 l f i);rw [f7] at f2;have i3:=Zh f2;have a8:=Zh f7;clear f2 f7
 go_wp2_with (refine wpList_load_row rfl 50 (.tmp 2) rfl C rfl _ _ _ _ d0.out Tryz.underlying50 rfl Tryz.lawInfo ?_)
 refine i3.out.mono ?_;rintro e P ⟨rfl,m⟩;have e9:=e8.trans m;have e6:=J.trans m;obtain⟨d1,a9,g9,d9⟩:=Zh4 (m.keep d0.out) (e3.out.ext m) (g7.out.ext m) (d8.out.ext m);clear m d0 e3 g7 d8 i3;cases g4
 ·have n4:=S.out.miss (by rw [O.out,T.out];exact m6) a8.out;have r0:=Zh n4;clear n4 S;go_wp2;exact⟨⟨i+1,G,f,d,p,j,c,z,B,y,A,g6,tz,rfl,r0.out,a6.out,O.out,Y,U.out,a9.out,r,g9.out,d9.out,e6⟩,by simp [intOf,Q6o];omega⟩
 obtain⟨b5,u7,b7⟩:=S.out.hit a8.out;have f8:=V7 (V6 a8.out);have b6:=r5.out P e9 f p d j O.out a9.out r Y i a8.out;have g0:=r2.out f i a9.out.2;rw [O.out,T.out,d6.out] at f8;rw [T.out,d6.out] at b5;obtain⟨o,n9⟩:=zE (Ya l f i);rw [n9] at b5 b7 f8 b6 g0;obtain⟨H,f9⟩:=zE o.length;rw [f9] at f8 b6;rw [j2.out] at b7;obtain⟨i6,j0,i9,r6,N⟩:=Zh5 b5 b7 b6 g0 f9;clear b5 b7 b6 g0 n9 f9 S
 go_wp2_with (refine wpList_load_row rfl 50 (.tmp 2) rfl C rfl _ _ _ _ d1.out Tryz.underlying50 rfl Tryz.lawInfo ?_)
 refine i9.out.mono ?_;rintro e q ⟨x,rfl,F,m⟩;have l2:=e9.trans m;have e7:=e6.trans m;have q9:=Zh (m.keep d1.out);have M:=Zh (d9.out.ext m);obtain⟨a3,a2,rfl⟩:=Qu F;have t9:=(Vz F).1;have n7:Qk q (.slice a3 H a2) o:=by
  have k7:=F;rw [<-N.out] at k7 ⊢;exact Qk.own k7 r6.out
 have m1:Xg q (.slice z c y) (.slice B c A) (.slice a3 H a2):=Xg.own M.out.ou M.out.ov F zd zd;have i7:=Zh n7;have g8:=Zh m1;clear n7 m1 F m d1 d9 g9 a9 i9 e9 e6;by_cases r8:32<H
 ·have k6:(32:Int)<(H:Int):=by omega
  obtain⟨W,X⟩:=S2 j0.out (show 32<o.length by rw [N.out];exact r8);have c8:=Zh W;have q4:=Zh X;clear W X;go_wp2;exact bodyPost_ret (Jd rfl _ _ _) rfl ⟨_,_,by rw [c8.out];rfl,by rw [q4.out];exact Xw.nil _ _,l2⟩
 have t4:¬ ((32:Int)<(H:Int)):=by omega
 have n2:=Ml a6.out (x:=(i,o)) (by show o.length<=32;rw [N.out];omega);have i5:=Zh n2;have f5:=M.out.ou;have f6:=M.out.ov;rw [U.out] at f5 f6;have L:=Zh f5;have a7:=Zh f6;have u0:C+1<=q.heap.size:=by have:=e7.size;have:=e0.out;omega
 clear n2 f5 f6 a6 j0
 go_wp2_with (at_builtin;refine Qo rfl (.tmp 34) (.tmp 36) 36 rfl (C+1) 3 _ 1 8 Tryz.underlying36 Tryz.infoI rfl zd _ _ _ rfl (Q6 L.out ((Q0.refl _ q).alloc _)) ⟨q.heap.size,0,none⟩ 1 1 [.int .i64 i] rfl rfl (Qn rfl) ?c2 ?c3 ?c4 ?c5 ?_)
 case c2=>first | rfl | (intro u t;simp at t;rcases t with rfl;rfl)
 case c3=>unfold maxLen;omega
 case c4=>omega
 case c5=>first | omega | (simp;omega)
 intro b1 c6 V l7 l5 k8;have c1:Q0 (fun b=>(Value.slice z c y).ownBlock=some b) q V:=Q0.trans ((Q0.refl _ q).alloc _) l5;have o6:=Qi a7.out c1 (fun g hg e=>Ji L.out a7.out zd g e hg);have m3:(Value.slice b1 (c+1) c6).ownBlock=(Value.slice z c y).ownBlock\/∃ k,q.heap.size<=k/\(Value.slice b1 (c+1) c6).ownBlock=some k:=k8.imp id fun e=>⟨_,by first | omega | simp | (simp;omega),e⟩;obtain⟨e1,e2,j3,i2⟩:=Zh4 l7 o6 c1 m3;have u1:=c1.size;clear l7 l5 k8 c1 o6 m3
 go_wp2_with (at_builtin;refine Qo rfl (.tmp 38) (.tmp 40) 74 rfl (C+1) 23 _ 1 24 Tryz.underlying74 Tryz.infoW2 rfl zd _ _ _ rfl (Q6 e2.out ((Q0.refl _ V).alloc _)) ⟨V.heap.size,0,none⟩ 1 1 [.slice a3 H a2] rfl rfl (Qn rfl) ?d2 ?d3 ?d4 ?d5 ?_)
 case d2=>first | rfl | (intro u t;simp at t;rcases t with rfl;rfl)
 case d3=>unfold maxLen;omega
 case d4=>omega
 case d5=>first | omega | (simp;omega)
 intro b2 c7 e4 l8 l6 k9;have g5:Q0 (fun b=>(Value.slice B c A).ownBlock=some b) V e4:=Q0.trans ((Q0.refl _ V).alloc _) l6;have c0:Q0 (fun b=>(Value.slice z c y).ownBlock=some b\/(Value.slice B c A).ownBlock=some b) q e4:=(j3.out.mono fun b _ e=>.inl e).trans (g5.mono fun b _ e=>.inr e);have m4:(Value.slice b2 (c+1) c7).ownBlock=(Value.slice B c A).ownBlock\/∃ k,q.heap.size<=k/\(Value.slice b2 (c+1) c7).ownBlock=some k:=k9.imp id fun e=>⟨_,by first | omega | (simp;omega),e⟩;have o4:=Qi e1.out g5 (fun g hg e=>Ji e1.out e2.out zd g hg e);obtain⟨l4,s4,m2⟩:=M.out.push (i:=i) i7.out g8.out (by rw [U.out];exact o4) (by rw [U.out];exact l8) c0 i2.out m4
 have f4:∀ b,b<C+1->¬ ((Value.slice z c y).ownBlock=some b\/(Value.slice B c A).ownBlock=some b):=fun b hb e=>by
  rcases e with e | e
  ·have:=(L.out.lt _ e).1;omega
  ·have:=(a7.out.lt _ e).1;omega
 have l1:Ext a5 e4:=e7.after c0 (fun b hb e=>f4 b (by have:=e0.out;omega) e);have n0:=c0.heap q9.out (f4 C oz);have t3:=cell_of_row _ _ 16 _ _ _ n0;obtain⟨t2,c5,n8,g2,f1⟩:=s4;rw [N.out] at n8 g2 f1;cases n8;obtain⟨i8,j7,i0⟩:=Zh3 l4 g2 m2;have j4:Hid ((G++[(i,o)]).length=c+1):=Zh (by rw [List.length_append,U.out];rfl);clear l4 g2 m2 n0 l8 l6 k9 g5 c0 m4 o4 f4 e1 e2 j3 i2 M g8 i7 L a7 e7 l2;by_cases Q:E=0
 ·have K:=i6.out;rw [if_pos Q] at K;have d7:=Zh K;have s1:((E:Int) == 0)=true:=by simp;omega
  have c9:=Zh Q;clear K Q;go_wp2;exact⟨⟨i+b0+1,G++[(i,o)],o,H,a3,a2,c+1,b1,b2,c6,c7,_,tz,(Prod.ext rfl (lE rfl (lE rfl (lE rfl (lE rfl (lE rfl (lE (by first | rfl | (simp;done) | (push_cast;rfl)) rfl))))))),d7.out,i5.out,N.out,by omega,j4.out,j7.out,f1,i0.out,i8.out,l1⟩,by have:=c9.out;simp [intOf,Q6o];omega⟩
 ·have K:=i6.out;rw [if_neg Q,Nat.add_zero] at K;have d7:=Zh K;have s1:((E:Int) == 0)=false:=by simp;omega
  have c9:=Zh Q;clear K Q;go_wp2;exact⟨⟨i+b0,G++[(i,o)],o,H,a3,a2,c+1,b1,b2,c6,c7,_,tz,(Prod.ext rfl (lE rfl (lE rfl (lE rfl (lE rfl (lE rfl (lE (by first | rfl | (simp;done) | (push_cast;rfl)) rfl))))))),d7.out,i5.out,N.out,by omega,j4.out,j7.out,f1,i0.out,i8.out,l1⟩,by have:=c9.out;simp [intOf,Q6o];omega⟩
def Off(dv:Value)(vals:List Value):Prop:=∀ x∈vals,Zj (fun g=>dv.ownBlock≠some g) x
theorem Off.same{dv dv':Value}{vals:List Value}{W:World}(h:Off dv vals)(hk:∀ x∈vals,Zj (fun g=>g<W.heap.size) x) (hb:dv'.ownBlock=dv.ownBlock\/∃ k,W.heap.size<=k/\dv'.ownBlock=some k):Off dv' vals:=fun x hx g o n c e h0=>by
 rcases hb with hb | ⟨k,h1,h2⟩
 ·rw [hb];exact h x hx g o n c e h0
 ·rw [h2];intro q;cases q;have:=hk x hx g o n c e h0;omega
theorem TrP.low{b:Nat}{W:World}{u v:Value}{vals:List Value}{tr:List (Nat × Wd)} (h:TrP b W u v vals tr):∀ x∈vals,Zj (fun g=>g<W.heap.size) x:=fun x hx=>(h.wk x hx).mono fun _ hg=>hg.1
theorem TrP.turn{b:Nat}{A B:World}{u v dv:Value}{vals:List Value}{tr:List (Nat × Wd)} {b3 n3:Nat} {x3:List Value} (h:TrP b A u v vals tr) (hd:A.ownsRow b3 26 2 dv n3 x3) (ht:Q0 (fun g=>dv.ownBlock=some g) A B) (ho:Off dv vals):TrP b B u v vals tr:=
 ⟨Qi h.ou ht (fun g hg e=>Ji h.ou hd zd g hg e),Qi h.ov ht (fun g hg e=>Ji h.ov hd zd g hg e),h.wd.keepS (S:=fun g=>dv.ownBlock≠some g) (ht.mono fun _ _ e hn=>hn e) ho,fun x hx=>(h.wk x hx).mono fun g hg=>⟨Nat.lt_of_lt_of_le hg.1 ht.size,hg.2⟩⟩
theorem Q1r{ws:Wd}{i:Nat}(h:i<ws.length):(ws.drop i).take 1=[ws.getD i (0,0)]:=by
 rw [List.drop_eq_getElem_cons h,List.getD_eq_getElem?_getD,List.getElem?_eq_getElem h];rfl
theorem Eh{ws:Wd}{i:Nat}(h:ws.length<=i):(ws.drop i).take 1=[]:=by rw [List.drop_of_length_le h];rfl
theorem Qat{w:World}{l:Q7}{cs:List Value}{vo:Option Addr}{vc:Nat}{ws:Wd}(i6:Zq w l cs)(j0:Q4 w (.slice vo ws.length vc) ws) (z5:ws.length<=vc) (A7:Zv l=true) (B4:l.mode=1) (H7:ws.length<=32) :
  Calls Tryz.prog 178 #[.agg cs.toArray,.slice vo ws.length vc] w fun e w'=>∃ u v,e=.returned (.tuple #[u,v,.int .i64 (Ff (Qq l ws))])/\Xw w.heap.size w' u v (Mi (Qq l ws))/\Ext w w':=by
 obtain⟨G9,B2,A6,_,A3,_,_,_⟩:=Um A7;have q0:=fun(e8:World) (a0:Ext w e8) (i:Nat) (hi:i<=ws.length)=>Rr (i6.ext a0) (j0.ext a0) rfl i oz oz;have l3:=fun(e8:World) (a0:Ext w e8) (v:Value) (cut:Wd) (hc:Q4 e8 v cut) (Q:cut.length=l.ifs.length)=>Eo (i6.ext a0) hc (by rw [Q];exact A3) oz
 have B9:∀(cut:Wd),Zn cut->Zn (Yz l cut):=fun cut hc=>by
  obtain⟨_,_,_,_,_,_,_,_,_,H1⟩:=i6;exact W0 hc H1.2
 have C6:Hj l ws [] [] 0:=Hj.start B4;have q7:=Yx l;obtain⟨s5,r8,t0,s0,s3,n0,n2,s6,m7,U,r9,t1,s1,s4,n1,n3,s7,m8,c2,r7,f,r6,s9,o,s8,s2,rfl,E1,F1,F3,D9,e2,J1,I9,J0,g0,u3,I8,K8,K9,L0,L1,L2⟩:=Zu i6;obtain⟨J4,p0⟩:=zE (Qq l ws);rw [p0];rw [g0.out] at G9 A6 l3;rw [u3.out] at B2 A6 q7 l3;obtain⟨F,r3⟩:=zE ws.length;have e7:=Zh j0;have j4:=Zh z5;rw [r3] at j0 z5 H7 q0 ⊢;obtain⟨D8,F4,E9,v1,v0,J3,B,F2⟩:=Zh8 q0 l3 B9 p0 C6 j0 r3 q7;clear i6 j0 q0 l3 B9 p0 C6 A3 A7 B4 D9 e2 F1 F3 E1 r3 q7;go_enter Tryz.func178,Tryz.ntmps178;go_upto_region 1 with (fail)
 obtain⟨a6,j1⟩:=zE (w.alloc (.cells #[.string s5,.int .i64 r8,.int .u32 (t0:Int),.int .u32 (s0:Int),.bool s3,.int .i64 n0,.int .i64 n2,.slice s6 m7 U,.int .i64 r9,.int .u32 (t1:Int),.int .u32 (s1:Int),.bool s4,.int .i64 n1,.int .i64 n3,.slice s7 m8 c2,.slice r7 f r6,.slice s9 o s8,.int .i64 s2] 50));have g8:Ext w a6:=by rw [<-j1];exact(Q0.refl _ w).alloc _
 have q1:a6.heap[w.heap.size]?=some (.cells #[.string s5,.int .i64 r8,.int .u32 (t0:Int),.int .u32 (s0:Int),.bool s3,.int .i64 n0,.int .i64 n2,.slice s6 m7 U,.int .i64 r9,.int .u32 (t1:Int),.int .u32 (s1:Int),.bool s4,.int .i64 n1,.int .i64 n3,.slice s7 m8 c2,.slice r7 f r6,.slice s9 o s8,.int .i64 s2] 50 (0,0)):=by rw [<-j1];exact Q3 rfl
 have q9:a6.heap.size=w.heap.size+1:=by rw [<-j1];simp
 rw [j1];obtain⟨r,o0⟩:=zE w.heap.size;rw [o0] at q1 q9 ⊢;obtain⟨E0,D6,e6⟩:=Zh3 q1 o0 q9;clear j1 o0 q1 q9;go_wp2
 refine wp_loop (fun a C=>∃(i:Nat) (N:List (Nat × Wd)) (d:Wd) (g p:Nat) (a2 W Z:Option Addr) (a1 V Y:Nat) (d6:List Value),a.defers=[]/\(a.tmps.size=88/\a.tmps.getD 1 undef=.slice vo F vc/\a.tmps.getD 2 undef=.pointer (some ⟨r,0,none⟩)/\a.tmps.getD 7 undef=.slice a2 p a1/\a.tmps.getD 8 undef=.slice W p V/\a.tmps.getD 9 undef=.slice Z g Y/\a.tmps.getD 10 undef=.int .i64 i)/\Hj l ws N d i/\X7 N=false/\d.length=g/\N.length=p/\C.ownsRow (r+1) 26 2 (.slice Z g Y) g (Qx d)/\Zn d/\Off (.slice Z g Y) d6/\TrP (r+1) C (.slice a2 p a1) (.slice W p V) d6 N/\Ext a6 C)
  (fun a _=>F+1 - (intOf (a.tmps.getD 10 undef)).toNat) ?_ ?_
 ·exact⟨0,[],[],0,0,none,none,none,0,0,0,[],rfl,⟨rfl,rfl,rfl,rfl,rfl,rfl,rfl⟩,v0.out,rfl,rfl,rfl,World.ownsRow_nil _ _ _ _,(by simp [Zn]),(fun x hx=>by cases hx),TrP.nil _ _,Q0.refl _ _⟩
 clear v0;rintro⟨t,_⟩ e8 ⟨i,N,d,g,p,a2,W,Z,a1,V,Y,d6,G8,⟨C7,n4,n6,n7,n8,n9,n5⟩,i3,A9,p6,r1,z7,A2,B8,x8,a0⟩;subst G8;obtain⟨I3,b1⟩:=Z5 C7;obtain⟨u,rfl⟩:∃ x,x=I3:=⟨_,rfl⟩;have H6:t=#[u 0,u 1,u 2,u 3,u 4,u 5,u 6,u 7,u 8,u 9,u 10,u 11,u 12,u 13,u 14,u 15,u 16,u 17,u 18,u 19,u 20,u 21,u 22,u 23,u 24,u 25,u 26,u 27,u 28,u 29,u 30,u 31,u 32,u 33,u 34,u 35,u 36,u 37,u 38,u 39,u 40,u 41,u 42,u 43,u 44,u 45,u 46,u 47,u 48,u 49,u 50,u 51,u 52,u 53,u 54,u 55,u 56,u 57,u 58,u 59,u 60,u 61,u 62,u 63,u 64,u 65,u 66,u 67,u 68,u 69,u 70,u 71,u 72,u 73,u 74,u 75,u 76,u 77,u 78,u 79,u 80,u 81,u 82,u 83,u 84,u 85,u 86,u 87]:=b1;clear b1;subst H6;change u 1=_ at n4;change u 2=_ at n6;change u 7=_ at n7;change u 8=_ at n8;change u 9=_ at n9;change u 10=_ at n5;rw [n4,n6,n7,n8,n9,n5];clear n4 n6 n7 n8 n9 n5 C7;have m0:=Zh (a0.keep E0.out);have k8:=g8.trans a0;have G6:p<=33:=by obtain⟨_,_,a9,_⟩:=i3;have:=B.out;omega
 have K2:i<=F+1:=by obtain⟨_,_,_,J8⟩:=i3;have:=B.out;omega
 have p7:i<=F->g<=232:=fun hi=>by
  obtain⟨_,a9,w1,_⟩:=i3;have a9:=a9 (by rw [B.out];exact hi);rw [p6,g0.out,u3.out] at a9;have:=few (t:=N.length) (n:=33) (m:=o) (by rw [r1];exact G6) B2 oz;omega
 obtain⟨u1,f7,f9,j6,b7,t9,j7,e1⟩:=Zh8 p7 i3 A9 p6 r1 z7 A2 B8;have m3:=Zh x8;clear p7 i3 A9 p6 r1 z7 A2 B8 x8;by_cases l1:i<=F;case neg=>
  have G2:¬ ((i:Int)<=(F:Int)):=by omega
  have A1:=f7.out.done (by rw [B.out];omega);rw [v1.out] at A1;subst A1;obtain⟨g3,g4⟩:=Tq f9.out;have o7:=m3.out.out;rw [<-g4] at o7;have l5:=Zh g3;have E7:=Zh o7;clear g3 g4 o7 l1;go_wp2;exact bodyPost_ret (Jd rfl _ _ _) rfl ⟨_,_,by rw [l5.out];rfl,E7.out.base (by have:=D6.out;omega),k8⟩
 have G2:(i:Int)<=(F:Int):=by omega
 have p7:=u1.out l1;have p9:=D8.out e8 k8 i l1;obtain⟨t2,i9⟩:=zE (Y1 l ws i);rw [i9] at p9;have u2:=Zh p9;have u6:=Zh i9;clear p9 i9 u1
 go_wp2_with (refine wpList_load_row rfl 50 (.tmp 2) rfl r rfl _ _ _ _ m0.out Tryz.underlying50 rfl Tryz.lawInfo ?_)
 refine u2.out.mono ?_;rintro e C ⟨rfl,f0⟩;have i0:=k8.trans f0;have g9:=a0.trans f0;obtain⟨k0,a7,e4⟩:=Zh3 (f0.keep m0.out) (Q6 t9.out f0) (m3.out.ext f0);have K5:r+1<=C.heap.size:=by have:=g9.size;have:=e6.out;omega
 clear f0 m0 t9 m3 u2 k8 a0
 have z6:∀(D:World),Ext w D->i<F->∃ j c8 a4 a5,vo=some ⟨j,c8,none⟩/\(ws.getD i (0,0))=(a4,a5)/\D.cell? ⟨j,c8+i*2,none⟩=some (.int .u32 (a4:Int))/\D.cell? ⟨j,c8+i*2+1,none⟩=some (.int .u32 (a5:Int))/\Qh (a4,a5):=fun D hD hi=>by
  obtain⟨j,c8,J5,H3,q,e9,U⟩:=(e7.out.ext hD).at (i:=i) (by rw [B.out];exact hi);cases H3;exact⟨j,c8,_,_,rfl,rfl,e9,U,e7.out.2.get i (by rw [B.out];exact hi)⟩
 have t8:=Zh z6;clear z6;cases t2
 ·have B1:=f7.out.miss (by rw [B.out];exact l1) u6.out;have k1:=Zh B1;clear B1 f7;by_cases i5:i<F
  ·have a9:(i:Int)<(F:Int):=by omega
   obtain⟨j,c8,a4,a5,rfl,f2,e9,U,q2⟩:=t8.out C i0 i5;have c7:=k1.out;rw [Q1r (by rw [B.out];exact i5),f2] at c7;have m2:=Zh c7;have I6:=Zh f2;clear c7 f2 k1
   go_wp2_with (at_builtin;refine Qo rfl (.tmp 26) (.tmp 31) 23 rfl (r+1) 26 _ 2 8 Tryz.underlying23 @Yt rfl zd _ _ _ rfl (Q6 a7.out ((Q0.refl _ C).alloc _)) ⟨C.heap.size,0,none⟩ 1 1 [.int .u32 (a4:Int),.int .u32 (a5:Int)] rfl rfl (Qn rfl) (Us _ _) ?b3 ?b4 ?b5 ?_)
   case b3=>unfold maxLen;omega
   case b4=>omega
   case b5=>first | omega | (simp;omega)
   intro L J E g7 c6 g5;have c9:Q0 (fun b=>(Value.slice Z g Y).ownBlock=some b) C E:=Q0.trans ((Q0.refl _ C).alloc _) c6;have g6:(Value.slice L (g+1) J).ownBlock=(Value.slice Z g Y).ownBlock\/∃ k,C.heap.size<=k/\(Value.slice L (g+1) J).ownBlock=some k:=g5.imp id fun e=>⟨_,by first | omega | simp | (simp;omega),e⟩;have i2:=e4.out.turn a7.out c9 e1.out;have i1:=e1.out.same e4.out.low g6;have G5:Ext a6 E:=g9.after c9 (fun b hb e=>by have:=(a7.out.lt _ e).1;have:=e6.out;omega);have i4:E.ownsRow (r+1) 26 2 (.slice L (g+1) J) (g+1) (Qx (d++[(a4,a5)])):=by rw [Zl];exact g7
   obtain⟨b6,b2,a8⟩:=Zh3 i2 i1 i4;clear i2 i1 i4 g7 c9 c6 g5 g6 e9 U;go_wp2;exact⟨⟨i+1,N,_,g+1,p,a2,W,L,a1,V,J,d6,tz,⟨rfl,rfl,rfl,rfl,rfl,rfl,rfl⟩,m2.out,f9.out,(by rw [List.length_append,j6.out];rfl),b7.out,a8.out,(fun a3 s=>by rcases List.mem_append.1 s with s | s;exact j7.out a3 s;simp only [List.mem_singleton] at s;subst s;exact q2),b2.out,b6.out,G5⟩,nz⟩
  ·have a9:¬ ((i:Int)<(F:Int)):=by omega
   have c7:=k1.out;rw [Eh (by rw [B.out];omega),List.append_nil] at c7;have m2:=Zh c7;clear c7 k1;go_wp2;exact⟨⟨i+1,N,d,g,p,a2,W,Z,a1,V,Y,d6,tz,⟨rfl,rfl,rfl,rfl,rfl,rfl,rfl⟩,m2.out,f9.out,j6.out,b7.out,a7.out,j7.out,e1.out,e4.out,g9⟩,nz⟩
 obtain⟨i7,i8,⟨L3,l4⟩,G7,f3⟩:=f7.out.hit u6.out;rw [g0.out] at i7 i8 f3;rw [B.out] at f3
 -- the slices
 have j2:Q4 C _ _:=Q4.cut (e7.out.ext i0) (a:=i) (b:=i+f) oz (by rw [B.out];exact f3) j4.out;have T:Q4 C _ _:=Q4.cut (e7.out.ext i0) (a:=i+f) (b:=ws.length) (by rw [B.out];exact f3) oz j4.out;rw [show i+f - i=f by omega] at j2;rw [Wb rfl,B.out] at T;have t3:=fun D=>Mr (A:=vo) (n:=F) (c:=vc) Xs Jq i (i+f) oz oz D;have t4:=fun D=>Py (A:=vo) (n:=F) (c:=vc) Xs Jq (i+f) oz D;simp only [Int.natCast_add] at t3 t4;obtain⟨L5,L6,J6,C9⟩:∃ y z e,sliced vo i (i+f) vc 2=.slice y z e:=⟨_,_,_,rfl⟩;obtain⟨D1,H,v9,r5⟩:∃ y z e,sliced vo (i+f) F vc 2=.slice y z e:=⟨_,_,_,rfl⟩;rw [C9] at j2 t3;rw [r5] at T t4;clear C9;have B3:((ws.drop i).take f).length=f:=by rw [List.length_take,List.length_drop,B.out];omega
 have q6:=fun(D:World) (hD:Ext C D)=>F4.out D (i0.trans hD) _ _ (j2.ext hD) B3;have q8:=E9.out _ j2.2;have l2:=F2.out ((ws.drop i).take f);have p3:Lk l ws d i=d++Yz l ((ws.drop i).take f):=by unfold Lk;rw [g0.out]
 have f1:Hb l ws d i=Lk l ws d i++ws.drop (i+f):=by unfold Hb;rw [g0.out]
 obtain⟨P,x3⟩:=zE (Yz l ((ws.drop i).take f));rw [x3] at q6 q8 l2 p3;rw [p3] at f1 i7 i8;obtain⟨G0,K1⟩:=zE (F - (i+f));obtain⟨rfl,C3⟩:=Ls T (show (ws.drop (i+f)).length=G0 by rw [List.length_drop,B.out];omega);have J2:=Zh C3;have F7:Hid (Zn (ws.drop (i+f))):=Zh T.2;obtain⟨M,B7⟩:=zE (Hb l ws d i);rw [B7] at i7 i8 l4 f1;rw [v1.out] at l4;have m1:Hid (M.length=g+o+H):=Zh (by rw [f1,List.length_append,List.length_append,j6.out,l2,List.length_drop,B.out];omega);have E4:Hid (Qx M=Qx d++Qx P++Qx (ws.drop (i+f))):=Zh (by rw [f1,Zl,Zl]);have j5:Hid ((d++P).length=g+o):=Zh (by rw [List.length_append,j6.out,l2]);have f8:Hid (Zn (d++P)):=Zh (fun a3 s=>by rcases List.mem_append.1 s with s | s;exact j7.out a3 s;exact q8 a3 s);have E3:Hid (Zn M):=Zh (by rw [f1];intro a3 s;rcases List.mem_append.1 s with s | s;exact f8.out a3 s;exact F7.out a3 s);obtain⟨E5,E6,u9,v6⟩:=Zh4 i7 i8 l4 r5;have C2:=q6 C.drew (Q0.drew (Q0.refl _ C));have u5:=Zh C2;clear C2 q6 r5 j2 T q8 l2 p3 f1 x3 C3 B7 i7 i8 l4 G7 B3 j7 f7;have F9:=cell_of_row _ _ 15 _ _ _ k0.out;go_upto_region 11 with (fail)
 clear F9;have r0:IntKind.i64.wrap ((i:Int)+(f:Int))=(i:Int)+(f:Int):=IntWalk.i64_in _ oz;refine Z8 (S:=fun D=>D.heap[r]?=some (.cells #[.string s5,.int .i64 r8,.int .u32 (t0:Int),.int .u32 (s0:Int),.bool s3,.int .i64 n0,.int .i64 n2,.slice s6 m7 U,.int .i64 r9,.int .u32 (t1:Int),.int .u32 (s1:Int),.bool s4,.int .i64 n1,.int .i64 n3,.slice s7 m8 c2,.slice r7 f r6,.slice s9 o s8,.int .i64 s2] 50 (0,0))) [] kz (Xr k0.out) ?_;intro G;refine tE 0 38 G ?_;refine tkE (i:=1) (d:=39) (v:=?_) rfl (Or.inl ⟨by rfl,?_⟩) G ?_;rotate_left
 ·intro w y2;(try dsimp only at y2);have H4:=y2;refine X6 (x:=.tmp 2) ?_ r ?_ _ _ _ H4 Tryz.underlying50 Tryz.lawInfo <;> rfl
 try simp only [Act.put,pq]
 refine tE 2 40 G ?_;refine tE 3 41 G ?_;refine tE 4 42 G ?_;refine tE 5 43 G ?_;refine tE 6 44 G ?_;refine tE 7 45 G ?_;refine rE [8] ?_;refine Q2.cons rfl (fun K hK=>?_) Q2.nil;refine iw rfl ?_;go_simp;refine(u5.out).mono ?_;rintro e v7 ⟨L4,rfl,o8,x4⟩;have g1:Ext C v7:=(Q0.drew (Q0.refl (fun _=>False) C)).trans x4;have o5:=g1.keep k0.out;obtain⟨I5,I4,rfl⟩:=Qu o8;have y1:Rd v7 (.slice I5 o I4) o 2 (Qx P):=Rd.of_own o8;have p5:=Q6 a7.out g1;have D4:=g1.size;refine hK.out _ _ o5 (fun hS5=>?_);clear hK K;try simp only [Act.put,pq]
 refine rE [9] ?_;refine Q2.cons rfl (fun K hK=>?_) Q2.nil;refine iw rfl ?_;refine Hk (.tmp 38) (.tmp 46) 23 rfl (r+1) 26 _ 2 8 Tryz.underlying23 @Yt rfl zd _ _ _ rfl p5 _ _ _ _ rfl y1 (Jr _) (by unfold maxLen;omega) oz oz ?_;intro L J E g7 c6 g5;have o6:=c6.heap o5 (fun e=>by have:=(p5.lt _ e).1;omega);have L7:=c6.size;refine hK.out _ _ o6 (fun hS6=>?_);clear hK K;try simp only [Act.put,List.setIfInBounds_toArray]
 refine tE 10 9 hS6 ?_;try simp only [Act.put]
 refine Z0 kz ?_ _;have c9:Q0 (fun b=>(Value.slice Z g Y).ownBlock=some b) C E:=(Ext.of g1).trans c6;have g6:(Value.slice L (g+o) J).ownBlock=(Value.slice Z g Y).ownBlock\/∃ k,C.heap.size<=k/\(Value.slice L (g+o) J).ownBlock=some k:=g5.imp id fun e=>⟨_,D4,e⟩;have y0:=e4.out.turn a7.out c9 e1.out;have x6:=e1.out.same e4.out.low g6;have o2:Ext a6 E:=g9.after c9 (fun b hb e=>by have:=(a7.out.lt _ e).1;have:=e6.out;omega);have x2:Ext w E:=g8.trans o2;have z9:E.ownsRow (r+1) 26 2 (.slice L (g+o) J) (g+o) (Qx (d++P)):=by rw [Zl];exact g7
 have C4:Rd E (.slice D1 H v9) H 2 (Qx (ws.drop (i+f))):=by
  have r4:=e7.out.ext x2;have T:Q4 E _ _:=Q4.cut r4 (a:=i+f) (b:=ws.length) (by rw [B.out];exact f3) oz j4.out;rw [Wb rfl,B.out,v6.out] at T;exact(Ls T (show (ws.drop (i+f)).length=H by rw [List.length_drop,B.out];omega)).2
 obtain⟨e5,u4,l6,F5,I7⟩:=Zh5 y0 x6 z9 C4 o6;have H8:r+1<=E.heap.size:=by omega
 clear y0 x6 z9 C4 g7 c6 g5 g6 c9 o5 o6 p5 y1 o8 hS5 hS6 G a7 e4 e1 k0 u5 r0 g1 x4 D4 t3 i0 g9;have q5:=e5.out.ou;rw [b7.out] at q5;have e2:=Zh q5;clear q5
 go_wp2_with (at_builtin;refine Qo rfl (.tmp 48) (.tmp 50) 36 rfl (r+1) 3 _ 1 8 Tryz.underlying36 Tryz.infoI rfl zd _ _ _ rfl (Q6 e2.out ((Q0.refl _ E).alloc _)) ⟨E.heap.size,0,none⟩ 1 1 [.int .i64 i] rfl rfl (Qn rfl) ?c2 ?c3 ?c4 ?c5 ?_)
 case c2=>first | rfl | (intro u b1;simp at b1;rcases b1 with rfl;rfl)
 case c3=>unfold maxLen;omega
 case c4=>omega
 case c5=>first | omega | (simp;omega)
 intro b9 d7 I y9 y3 w5;have d0:Q0 (fun b=>(Value.slice a2 p a1).ownBlock=some b) E I:=Q0.trans ((Q0.refl _ E).alloc _) y3;have z3:(Value.slice b9 (p+1) d7).ownBlock=(Value.slice a2 p a1).ownBlock\/∃ k,E.heap.size<=k/\(Value.slice b9 (p+1) d7).ownBlock=some k:=w5.imp id fun e=>⟨_,by first | omega | simp | (simp;omega),e⟩;have p4:=Qi l6.out d0 (fun j q e=>Ji e2.out l6.out zd j e q);have C8:=Qi e5.out.ov d0 (fun j q e=>Ji e5.out.ou e5.out.ov zd j e q);have o3:Ext a6 I:=o2.after d0 (fun b hb e=>by have:=(e2.out.lt _ e).1;have:=e6.out;omega);have C5:Rd I (.slice D1 H v9) H 2 (Qx (ws.drop (i+f))):=by
  have r4:=e7.out.ext (g8.trans o3);have T:Q4 I _ _:=Q4.cut r4 (a:=i+f) (b:=ws.length) (by rw [B.out];exact f3) oz j4.out;rw [Wb rfl,B.out,v6.out] at T;exact(Ls T (show (ws.drop (i+f)).length=H by rw [List.length_drop,B.out];omega)).2
 have H9:r+1<=I.heap.size:=Nat.le_trans H8 d0.size;obtain⟨v3,l7,v4,m4,v2,t7⟩:=Zh6 y9 p4 C8 C5 d0 z3;have K3:=d0.size;have A0:∀ j,(Value.slice L (g+o) J).ownBlock=some j->j<I.heap.size:=fun j q=>(p4.lt j q).2;have u0:=Zh A0;clear A0 y9 y3 w5 d0 z3 p4 C8 C5 F5 l6 o2 x2;go_upto_region 13 with (fail)
 have r0:IntKind.i64.wrap ((i:Int)+(f:Int))=(i:Int)+(f:Int):=IntWalk.i64_in _ oz;obtain⟨b8,p2⟩:=zE I.drew;have j8:Hid (Ext I b8):=Zh (by rw [<-p2];exact Q0.drew (Q0.refl _ I));refine Z8 (S:=fun _=>True) [] kz trivial ?_;intro G;rw [p2];clear p2;refine tE 1 53 G ?_;refine tE 3 55 G ?_;refine tE 4 56 G ?_;refine tE 5 57 G ?_;refine tE 6 58 G ?_;refine tE 7 59 G ?_;refine rE [0] ?_;refine Q2.cons rfl (fun K hK=>?_) Q2.nil;refine iw rfl ?_;go_simp;obtain⟨v8,l0⟩:=zE (b8.alloc (.cells #[] 26));have g2:Ext I v8:=by rw [<-l0];exact j8.out.trans ((Q0.refl _ b8).alloc _)
 have o9:v8.ownsRow (r+1) 26 2 (.slice (some ⟨b8.heap.size,0,none⟩) 0 0) 0 []:=by rw [<-l0];exact World.ownsRow_made (base:=r+1) (e:=26) (size:=2) b8 #[] 0 (by have:=j8.out.size;omega) zd rfl
 rw [l0];have u8:=Zh (Rd.of_own (Q6 l7.out g2));have F6:=Zh (m4.out.ext g2);have A5:I.heap.size<=b8.heap.size:=j8.out.size;obtain⟨w0,q⟩:=zE b8.heap.size;rw [q] at o9 A5 ⊢;have D2:=g2.size;clear l0 q;refine hK.out _ _ trivial (fun _=>?_);clear hK K;try simp only [Act.put,pq]
 refine rE [2] ?_;refine Q2.cons rfl (fun K hK=>?_) Q2.nil;refine iw rfl ?_;refine Hk (.tmp 52) (.tmp 53) 23 rfl (r+1) 26 _ 2 8 Tryz.underlying23 @Yt rfl zd _ 0 [] rfl o9 _ _ _ _ rfl u8.out (Jr _) (by unfold maxLen;omega) oz oz ?_;intro I2 I1 F8 k9 y7 o1;try rw [Nat.zero_add] at k9
 try rw [List.nil_append] at k9
 try rw [Nat.zero_add] at o1
 try rw [Nat.zero_add]
 have k4:Ext I F8:=g2.after y7 (fun b hb e=>by have G1:w0=b:=(by first | (simpa [Value.ownBlock] using e) | exact e | (cases e;rfl));omega);have D3:=k4.size;have u7:=Zh (m4.out.ext k4);have t6:=Zh o1;clear o1;refine hK.out _ _ trivial (fun _=>?_);clear hK K;try simp only [Act.put,List.setIfInBounds_toArray]
 refine rE [8] ?_;refine Q2.cons rfl (fun K hK=>?_) Q2.nil;refine iw rfl ?_;refine Hk (.tmp 54) (.tmp 59) 23 rfl (r+1) 26 _ 2 8 Tryz.underlying23 @Yt rfl zd _ _ _ rfl k9 _ _ _ _ rfl u7.out (Jr _) (by unfold maxLen;omega) oz oz ?_;intro f6 f5 X x7 y8 w9
 have p8:∀ j,(Value.slice I2 (g+o) I1).ownBlock=some j->I.heap.size<=j:=fun j q=>by
  rcases t6.out with e | e
  ·rw [e] at q;have G1:w0=j:=(by first | (simpa [Value.ownBlock] using q) | exact q | (cases q;rfl));omega
  ·rw [e] at q;cases q;exact D2
 have A4:∀ j,(Value.slice f6 (g+o+H) f5).ownBlock=some j->I.heap.size<=j:=fun j q=>by
  rcases w9 with e | e
  ·rw [e] at q;exact p8 j q
  ·rw [e] at q;cases q;exact D3
 have c1:Ext I X:=k4.after y8 (fun b hb e=>by have:=p8 b e;omega);have l9:=Zh A4;refine hK.out _ _ trivial (fun _=>?_);clear hK K p8 A4 w9;try simp only [Act.put]
 refine tE 9 12 trivial ?_;try simp only [Act.put]
 refine Z0 kz ?_ _;have q3:X.ownsRow (r+1) 26 2 (.slice f6 (g+o+H) f5) (g+o+H) (Qx M):=by rw [E4.out,<-Zl];exact x7
 have B5:=(Vz q3).1;have k2:=Zh q3;have z0:=Q6 v3.out c1;have z1:=Q6 v4.out c1;have x1:=Q6 l7.out c1;have o4:=o3.trans c1;have y6:Q0 (fun b=>(Value.slice a2 p a1).ownBlock=some b) E X:=v2.out.trans (Ext.of c1);have I0:r+1<=X.heap.size:=Nat.le_trans H9 c1.size;obtain⟨m6,v5,l8,m5⟩:=Zh4 z0 z1 x1 y6;clear q3 z0 z1 x1 y6 x7 y8 k9 y7 o9 g2 k4 c1 j8 u8 F6 u7 t6 m4 v3 v4 l7 v2 D2 D3 A5 r0 t4 o3;by_cases w3:32<g+o+H
 ·have w1:(32:Int)<((g:Int)+(o:Int)+(H:Int)):=by omega
  have w2:(32:Int)<((g+o+H:Nat):Int):=by omega
  obtain⟨g3,g4⟩:=S2 u9.out (show 32<M.length by rw [m1.out];exact w3);have l5:=Zh g3;have D5:=Zh g4;clear g3 g4;go_wp2;exact bodyPost_ret (Jd rfl _ _ _) rfl ⟨_,_,by rw [l5.out];rfl,by rw [D5.out];exact Xw.nil _ _,g8.trans o4⟩
 have w1:¬ ((32:Int)<((g:Int)+(o:Int)+(H:Int))):=by omega
 have w2:¬ ((32:Int)<((g+o+H:Nat):Int)):=by omega
 have A8:=Ml f9.out (x:=(i,M)) (by show M.length<=32;rw [m1.out];omega);have j9:=Zh A8;have C1:X.ownsRow (r+1) 23 1 (.slice W p V) p d6:=by have:=v5.out;rw [b7.out] at this;exact this
 have e3:=Zh C1;obtain⟨j3,B6⟩:=zE (g+o+H);rw [B6] at B5 k2 w3 w2 l9 ⊢;have E2:=Zh B6;clear A8 C1 f9 u9 v5
 go_wp2_with (at_builtin;refine Qo rfl (.tmp 64) (.tmp 66) 74 rfl (r+1) 23 _ 1 24 Tryz.underlying74 Tryz.infoW2 rfl zd _ _ _ rfl (Q6 e3.out ((Q0.refl _ X).alloc _)) ⟨X.heap.size,0,none⟩ 1 1 [.slice f6 j3 f5] rfl rfl (Qn rfl) ?d2 ?d3 ?d4 ?d5 ?_)
 case d2=>first | rfl | (intro u b1;simp at b1;rcases b1 with rfl;rfl)
 case d3=>unfold maxLen;omega
 case d4=>omega
 case d5=>first | omega | (simp;omega)
 intro c0 d8 O p1 y5 w8;have d1:Q0 (fun b=>(Value.slice W p V).ownBlock=some b) X O:=Q0.trans ((Q0.refl _ X).alloc _) y5;have D0:Q0 (fun b=>(Value.slice a2 p a1).ownBlock=some b\/(Value.slice W p V).ownBlock=some b) E O:=(m5.out.mono fun b _ e=>.inl e).trans (d1.mono fun b _ e=>.inr e);have q4:=Qi k2.out d1 (fun j q e=>Ji e3.out k2.out zd j e q);have C0:Qk O (.slice f6 j3 f5) M:=by
  have w4:=q4;have G3:=B5;rw [show j3=M.length by rw [m1.out,E2.out]] at w4 G3 ⊢;exact Qk.own w4 E3.out
 have r2:=Qi m6.out d1 (fun j q e=>Ji m6.out e3.out zd j q e);have z4:(Value.slice c0 (p+1) d8).ownBlock=(Value.slice W p V).ownBlock\/∃ k,E.heap.size<=k/\(Value.slice c0 (p+1) d8).ownBlock=some k:=w8.imp id fun e=>⟨_,by have:=m5.out.size;first | omega | (simp;omega),e⟩;have z2:Xg O (.slice b9 (p+1) d7) (.slice c0 (p+1) d8) (.slice f6 j3 f5):=Xg.own r2 p1 q4 zd zd;have i2:=e5.out.push2 (i:=i) C0 z2 (by rw [b7.out];exact r2) (by rw [b7.out];exact p1) D0 t7.out z4;have i4:=Qi l8.out d1 (fun j q e=>Ji e3.out l8.out zd j e q)
 have i1:Off (.slice L (g+o) J) (d6++[.slice f6 j3 f5]):=fun y f4=>by
  rcases List.mem_append.1 f4 with f4 | f4
  ·exact u4.out y f4
  ·simp only [List.mem_singleton] at f4;subst f4;intro j K7 K6 c e J7 i9;cases e;have J9:=l9.out j rfl;have K0:=u0.out j i9;omega
 have B0:∀ b,b<r+1->¬ ((Value.slice W p V).ownBlock=some b):=fun b hb e=>by have:=(e3.out.lt _ e).1;omega
 have k7:Ext a6 O:=o4.after d1 (fun b hb e=>B0 b (by have:=e6.out;omega) e);obtain⟨b6,a8,b2⟩:=Zh3 i2 i4 i1;have k3:Hid ((N++[(i,M)]).length=p+1):=Zh (by rw [List.length_append,b7.out];rfl);have K4:r+1<=O.heap.size:=Nat.le_trans I0 d1.size;clear q4 C0 r2 z4 z2 i2 i4 i1 B0 p1 y5 w8 d1 D0 m6 l8 e3 e2 m5 k2 e5 u4 t7 l9 u0 o4;by_cases b0:f=0;case neg=>
  have H0:((f:Int) == 0)=false:=by simp;omega
  have Q:=E6.out b0;have e0:=Zh Q;have d9:=Zh b0;clear Q b0;go_wp2;exact⟨⟨i+f,N++[(i,M)],d++P,g+o,p+1,b9,c0,L,d7,d8,J,_,tz,⟨rfl,rfl,rfl,rfl,rfl,rfl,by first | rfl | (simp;done)⟩,e0.out,j9.out,j5.out,k3.out,a8.out,f8.out,b2.out,b6.out,k7⟩,by have:=d9.out;simp [intOf];omega⟩
 have H0:((f:Int) == 0)=true:=by simp;omega
 have Q:=E5.out b0;by_cases i5:i<F
 ·have a9:(i:Int)+(f:Int)<(F:Int):=by omega
  obtain⟨j,c8,a4,a5,rfl,f2,e9,U,q2⟩:=t8.out O (g8.trans k7) i5;rw [Q1r (by rw [B.out];exact i5),f2,show i+1=i+f+1 by omega] at Q;have e0:=Zh Q;rw [show i*2=(i+f)*2 by omega] at e9 U;have d9:=Zh b0;have H5:((i:Int)+(f:Int)).toNat=i+f:=by omega
  have H2:(0:Int)<=(i:Int)+(f:Int):=by omega
  clear Q f2 b0
  go_wp2_with (at_builtin;refine Qo rfl (.tmp 77) (.tmp 82) 23 rfl (r+1) 26 _ 2 8 Tryz.underlying23 @Yt rfl zd _ _ _ rfl (Q6 a8.out ((Q0.refl _ O).alloc _)) ⟨O.heap.size,0,none⟩ 1 1 [.int .u32 (a4:Int),.int .u32 (a5:Int)] rfl rfl (Qn rfl) (Us _ _) ?b3 ?b4 ?b5 ?_)
  case b3=>unfold maxLen;omega
  case b4=>omega
  case b5=>first | omega | (simp;omega)
  intro k6 k5 m9 x0 y4 w6;have t5:Q0 (fun b=>(Value.slice L (g+o) J).ownBlock=some b) O m9:=Q0.trans ((Q0.refl _ O).alloc _) y4;have w7:(Value.slice k6 (g+o+1) k5).ownBlock=(Value.slice L (g+o) J).ownBlock\/∃ k,O.heap.size<=k/\(Value.slice k6 (g+o+1) k5).ownBlock=some k:=w6.imp id fun e=>⟨_,by first | omega | simp | (simp;omega),e⟩;have x9:=b6.out.turn a8.out t5 b2.out;have x5:=b2.out.same b6.out.low w7;have G4:Ext a6 m9:=k7.after t5 (fun b hb e=>by have:=(a8.out.lt _ e).1;have:=e6.out;omega);have z8:m9.ownsRow (r+1) 26 2 (.slice k6 (g+o+1) k5) (g+o+1) (Qx (d++P++[(a4,a5)])):=by rw [Zl];exact x0
  obtain⟨F0,E8,D7⟩:=Zh3 x9 x5 z8;clear x9 x5 z8 x0 t5 y4 w6 w7 e9 U H5 H2;go_wp2;exact⟨⟨i+f+1,N++[(i,M)],_,g+o+1,p+1,b9,c0,k6,d7,d8,k5,_,tz,⟨rfl,rfl,rfl,rfl,rfl,rfl,by first | rfl | (simp;done)⟩,e0.out,j9.out,(by rw [List.length_append,j5.out];rfl),k3.out,D7.out,(fun a3 s=>by rcases List.mem_append.1 s with s | s;exact f8.out a3 s;simp only [List.mem_singleton] at s;subst s;exact q2),E8.out,F0.out,G4⟩,by have:=d9.out;simp [intOf];omega⟩
 ·have a9:¬ ((i:Int)+(f:Int)<(F:Int)):=by omega
  rw [Eh (by rw [B.out];omega),List.append_nil,show i+1=i+f+1 by omega] at Q;have e0:=Zh Q;have d9:=Zh b0;clear Q b0;go_wp2
  first
   | exact⟨⟨i+f+1,N++[(i,M)],d++P,g+o,p+1,b9,c0,L,d7,d8,J,_,tz,⟨rfl,rfl,rfl,rfl,rfl,rfl,by first | rfl | (simp;done)⟩,e0.out,j9.out,j5.out,k3.out,a8.out,f8.out,b2.out,b6.out,k7⟩,by have:=d9.out;simp [intOf];omega⟩
   | exact⟨⟨i+f+1,N++[(i,M)],d++P,g+o,p+1,b9,c0,L,d7,d8,J,⟨⟨rfl,rfl,rfl⟩,⟨rfl,rfl,rfl⟩,⟨rfl,rfl,rfl⟩,by simp⟩,e0.out,j9.out,j5.out,k3.out,a8.out,f8.out,_,b2.out,b6.out⟩,by have:=d9.out;simp [intOf];omega⟩
theorem Q8g{w:World}{l:Q7}{cs:List Value}{vo:Option Addr}{vc:Nat}{ws:Wd}(a0:Zq w l cs)(c0:Q4 w (.slice vo ws.length vc) ws) (Z:ws.length<=vc) (n2:Zv l=true) (s3:l.mode=3) (c1:ws.length<=32) :
  Calls Tryz.prog 180 #[.agg cs.toArray,.slice vo ws.length vc] w fun e w'=>∃ u v,e=.returned (.tuple #[u,v,.int .i64 (Ff (Qq l ws))])/\Xw w.heap.size w' u v (Mi (Qq l ws))/\Ext w w':=by
 obtain⟨s0,s2,n0,_,m7,_,_,_⟩:=Um n2;have m8:=fun(I:World) (J:Ext w I) (d:Wd) (p:Option Addr) (f j:Nat) (t:d.length=f) (r:Q4 I (.slice p f j) d) (Y:f<=32) (i:Nat) (hi:i<=f)=>Rr (a0.ext J) r t i oz oz;have o0:=fun(I:World) (J:Ext w I) (d:Wd) (p:Option Addr) (f j:Nat) (t:d.length=f) (r:Q4 I (.slice p f j) d) (Z:f<=j) (Y:f<=32) (i:Nat) (hi:Y1 l d i=true)=>P4 (a0.ext J) r t Z i (by rw [<-t];exact V6 hi) m7 oz oz;have f3:=Q4r c0
 have n6:∀(d:Wd) (i:Nat),Zn d->Zn (Ya l d i):=fun d i r=>by
  obtain⟨_,_,_,_,_,_,_,_,_,s4⟩:=a0;unfold Ya Ke;intro a4 s;rw [List.mem_append,List.mem_append] at s;rcases s with (s | s) | s
  ·exact r a4 (List.mem_of_mem_take s)
  ·exact W0 (fun a4 s=>r a4 (List.mem_of_mem_drop (List.mem_of_mem_take s))) s4.2 a4 s
  ·exact r a4 (List.mem_of_mem_drop s)
 obtain⟨p6,o9,q1,p1,p4,k3,k5,p7,k0,k7,p0,q2,p2,p5,k4,k6,p8,k1,c2,o8,G,o7,q0,k2,p9,p3,rfl,q7,r2,r3,q5,L,t3,t1,t2,a8,i6,t0,u5,u6,u7,u8,u9⟩:=Zu a0;obtain⟨t4,e9⟩:=zE (Qq l ws);rw [e9];have b9:Xy l ws [] ws (ws.length+1 - l.ifs.length):=Xy.start oz oz;rw [a8.out] at s0 n0 b9;rw [i6.out] at s2 n0;obtain⟨s9,g3⟩:=zE ws.length;rw [g3] at c0 Z f3 c1 b9 ⊢;have s6:=c1;obtain⟨q4,r4,i4,r1,j3,j2,j6,j9⟩:=Zh8 m8 o0 f3 n6 e9 b9 c0 g3;clear a0 c0 m8 o0 f3 n6 e9 b9 m7 n2 s3 q5 L r2 r3 q7 g3;go_enter Tryz.func180,Tryz.ntmps180;go_upto_region 1 with (fail)
 obtain⟨a5,a1⟩:=zE (w.alloc (.cells #[.string p6,.int .i64 o9,.int .u32 (q1:Int),.int .u32 (p1:Int),.bool p4,.int .i64 k3,.int .i64 k5,.slice p7 k0 k7,.int .i64 p0,.int .u32 (q2:Int),.int .u32 (p2:Int),.bool p5,.int .i64 k4,.int .i64 k6,.slice p8 k1 c2,.slice o8 G o7,.slice q0 k2 p9,.int .i64 p3] 50));have l1:Ext w a5:=by rw [<-a1];exact(Q0.refl _ w).alloc _
 have b5:a5.heap[w.heap.size]?=some (.cells #[.string p6,.int .i64 o9,.int .u32 (q1:Int),.int .u32 (p1:Int),.bool p4,.int .i64 k3,.int .i64 k5,.slice p7 k0 k7,.int .i64 p0,.int .u32 (q2:Int),.int .u32 (p2:Int),.bool p5,.int .i64 k4,.int .i64 k6,.slice p8 k1 c2,.slice o8 G o7,.slice q0 k2 p9,.int .i64 p3] 50 (0,0)):=by rw [<-a1];exact Q3 rfl
 have g1:a5.heap.size=w.heap.size+1:=by rw [<-a1];simp
 rw [a1];obtain⟨C,e4⟩:=zE w.heap.size;rw [e4] at b5 g1 ⊢;obtain⟨q6,i1,d9⟩:=Zh3 b5 e4 g1;have m0:=j6.out.ext l1;have j7:=Zh m0;have r6:=cell_of_row _ _ 15 _ _ _ b5;clear a1 e4 b5 g1 m0 j6;go_wp2
 refine wp_loop (fun a O=>∃(K:Int) (F:List (Nat × Wd)) (d:Wd) (f:Nat) (p:Option Addr) (j:Nat) (c:Nat) (z B:Option Addr) (y A:Nat) (g6:List Value),a.defers=[]/\gS a [1,2,7,8,9,10]=(51,[.slice p f j,.pointer (some ⟨C,0,none⟩),.slice z c y,.slice B c A,.int .i64 G,.int .i64 K]) /\
   ((∃ Q,Xy l ws F d Q/\((Q:Int)=K+1\/(Q=0/\K<0)))/\-10<=K/\K<=40)/\X7 F=false/\d.length=f/\f<=32/\F.length=c/\Q4 O (.slice p f j) d/\f<=j/\Xg O (.slice z c y) (.slice B c A) (.slice p f j)/\TrP (C+1) O (.slice z c y) (.slice B c A) g6 F/\Ext a5 O)
  (fun a _=>(intOf (a.tmps.getD 10 undef)+1).toNat) ?_ ?_
 ·exact⟨_,[],ws,s9,vo,vc,0,none,none,0,0,[],rfl,rfl,⟨⟨_,j2.out,by omega⟩,by omega,by omega⟩,rfl,j9.out,c1,rfl,j7.out,Z,i4.out.mono fun g hg=>⟨by have:=d9.out;have:=i1.out;omega,(fun e=>by cases e),(fun e=>by cases e)⟩,TrP.nil _ _,Q0.refl _ _⟩
 clear j2 j7 i4 r6 Z c1;rintro⟨v1,_⟩ I ⟨K,F,d,f,p,j,c,z,B,y,A,g6,r8,o1,⟨⟨Q,P,m9⟩,s7,s8⟩,n4,o4,Y,o2,o6,r,m1,l4,J⟩;subst r8;obtain⟨u,rfl⟩:=Qc o1;clear o1;have d1:=Zh (J.keep q6.out);have e7:=l1.trans J;have u0:c<=33:=by obtain⟨_,t9,_,_⟩:=P;have:=j9.out;have:=s6;omega
 obtain⟨a7,U,T,e2,g7,d7⟩:=Zh6 n4 o4 o2 o6 m1 l4;clear n4 o4 o2 o6 m1 l4;by_cases f1:0<=K;case neg=>
  have r9:Q=0:=by omega
  subst r9;have m6:=P.done;rw [j3.out] at m6;subst m6;obtain⟨W,X⟩:=Tq a7.out;have E:=d7.out.out;rw [<-X] at E;have d0:=Zh W;have r0:=Zh E;clear W X E m9 P;go_wp2;exact bodyPost_ret (Jd rfl _ _ _) rfl ⟨_,_,by rw [d0.out];rfl,r0.out.base (by have:=i1.out;omega),e7⟩
 obtain⟨i,rfl⟩:=Int.eq_ofNat_of_zero_le f1;obtain rfl:Q=i+1:=by omega
 have u1:i<=40:=by omega
 have f1:=P.le;rw [U.out,a8.out] at f1;have a6:=Zh P;clear P m9 s7 s8;have f2:=q4.out I e7 d p f j U.out e2.out Y i oz;obtain⟨g4,f7⟩:=zE (Y1 l d i);rw [f7] at f2;have i3:=Zh f2;have b0:=Zh f7;clear f2 f7
 go_wp2_with (refine wpList_load_row rfl 50 (.tmp 2) rfl C rfl _ _ _ _ d1.out Tryz.underlying50 rfl Tryz.lawInfo ?_)
 refine i3.out.mono ?_;rintro e O ⟨rfl,m⟩;have e8:=e7.trans m;have e5:=J.trans m;obtain⟨d6,b1,g9,d8⟩:=Zh4 (m.keep d1.out) (e2.out.ext m) (g7.out.ext m) (d7.out.ext m);clear m d1 e2 g7 d7 i3;cases g4
 ·have n5:=a6.out.miss b0.out;have q9:=Zh n5;clear n5 a6;go_wp2;exact⟨⟨(i:Int) - 1,F,d,f,p,j,c,z,B,y,A,g6,tz,rfl,⟨⟨i,q9.out,by omega⟩,by omega,by omega⟩,a7.out,U.out,Y,T.out,b1.out,r,g9.out,d8.out,e5⟩,mz⟩
 obtain⟨b6,v0,b8⟩:=a6.out.hit b0.out;have f8:=V7 (V6 b0.out);have b7:=r4.out O e8 d p f j U.out b1.out r Y i b0.out;have g0:=r1.out d i b1.out.2;rw [U.out,a8.out,i6.out] at f8;rw [a8.out] at b6;obtain⟨o,n9⟩:=zE (Ya l d i);rw [n9] at b6 b8 f8 b7 g0;obtain⟨H,f9⟩:=zE o.length;rw [f9] at f8 b7;rw [j3.out] at b8;obtain⟨i7,j1,j0,r5,N⟩:=Zh5 b6 b8 b7 g0 f9;clear b6 b8 b7 g0 n9 f9 a6
 go_wp2_with (refine wpList_load_row rfl 50 (.tmp 2) rfl C rfl _ _ _ _ d6.out Tryz.underlying50 rfl Tryz.lawInfo ?_)
 refine j0.out.mono ?_;rintro e q ⟨x,rfl,E,m⟩;have l3:=e8.trans m;have e6:=e5.trans m;have q8:=Zh (m.keep d6.out);have M:=Zh (d8.out.ext m);obtain⟨a3,a2,rfl⟩:=Qu E;have u2:=(Vz E).1;have n7:Qk q (.slice a3 H a2) o:=by
  have k8:=E;rw [<-N.out] at k8 ⊢;exact Qk.own k8 r5.out
 have m2:Xg q (.slice z c y) (.slice B c A) (.slice a3 H a2):=Xg.own M.out.ou M.out.ov E zd zd;have i8:=Zh n7;have g8:=Zh m2;clear n7 m2 E m d6 d8 g9 b1 j0 e8 e5;by_cases r7:32<H
 ·have t7:(32:Int)<(H:Int):=by omega
  obtain⟨W,X⟩:=S2 j1.out (show 32<o.length by rw [N.out];exact r7);have d0:=Zh W;have q3:=Zh X;clear W X;go_wp2;exact bodyPost_ret (Jd rfl _ _ _) rfl ⟨_,_,by rw [d0.out];rfl,by rw [q3.out];exact Xw.nil _ _,l3⟩
 have t8:¬ ((32:Int)<(H:Int)):=by omega
 have n3:=Ml a7.out (x:=(i,o)) (by show o.length<=32;rw [N.out];omega);have i5:=Zh n3;have f5:=M.out.ou;have f6:=M.out.ov;rw [T.out] at f5 f6;have L:=Zh f5;have a9:=Zh f6;have u3:C+1<=q.heap.size:=by have:=e6.size;have:=d9.out;omega
 clear n3 f5 f6 a7 j1
 go_wp2_with (at_builtin;refine Qo rfl (.tmp 34) (.tmp 36) 36 rfl (C+1) 3 _ 1 8 Tryz.underlying36 Tryz.infoI rfl zd _ _ _ rfl (Q6 L.out ((Q0.refl _ q).alloc _)) ⟨q.heap.size,0,none⟩ 1 1 [.int .i64 i] rfl rfl (Qn rfl) ?c2 ?c3 ?c4 ?c5 ?_)
 case c2=>first | rfl | (intro u t;simp at t;rcases t with rfl;rfl)
 case c3=>unfold maxLen;omega
 case c4=>omega
 case c5=>first | omega | (simp;omega)
 intro b2 c8 V l8 l6 k9;have c7:Q0 (fun b=>(Value.slice z c y).ownBlock=some b) q V:=Q0.trans ((Q0.refl _ q).alloc _) l6;have o5:=Qi a9.out c7 (fun g hg e=>Ji L.out a9.out zd g e hg);have m4:(Value.slice b2 (c+1) c8).ownBlock=(Value.slice z c y).ownBlock\/∃ k,q.heap.size<=k/\(Value.slice b2 (c+1) c8).ownBlock=some k:=k9.imp id fun e=>⟨_,by first | omega | simp | (simp;omega),e⟩;obtain⟨e0,e1,j4,i2⟩:=Zh4 l8 o5 c7 m4;have u4:=c7.size;clear l8 l6 k9 c7 o5 m4
 go_wp2_with (at_builtin;refine Qo rfl (.tmp 38) (.tmp 40) 74 rfl (C+1) 23 _ 1 24 Tryz.underlying74 Tryz.infoW2 rfl zd _ _ _ rfl (Q6 e1.out ((Q0.refl _ V).alloc _)) ⟨V.heap.size,0,none⟩ 1 1 [.slice a3 H a2] rfl rfl (Qn rfl) ?d2 ?d3 ?d4 ?d5 ?_)
 case d2=>first | rfl | (intro u t;simp at t;rcases t with rfl;rfl)
 case d3=>unfold maxLen;omega
 case d4=>omega
 case d5=>first | omega | (simp;omega)
 intro b3 c9 e3 l9 l7 l0;have g5:Q0 (fun b=>(Value.slice B c A).ownBlock=some b) V e3:=Q0.trans ((Q0.refl _ V).alloc _) l7;have c6:Q0 (fun b=>(Value.slice z c y).ownBlock=some b\/(Value.slice B c A).ownBlock=some b) q e3:=(j4.out.mono fun b _ e=>.inl e).trans (g5.mono fun b _ e=>.inr e);have m5:(Value.slice b3 (c+1) c9).ownBlock=(Value.slice B c A).ownBlock\/∃ k,q.heap.size<=k/\(Value.slice b3 (c+1) c9).ownBlock=some k:=l0.imp id fun e=>⟨_,by first | omega | (simp;omega),e⟩;have o3:=Qi e0.out g5 (fun g hg e=>Ji e0.out e1.out zd g hg e);obtain⟨l5,s5,m3⟩:=M.out.push (i:=i) i8.out g8.out (by rw [T.out];exact o3) (by rw [T.out];exact l9) c6 i2.out m5
 have f4:∀ b,b<C+1->¬ ((Value.slice z c y).ownBlock=some b\/(Value.slice B c A).ownBlock=some b):=fun b hb e=>by
  rcases e with e | e
  ·have:=(L.out.lt _ e).1;omega
  ·have:=(a9.out.lt _ e).1;omega
 have l2:Ext a5 e3:=e6.after c6 (fun b hb e=>f4 b (by have:=d9.out;omega) e);have n1:=c6.heap q8.out (f4 C oz);have t6:=cell_of_row _ _ 16 _ _ _ n1;obtain⟨t5,c5,n8,g2,f0⟩:=s5;rw [N.out] at n8 g2 f0;cases n8;obtain⟨i9,j8,i0⟩:=Zh3 l5 g2 m3;have j5:Hid ((F++[(i,o)]).length=c+1):=Zh (by rw [List.length_append,T.out];rfl);clear l5 g2 m3 n1 l9 l7 l0 g5 c6 m5 o3 f4 e0 e1 j4 i2 M g8 i8 L a9 e6 l3;by_cases b4:G=0
 ·have s1:((G:Int) == 0)=true:=by simp;omega
  have S:=Zh b4;clear b4;go_wp2;exact⟨⟨(i:Int) - G - 1,F++[(i,o)],o,H,a3,a2,c+1,b2,b3,c8,c9,_,tz,(Prod.ext rfl (lE rfl (lE rfl (lE rfl (lE rfl (lE rfl (lE (by first | rfl | (simp;done)) rfl))))))),⟨⟨_,i7.out,by have:=S.out;omega⟩,by omega,by omega⟩,i5.out,N.out,by omega,j5.out,j8.out,f0,i0.out,i9.out,l2⟩,by have:=S.out;simp [intOf];omega⟩
 ·have s1:((G:Int) == 0)=false:=by simp;omega
  have S:=Zh b4;clear b4;go_wp2;exact⟨⟨(i:Int) - G,F++[(i,o)],o,H,a3,a2,c+1,b2,b3,c8,c9,_,tz,(Prod.ext rfl (lE rfl (lE rfl (lE rfl (lE rfl (lE rfl (lE (by first | rfl | (simp;done)) rfl))))))),⟨⟨_,i7.out,by have:=S.out;omega⟩,by omega,by omega⟩,i5.out,N.out,by omega,j5.out,j8.out,f0,i0.out,i9.out,l2⟩,by have:=S.out;simp [intOf];omega⟩
theorem Qdx{l:Q7}{ws:Wd}(h:X9 l ws=0):trE l ws=Ff (Qq l ws)/\trT l ws=Mi (Qq l ws):=by
 have a:trE l ws=Ff (Qq l ws):=by unfold trE Ff;rw [if_pos h]
 refine⟨a,?_⟩;unfold trT;rw [a];unfold Ff Mi;cases X7 (Qq l ws) <;> simp
theorem Q3q{w:World}{l:Q7}{cs:List Value}{vo:Option Addr}{vc:Nat}{ws:Wd}(r:Zq w l cs)(E:Q4 w (.slice vo ws.length vc) ws) (M:ws.length<=vc) :
  Calls Tryz.prog 167 #[.agg cs.toArray,.slice vo ws.length vc] w fun e w'=>∃ u v,e=.returned (.tuple #[u,v,.int .i64 (trE l ws)])/\Xw w.heap.size w' u v (trT l ws)/\Ext w w':=by
 have N:=fun(V:World) (a:Ext w V)=>Q0b (r.ext a) (E.ext a);have y:=fun(V:World) (a:Ext w V) (f:Zv l=true) (c:l.mode=1) (p:ws.length<=32)=>Qat (r.ext a) (E.ext a) M f c p;have B:=fun(V:World) (a:Ext w V) (f:Zv l=true) (c:l.mode=2) (p:ws.length<=32)=>Q6v (r.ext a) (E.ext a) M f c p;have A:=fun(V:World) (a:Ext w V) (f:Zv l=true) (c:l.mode=3) (p:ws.length<=32)=>Q8g (r.ext a) (E.ext a) M f c p;have C:=@Qdx l ws
 have L:X9 l ws≠0->trE l ws=X9 l ws/\trT l ws=[]:=fun h=>by
  have:trE l ws=X9 l ws:=by unfold trE;rw [if_neg h]
  refine⟨this,?_⟩;unfold trT;rw [this,if_neg h]
 have z:X9 l ws=0->Zv l=true/\(1<=l.mode/\l.mode<=3)/\ws.length<=32:=fun h=>by
  obtain⟨f,c⟩:=Hi h;obtain⟨_,_,_,p,_⟩:=Um f;exact⟨f,p,Jy c⟩
 obtain⟨g9,c2⟩:=zE ws.length;rw [c2] at N y B A z ⊢;obtain⟨d1,c5,d6,c7,c9,b3,b5,d2,a9,b7,c6,d7,c8,d0,b4,b6,d3,b0,b8,c4,b1,c3,d5,b2,d4,k,rfl,e7,f4,f5,e6,f3,f2,e8,e9,f0,f1,e3,g4,g5,g6,g7,g8⟩:=Zu r;rw [e3.out] at y B A z;obtain⟨i,q⟩:=zE (X9 l ws);obtain⟨f7,c0⟩:=zE (Qq l ws);obtain⟨e4,a⟩:=zE (trE l ws);obtain⟨f8,W⟩:=zE (trT l ws);rw [q] at N C L z;rw [c0] at y B A C;rw [a,W] at C L;rw [a,W];obtain⟨a4,a2,a7,a6,a8,a3,a5⟩:=Zh7 N y B A C L z;clear r E M N y B A C L z q c0 a W c2;go_enter Tryz.func167,Tryz.ntmps167;go_upto_region 1 with (fail)
 obtain⟨a0,F⟩:=zE (w.alloc (.cells #[.string d1,.int .i64 c5,.int .u32 (d6:Int),.int .u32 (c7:Int),.bool c9,.int .i64 b3,.int .i64 b5,.slice d2 a9 b7,.int .i64 c6,.int .u32 (d7:Int),.int .u32 (c8:Int),.bool d0,.int .i64 b4,.int .i64 b6,.slice d3 b0 b8,.slice c4 b1 c3,.slice d5 b2 d4,.int .i64 k] 50));have T:Ext w a0:=by rw [<-F];exact(Q0.refl _ w).alloc _
 have X:a0.heap[w.heap.size]?=some (.cells #[.string d1,.int .i64 c5,.int .u32 (d6:Int),.int .u32 (c7:Int),.bool c9,.int .i64 b3,.int .i64 b5,.slice d2 a9 b7,.int .i64 c6,.int .u32 (d7:Int),.int .u32 (c8:Int),.bool d0,.int .i64 b4,.int .i64 b6,.slice d3 b0 b8,.slice c4 b1 c3,.slice d5 b2 d4,.int .i64 k] 50 (0,0)):=by rw [<-F];exact Q3 rfl
 have Z:a0.heap.size=w.heap.size+1:=by rw [<-F];simp
 rw [F];obtain⟨G,S⟩:=zE w.heap.size;rw [S] at X Z ⊢;obtain⟨O,e5,f6⟩:=Zh3 X S Z;clear F X S Z
 go_wp2_with (refine wpList_load_row rfl 50 (.tmp 2) rfl G rfl _ _ _ _ O.out Tryz.underlying50 rfl Tryz.lawInfo ?_)
 refine(a4.out _ T).mono ?_;rintro e a1 ⟨rfl,d⟩;have j:=T.trans d;have J:=Zh (d.keep O.out);clear d T O a4;by_cases P:i=0;case neg=>
  have g2:(i != 0)=true:=by rw [bne_iff_ne];exact P
  obtain⟨rfl,rfl⟩:=a3.out P;go_wp2;exact bodyPost_ret (Jd rfl _ _ _) rfl ⟨_,_,rfl,Xw.nil _ _,j⟩
 subst P;obtain⟨b9,c1⟩:=a8.out rfl;obtain⟨Y,g3,Q⟩:=a5.out rfl;have R:=fun(V:World) (a:Ext w V) (c:k=1)=>a2.out V a Y c Q;have q:=fun(V:World) (a:Ext w V) (c:k=2)=>a7.out V a Y c Q;have U:=fun(V:World) (a:Ext w V) (c:k=3)=>a6.out V a Y c Q;rw [<-b9,<-c1] at R q U;obtain⟨H,K,I⟩:=Zh3 R q U;clear R q U a2 a7 a6 a8 a3 a5 b9 c1;have f9:=cell_of_row _ _ 17 _ _ _ J.out;by_cases f:k=1
 ·subst f;have s:=Zh (fun V a=>H.out V a rfl);clear H K I;have o:=s.out a1 j;have m:=Zh o;clear o
  go_wp2_with (refine wpList_load_row rfl 50 (.tmp 2) rfl G rfl _ _ _ _ J.out Tryz.underlying50 rfl Tryz.lawInfo ?_)
  refine m.out.mono ?_;rintro e e0 ⟨u,v,rfl,g,d⟩;have x:=j.trans d;obtain⟨d9,d8,e2,e1,rfl,rfl,_⟩:=g.slices;have t:=Zh (g.base (b':=w.heap.size) j.size);clear g d m;go_wp2;exact bodyPost_ret (Jd rfl _ _ _) rfl ⟨_,_,rfl,t.out,x⟩
 have g0:(k == 1)=false:=by rw [beq_eq_false_iff_ne];exact f
 by_cases c:k=2
 ·subst c;have s:=Zh (fun V a=>K.out V a rfl);clear H K I;have o:=s.out a1 j;have m:=Zh o;clear o
  go_wp2_with (refine wpList_load_row rfl 50 (.tmp 2) rfl G rfl _ _ _ _ J.out Tryz.underlying50 rfl Tryz.lawInfo ?_)
  refine m.out.mono ?_;rintro e e0 ⟨u,v,rfl,g,d⟩;have x:=j.trans d;obtain⟨d9,d8,e2,e1,rfl,rfl,_⟩:=g.slices;have t:=Zh (g.base (b':=w.heap.size) j.size);clear g d m;go_wp2;exact bodyPost_ret (Jd rfl _ _ _) rfl ⟨_,_,rfl,t.out,x⟩
 have g1:(k == 2)=false:=by rw [beq_eq_false_iff_ne];exact c
 ·obtain rfl:k=3:=by omega
  have s:=Zh (fun V a=>I.out V a rfl);clear H K I;have o:=s.out a1 j;have m:=Zh o;clear o
  go_wp2_with (refine wpList_load_row rfl 50 (.tmp 2) rfl G rfl _ _ _ _ J.out Tryz.underlying50 rfl Tryz.lawInfo ?_)
  refine m.out.mono ?_;rintro e e0 ⟨u,v,rfl,g,d⟩;have x:=j.trans d;obtain⟨d9,d8,e2,e1,rfl,rfl,_⟩:=g.slices;have t:=Zh (g.base (b':=w.heap.size) j.size);clear g d m;go_wp2;exact bodyPost_ret (Jd rfl _ _ _) rfl ⟨_,_,rfl,t.out,x⟩
theorem Q98{W:World}{b:Nat}(hb:b<=W.heap.size):(W.alloc (.cells #[] 26)).ownsRow b 26 2 (.slice (some ⟨W.heap.size,0,none⟩) 0 0) 0 []:=World.ownsRow_made (base:=b) (e:=26) (size:=2) W #[] 0 hb zd rfl
theorem Q6b{w:World}{l:Q7}{cs:List Value}{vo:Option Addr}{vc:Nat}{ws:Wd}(a5:Zq w l cs)(O:Q4 w (.slice vo ws.length vc) ws) (g8:ws.length<=vc) :
  Calls Tryz.prog 147 #[.agg cs.toArray,.slice vo ws.length vc] w fun e w'=>∃ u,e=.returned (.tuple #[u,.int .i64 (trE l ws)])/\Qk w' u (Jt l ws)/\Zj (fun g=>w.heap.size<=g) u/\Ext w w':=by
 have G:=fun(V:World) (A:Ext w V)=>Q3q (a5.ext A) (O.ext A) g8;have e1:=O.2;have N:trE l ws=0->ws.length<=32:=fun f=>Jy (Hi (Px f)).2
 have L:trE l ws=0->∀ a (p:a<(trT l ws).length),(trT l ws)[a].2.length<=32:=fun f a p=>by
  have e:trT l ws=Qq l ws:=by unfold trT;rw [if_pos f]
  have:=Cw (Bw f) (x:=(trT l ws)[a]) (by rw [<-e];exact List.getElem_mem _);exact this
 have v:=@Q1l l ws;have y:=@Es l ws;have K:=@Q0v l ws;obtain⟨g1,a8⟩:=zE ws.length;have b3:=Zh O;rw [a8] at G N b3 ⊢;obtain⟨f4,e7,f9,e9,f2,c0,c6,f5,b5,c8,e8,g0,f0,f3,c1,c7,f6,b6,c9,e6,b7,e5,f8,b8,f7,f1,rfl,i1,i9,j0,i0,i8,i7,i3,i4,i5,i6,i2,k1,k2,k3,k4,k5⟩:=Zu a5;obtain⟨b0,A⟩:=zE (trE l ws);obtain⟨b9,d7⟩:=zE (trT l ws);obtain⟨Q,d0⟩:=zE (Jt l ws);rw [A] at G N v y K L ⊢;rw [d7] at G v y L;rw [d0] at v y K ⊢;obtain⟨b2,g7,g5,S,T,U,b4,g3⟩:=Zh8 G N e1 v y K a8 L;clear a5 O G N e1 v y K L A d7 d0 a8;go_enter Tryz.func147,Tryz.ntmps147;go_upto_region 1 with (fail)
 obtain⟨a9,H⟩:=zE (w.alloc (.cells #[.string f4,.int .i64 e7,.int .u32 (f9:Int),.int .u32 (e9:Int),.bool f2,.int .i64 c0,.int .i64 c6,.slice f5 b5 c8,.int .i64 e8,.int .u32 (g0:Int),.int .u32 (f0:Int),.bool f3,.int .i64 c1,.int .i64 c7,.slice f6 b6 c9,.slice e6 b7 e5,.slice f8 b8 f7,.int .i64 f1] 50));have a1:Ext w a9:=by rw [<-H];exact(Q0.refl _ w).alloc _
 have a6:a9.heap[w.heap.size]?=some (.cells #[.string f4,.int .i64 e7,.int .u32 (f9:Int),.int .u32 (e9:Int),.bool f2,.int .i64 c0,.int .i64 c6,.slice f5 b5 c8,.int .i64 e8,.int .u32 (g0:Int),.int .u32 (f0:Int),.bool f3,.int .i64 c1,.int .i64 c7,.slice f6 b6 c9,.slice e6 b7 e5,.slice f8 b8 f7,.int .i64 f1] 50 (0,0)):=by rw [<-H];exact Q3 rfl
 have a7:a9.heap.size=w.heap.size+1:=by rw [<-H];simp
 rw [H];obtain⟨g2,a0⟩:=zE w.heap.size;rw [a0] at a6 a7 ⊢;obtain⟨b1,g9,j1⟩:=Zh3 a6 a0 a7;clear H a6 a0 a7
 go_wp2_with (refine wpList_load_row rfl 50 (.tmp 2) rfl g2 rfl _ _ _ _ b1.out Tryz.underlying50 rfl Tryz.lawInfo ?_)
 refine(b2.out _ a1).mono ?_;rintro e i ⟨u,k8,rfl,B,d6⟩;have n:=a1.trans d6;obtain⟨k7,k6,l0,k9,rfl,rfl,e4⟩:=B.slices;clear d6 a1 b1 b2;by_cases f:b0=0;case neg=>
  have j4:(b0 != 0)=true:=by rw [bne_iff_ne];exact f
  have j:=U.out f;subst j;clear B;go_wp2;go_ret2;exact⟨_,rfl,Qk.nil _,(show Zj (fun g=>w.heap.size<=g) (.slice none 0 0) from fun g o c Z e h=>by cases e),n⟩
 subst f;have k0:=g7.out rfl;obtain⟨c,q⟩:=zE b9.length;rw [q] at e4 ⊢;unfold maxLen at e4;have d1:Ext i (i.alloc (.cells #[] 26)):=(Q0.refl _ i).alloc _;have d2:=Q98 (W:=i) (b:=i.heap.size) (Nat.le_refl _);have J:=Zh d2;have k:=Zh d1;clear d2 d1;by_cases e0:c=0
 ·subst e0;have j:=S.out rfl q;have m:=(b3.out.ext (n.trans k.out)).1;rw [b4.out] at m;have r:=Zh m;have j9:((0:Nat):Int)=0:=rfl;clear B q S T U m
  go_wp2_with (at_builtin;refine X4 rfl (.tmp 22) (.tmp 23) 23 rfl i.heap.size 26 _ 2 8 Tryz.underlying23 @Yt rfl zd _ 0 [] rfl J.out _ _ _ _ rfl r.out (Jr _) ?c3 ?c4 ?c5 ?_)
  case c3=>unfold maxLen;omega
  case c4=>omega
  case c5=>exact k.out.size
  intro s t I d C _;try rw [Nat.zero_add] at d
  try rw [List.nil_append] at d
  try rw [Nat.zero_add]
  have a2:Ext i I:=k.out.after C (fun b hb e=>by have:=(J.out.lt b e).1;omega);have a3:=n.trans a2;have F:Qk I (.slice s g1 t) Q:=by
   rw [j];have z:=d;rw [<-b4.out] at z ⊢;exact Qk.own z g5.out
  have E:Zj (fun g=>w.heap.size<=g) (.slice s g1 t):=fun g o c Z e f=>by have:=(d.lt g (by rw [e];simp [Value.ownBlock])).1;have:=n.size;omega
  have Y:=Zh F;have X:=Zh E;clear d C j F r E;go_wp2;go_ret2;exact⟨_,rfl,Y.out,X.out,a3⟩
 ·obtain⟨a,rfl⟩:∃ a,c=a+1:=⟨c - 1,by omega⟩;have p:a<b9.length:=by omega
  obtain⟨g,j3,j2,Z,e3,M,P,d9⟩:=B.at p;have j:=T.out rfl q p;have d8:=g3.out rfl a p;rw [j] at M P d9 d8;rw [q] at e3;cases e3;have e2:=P.2;obtain⟨c2,a4⟩:=zE Q.length;have m:=(P.ext k.out).1;rw [a4] at M m d8;have j5:=k.out.cell_some M id;have j6:((a+1:Nat):Int) - 1=(a:Int):=by omega
  have j7:(((a+1:Nat):Int) == 0)=false:=by simp;omega
  have j8:(a:Int)<((a+1:Nat):Int):=by omega
  obtain⟨r,g4,g6⟩:=Zh3 m a4 e2;clear B q S T U P d9 j e0 m a4 e2 M p
  go_wp2_with (at_builtin;refine X4 rfl (.tmp 25) (.tmp 31) 23 rfl i.heap.size 26 _ 2 8 Tryz.underlying23 @Yt rfl zd _ 0 [] rfl J.out _ _ _ _ rfl r.out (Jr _) ?d3 ?d4 ?d5 ?_)
  case d3=>unfold maxLen;omega
  case d4=>omega
  case d5=>exact k.out.size
  intro s t I d C _;try rw [Nat.zero_add] at d
  try rw [List.nil_append] at d
  try rw [Nat.zero_add]
  have a2:Ext i I:=k.out.after C (fun b hb e=>by have:=(J.out.lt b e).1;omega);have a3:=n.trans a2;have F:Qk I (.slice s c2 t) Q:=by
   have z:=d;rw [<-g4.out] at z ⊢;exact Qk.own z g6.out
  have E:Zj (fun g=>w.heap.size<=g) (.slice s c2 t):=fun g o c Z e f=>by have:=(d.lt g (by rw [e];simp [Value.ownBlock])).1;have:=n.size;omega
  have Y:=Zh F;have X:=Zh E;clear d C F r E;go_wp2;go_ret2;exact⟨_,rfl,Y.out,X.out,a3⟩
theorem Qe4:(Tryz.prog.info? 23).map (fun i=>(i.zero,i.size,i.bytes))=some (some (.slice none 0 0),1,24):=by kernel_rfl
theorem Qbh{w:World}{e:TypeId}{base:Nat}(hb:base<=w.heap.size)(u:Value):(w.alloc (.cells #[u] e)).ownsRow base e 1 (.slice (some ⟨w.heap.size,0,none⟩) 1 1) 1 [u]:=
 World.ownsRow_lit w #[u] 1 hb (by unfold maxLen;omega) rfl
theorem Q9m{w:World}{v:Value}{ws:Wd}(k:Q4 w v ws)(V:ws.length<=300) :
  Calls Tryz.prog 146 #[v] w fun e w'=>∃ u,e=.returned u/\Qk w' u ws/\Ext w w':=by
 obtain⟨r,s,rfl,W⟩:=k.slice;have M:=Zh k;have E:=k.2;clear k W;obtain⟨c,j⟩:=zE ws.length;have l:=Zh j;have K:=Zh E;rw [j] at V;show Calls Tryz.prog 146 #[.slice r ws.length s] w _;rw [j];clear j E;go_enter Tryz.func146,Tryz.ntmps146;go_wp2
 refine wp_loop (fun b d=>∃(a:Nat) (i:Value),a<=c/\b.defers=[]/\gS b [0,3,4]=(19,[.slice r c s,i,.int .i64 a])/\d.ownsRow w.heap.size 26 2 i a (Qx (ws.take a))/\Ext w d)
  (fun b _=>c - (intOf (b.tmps.getD 4 undef)).toNat) ?_ ?_
 ·exact⟨0,_,by omega,rfl,rfl,World.ownsRow_nil _ _ _ _,Q0.refl _ _⟩
 rintro⟨a8,_⟩ d ⟨a,i,a6,S,F,z,g⟩;subst S;obtain⟨u,rfl⟩:=Qc F;clear F;have m:=Zh z;clear z;by_cases U:a<c
 ·have y:(a:Int)<(c:Int):=by omega
  have q:a<ws.length:=by rw [l.out];exact U
  obtain⟨a5,a7,a4,C,T,t,x⟩:=(M.out.ext g).at q;simp only [zV] at C;obtain⟨Q,X,R⟩:=C;clear X;subst Q;subst R;obtain⟨b,o⟩:=zE ((ws.getD a (0,0)).1);obtain⟨f,p⟩:=zE ((ws.getD a (0,0)).2);rw [o] at t;rw [p] at x;have G:Qx (ws.take (a+1))=Qx (ws.take a)++[.int .u32 (b:Int),.int .u32 (f:Int)]:=by
   rw [List.take_succ_eq_append_getElem q,Zl];have N:ws.getD a (0,0)=ws[a]:=by rw [List.getD_eq_getElem?_getD,List.getElem?_eq_getElem q];rfl
   have:ws[a]=(b,f):=by rw [<-N,<-o,<-p]
   rw [this];rfl
  have L:=Zh G;have Z:=g.size;clear o p G T
  go_wp2_with (at_builtin;refine Qo rfl (.tmp 11) (.tmp 16) 23 rfl w.heap.size 26 _ 2 8 Tryz.underlying23 @Yt rfl zd _ _ _ rfl (Q6 m.out ((Q0.refl _ d).alloc (.cells #[.int .u32 (b:Int),.int .u32 (f:Int)] 26))) ⟨d.heap.size,0,none⟩ 1 1 [.int .u32 (b:Int),.int .u32 (f:Int)] rfl rfl (Qn rfl) ?c2 ?c3 ?c4 ?c5 ?_)
  case c2=>first | rfl | (intro u H;simp only [List.mem_cons,List.not_mem_nil,or_false] at H;rcases H with rfl | rfl <;> rfl)
  case c3=>unfold maxLen;omega
  case c4=>omega
  case c5=>first | omega | (simp;omega)
  intro a1 c5 a0 n A _;have B:Q0 (fun b'=>i.ownBlock=some b') d a0:=Q0.trans (Q0.alloc (Q0.refl _ d) _) A;have P:=g.after B (fun b' y e=>by have:=(m.out.lt _ e).1;omega);rw [<-L.out] at n;have J:=Zh n;clear A B n g t x Z;go_wp2;exact⟨⟨a+1,_,by omega,tz,rfl,J.out,P⟩,nz⟩
 ·obtain rfl:a=c:=by omega
  have y:¬ (a:Int)<(a:Int):=by omega
  have D:Qk d i ws:=by
   have:=m.out;rw [List.take_of_length_le (by rw [l.out];exact Nat.le_refl _)] at this;obtain⟨a2,a3,Y⟩:=Qu this;subst Y;have O:=l.out;subst O;exact Qk.own this K.out
  have I:=Zh D;clear D;go_wp2;go_ret;exact⟨_,rfl,I.out,g⟩
theorem Qb8{LD:List Q7}{ws:Wd}(j:∀ l∈LD,∀ x∈l.outs,Xx x)(i:Zn ws)(h:U4 LD ws=0){k:Nat}(c:k<LD.length){u:Wd}(d:Zw (LD.take k) ws=some u) :
  (trE LD[k] u=0/\Zw (LD.take (k+1)) ws=some (Jt LD[k] u))\/(trE LD[k] u=11/\Ye LD ws=11):=by
 have e:Z4 LD=0/\wE ws=0:=by
  unfold U4 at h
  split at h
  ·rename_i a;exact⟨a,h⟩
  ·rename_i a;exact absurd h a
 have g:Zv LD[k]=true:=by
  have a:=e.1;unfold Z4 at a
  split at a
  ·cases a
  ·split at a
   ·rename_i _ f;exact List.all_eq_true.1 f _ (List.getElem_mem c)
   ·cases a
 have m:=Tx (fun l hl=>j l (List.mem_of_mem_take hl)) i e.2 d;rcases Q0h g m.1 with b | b
 ·refine .inl ⟨b,?_⟩;rw [Na c,d];simp [b]
 ·exact .inr ⟨b,(Fx h (Cl c d (by rw [b];decide))).1⟩
theorem Qc1{w:World}{base:Nat}{e:TypeId}{v:Value}{n:Nat}{xs:List Value}(h:w.ownsRow base e 1 v n xs):xs.length=n:=by
 have:=(Rd.of_own h).1;omega
theorem Q4d{w:World}{v:Value}{n:Nat}{xs:List Value}(h:Rd w v n 1 xs){k:Nat}(l:k<n):∃ g off cap,v=.slice (some ⟨g,off,none⟩) n cap/\g<w.heap.size/\w.cell? ⟨g,off+k,none⟩=some (xs.getD k undef):=by
 obtain⟨i,j,f,cap,e,a⟩:=h;obtain⟨g,off,b,d,c⟩:=a oz;exact⟨g,off,cap,by rw [e,b],d,c k oz⟩
def Qdp(E:Int)(n:Nat)(W:World)(v:Value)(u:Wd):Prop:=(E≠0->v=.slice none 0 0)/\(E=0->∃ ao c vs,v=.slice ao (n+1) c/\Rd W v (n+1) 1 vs/\Qk W (vs.getD n undef) u)
theorem Q6m{w:World}{ps:Qr}{lo:Option Addr}{n lc:Nat}{vo:Option Addr}{vc:Nat}{ws:Wd}(a0:Qt w (.slice lo n lc) ps) (a1:ps.length=n) (d1:Q4 w (.slice vo ws.length vc) ws) :
  Calls Tryz.prog 108 #[.slice lo n lc,.slice vo ws.length vc] w fun e w'=>∃ v,e=.returned (.tuple #[v,.int .i64 (Ye (ps.map (·.1)) ws)])/\Qdp (Ye (ps.map (·.1)) ws) n w' v (Yj (ps.map (·.1)) ws)/\Ext w w':=by
 have c6:=Lh a0 a1;have d4:=fun(r:World) (p:Ext w r)=>Hy (d1.ext p);have f2:=fun(r:World) (p:Ext w r) (h:ws.length<=300)=>Q9m (d1.ext p) h;obtain⟨c,Y⟩:=zE (ps.map (·.1));rw [Y] at c6 ⊢;have n5:c.length=n:=by rw [<-Y,List.length_map,a1]
 have G:∀ k (Z:k<ps.length),c[k]?=some ps[k].1:=fun k Z=>by rw [<-Y,List.getElem?_map,List.getElem?_eq_getElem Z];rfl
 have k1:∀ l∈c,∀ x∈l.outs,Xx x:=fun l hm=>by
  rw [<-Y] at hm;obtain⟨a3,n9,rfl⟩:=List.mem_map.1 hm;obtain⟨_,_,_,_,_,_,_,_,_,n7⟩:=a0.2 a3 n9;exact n7.2
 have P:U4 c ws=0->∀ k l g,c[k]?=some l->Zw (c.take k) ws=some g->(trE l g=0/\Zw (c.take (k+1)) ws=some (Jt l g))\/(trE l g=11/\Ye c ws=11):=fun h k l g b7 b9=>by
  obtain⟨Z,rfl⟩:=List.getElem?_eq_some_iff.1 b7;exact Qb8 k1 d1.2 h Z b9
 have F:U4 c ws=0->∀ g,Zw (c.take n) ws=some g->Ye c ws=0/\Yj c ws=g:=fun h g b9=>Ld h (by rwa [Q1u oz] at b9);have E:U4 c ws≠0->Ye c ws=U4 c ws:=fun h=>(Mq h).1;have c8:U4 c ws=if Z4 c=0 then wE ws else Z4 c:=rfl
 have d2:wE ws=0->ws.length<=300:=fun h=>Nat.le_trans (Jy h) zd;have n6:n<=maxLen:=by rw [<-a1];exact a0.1.2.1
 have c9:Z4 c=0->n<=64:=fun h=>by
  unfold Z4 at h
  split at h
  ·cases h
  ·omega
 unfold maxLen at n6;obtain⟨B,i0⟩:=zE (Z4 c);obtain⟨M,D⟩:=zE (wE ws);obtain⟨C,i7⟩:=zE (Ye c ws);obtain⟨o6,i8⟩:=zE (Yj c ws);rw [i0] at c6 c8 c9;rw [D] at d2 c8;simp only [D] at d4;rw [i7] at E F P ⊢;rw [i8] at F ⊢;rw [c8] at P F E;have j1:B≠0->C=B:=fun h=>by rw [if_neg h] at E;exact E h
 have j2:B=0->M≠0->C=M:=fun h h'=>by rw [if_pos h] at E;exact E h'
 have P:=fun(h:B=0) (h':M=0)=>P (by rw [if_pos h];exact h');have F:=fun(h:B=0) (h':M=0)=>F (by rw [if_pos h];exact h');obtain⟨q2,f5⟩:=zE ws.length;rw [f5] at f2 d2 ⊢;simp only [f5] at d4;obtain⟨g0,e3,a8,T,U,R,b4,b2⟩:=Zh8 c6 d4 f2 a0 a1 G P F;obtain⟨a6,a7,b5,e0⟩:=Zh4 j1 j2 d2 c9;have f7:Hid (Zw (c.take 0) ws=some ws):=Zh rfl;clear c6 d4 f2 a0 a1 G P F E j1 j2 d2 c9 c8 i0 D i7 i8 f5 Y n5 k1 d1;go_enter Tryz.func108,Tryz.ntmps108;go_wp2_with fail;refine g0.out.mono ?_;rintro e q0 ⟨rfl,i1⟩;have b0:=Zh i1;clear i1 g0;by_cases W:B=0;case neg=>
  have I:C=B:=a6.out W;subst I;have p4:(C == 0)=false:=by rw [beq_eq_false_iff_ne];exact W
  have m4:(C != 0)=true:=by rw [bne_iff_ne];exact W
  clear e3 a8 T U R b4 b2 a6 a7 b5 e0;go_wp2;go_ret2;exact⟨_,rfl,⟨fun _=>rfl,fun h=>absurd h W⟩,b0.out⟩
 subst W;have c9:=e0.out rfl;go_wp2_with fail;refine(e3.out _ b0.out).mono ?_;rintro e q1 ⟨rfl,X⟩;have b1:=Zh (b0.out.trans X);clear X b0 e3 e0;by_cases c0:M=0;case neg=>
  have I:C=M:=a7.out uz c0;subst I;have m4:(C != 0)=true:=by rw [bne_iff_ne];exact c0
  clear a8 T U R b4 b2 a6 a7 b5;go_wp2;go_ret2;exact⟨_,rfl,⟨fun _=>rfl,fun h=>absurd h c0⟩,b1.out⟩
 subst c0;have k6:=b4.out uz uz;have j5:=b2.out uz uz;have l1:=b5.out rfl;obtain⟨e1,g2,g9⟩:=Zh3 k6 j5 l1;clear k6 j5 l1 b4 b2 a6 a7 b5;go_wp2_with fail;refine(a8.out _ b1.out g9.out).mono ?_;rintro e J ⟨g,rfl,u,i2⟩;obtain⟨d6,d5,rfl,H⟩:=u;have u:Qk J (.slice d6 ws.length d5) ws:=⟨d6,d5,rfl,H⟩;obtain⟨l6,k9⟩:=zE ws.length;rw [k9] at u ⊢;have O:=Zh u;have d8:=Zh (b1.out.trans i2);clear H k9;clear u i2 b1 a8 g9;go_upto_region 7 with (fail)
 obtain⟨l7,d3⟩:=zE (J.alloc (.cells #[.slice d6 l6 d5] 23));have e7:Ext J l7:=by rw [<-d3];exact(Q0.refl _ J).alloc _
 have e8:l7.ownsRow J.heap.size 23 1 (.slice (some ⟨J.heap.size,0,none⟩) 1 1) 1 [.slice d6 l6 d5]:=by rw [<-d3];exact Qbh (Nat.le_refl _) _
 rw [d3];obtain⟨a5,D⟩:=zE J.heap.size;rw [D] at e8 ⊢;have p7:w.heap.size<=a5:=by rw [<-D];exact d8.out.size
 obtain⟨g5,g1,g6⟩:=Zh3 e8 (d8.out.trans e7) (O.out.ext e7);clear d3 e7 e8 D d8 O;go_wp2
 refine wp_loop (fun a j=>∃(k:Nat) (e4:Option Addr) (b6:Nat) (a4:List Value) (x:Wd),k<=n/\a.defers=[]/\gS a [0,7,8]=(49,[.slice lo n lc,.slice e4 (k+1) b6,.int .i64 k])/\j.ownsRow a5 23 1 (.slice e4 (k+1) b6) (k+1) a4/\Qk j (a4.getD k undef) x/\Zw (c.take k) ws=some x/\Ext w j)
  (fun a _=>((n:Int) - intOf (a.tmps.getD 8 undef)).toNat) ?_ ?_
 ·exact⟨0,_,_,_,_,by omega,rfl,rfl,g5.out,g6.out,f7.out,g1.out⟩
 clear g5 g6 f7 g1;rintro⟨p9,_⟩ j ⟨k,e4,b6,a4,x,Z,n0,k7,i4,u,j4,p⟩;subst n0;obtain⟨g,rfl⟩:=Qc k7;clear k7;obtain⟨q,O,a9,Q⟩:=Zh4 i4 u j4 p;clear i4 u j4 p;by_cases n3:k<n;case neg=>
  obtain rfl:k=n:=by omega
  have b7:¬ (k:Int)<(k:Int):=by omega
  obtain⟨I,o3⟩:=g2.out _ a9.out;subst I;subst o3;clear e1 g2 a9 T U R;go_wp2;go_ret2;exact⟨_,rfl,⟨fun h=>absurd rfl h,fun _=>⟨_,_,_,rfl,Rd.of_own q.out,O.out⟩⟩,Q.out⟩
 have b7:(k:Int)<(n:Int):=by omega
 have p3:(0:Int)<=(k:Int):=by omega
 have b9:(k:Int)<(k:Int)+1:=by omega
 have j8:k<ps.length:=by rw [U.out];exact n3
 obtain⟨m3,o4,p0,k3,n1,d0,c7,b8⟩:=(T.out.ext Q.out).at j8;simp only [zV] at k3;obtain⟨rfl,o1,rfl⟩:=k3;have G:=R.out k j8;obtain⟨a3,k2⟩:=zE (ps[k]);rw [k2] at d0 c7 b8 G;obtain⟨f6,o5⟩:=a3;dsimp only at d0 c7 b8 G;have f3:=e1.out k f6 x G a9.out;have m8:n=n:=rfl;obtain⟨e5,m7⟩:=S9 q.out;subst m7;obtain⟨q5,q3,l4,l5,l2⟩:=O.out;have k5:=(Rd.of_own q.out);obtain⟨p2,p8,p1,k4,o2,a2⟩:=Q4d k5 (k:=k) oz;simp only [zV,Option.some.injEq,Addr.mk.injEq] at k4;obtain⟨⟨n2,n8,p6⟩,n4,m9⟩:=k4;subst n2;subst n8;subst m9;rw [l4] at a2;have c1:=fun(r:World) (p:Ext j r)=>Q6b (c7.ext p) (l5.ext p) l2;obtain⟨q4,l3⟩:=zE x.length;simp only [l3] at c1 a2;rw [Nat.zero_add] at a2;obtain⟨o7,e9⟩:=zE (trE f6 x);obtain⟨o,f1⟩:=zE (Jt f6 x);simp only [e9,f1] at c1;rw [e9,f1] at f3;obtain⟨f9,g8,f8,d7,g7⟩:=Zh5 c1 d0 b8 f3 a2;clear c1 d0 b8 f3 a2 o1 k2 c7 G l4 l5 l2 l3 e9 f1 m8 k5 o2 n1 n4 T U R a9 O e1;go_upto_region 10 with (fail)
 have f:Ext j j.drew:=(Q0.refl _ j).drew;refine Z8 (S:=fun N=>Ext j N) [] kz f ?_;intro _;refine tE 0 30 f ?_;refine tE 1 31 f ?_;refine tE 2 32 f ?_;refine tkE (i:=3) (d:=33) (v:=?_) rfl (Or.inl ⟨by rfl,?_⟩) f ?_;rotate_left
 ·intro N e6;refine Kr (x:=.tmp 32) ?_ m3 (o4+k*18) ?_ o5 _ (Fh e6 g8.out id) Tryz.underlying50 rfl (by rw [f8.out];kernel_rfl) <;> first | rfl | (simp;done)
 try simp only [Act.put,pq]
 refine tE 4 34 f ?_;refine tE 5 35 f ?_;refine tE 6 36 f ?_;refine tkE (i:=7) (d:=37) (v:=?_) rfl (Or.inl ⟨by rfl,?_⟩) f ?_;rotate_left
 ·intro N e6;have o9:=(show Ext _ N from e6).cell_some g7.out id;go_simp;try with_reducible rfl
 try simp only [Act.put,pq]
 obtain⟨r,j0⟩:=zE j.drew;rw [j0] at f ⊢;clear j0;refine rE [8] ?_;refine Q2.cons rfl (fun K hK=>?_) Q2.nil;refine iw rfl ?_;go_simp;refine(f9.out _ f).mono ?_;rintro e s ⟨q6,rfl,H,j9,X⟩;have t:Ext j s:=f.trans X;have d9:=Zh (Zj.mono j9 fun b hb=>Nat.le_trans f.size hb);obtain⟨A,y,rfl,k0⟩:=H;have H:Qk s (.slice A o.length y) o:=⟨A,y,rfl,k0⟩;have b3:=Zh H
 (try refine⟨_,rfl,?_⟩)
 clear j9 H k0 X f;refine hK _ _ t (fun _=>?_);clear hK K;try simp only [Act.put,pq]
 refine tE 9 29 t ?_;refine tE 10 39 t ?_;refine tE 11 40 t ?_;refine tE 12 9 t ?_;refine tE 13 10 t ?_;refine Z0 kz ?_ _;have V:=Zh t;clear t f9 g8 f8 g7;rcases d7.out with ⟨m5,j3⟩ | ⟨m6,I⟩
 case inr=>
  subst m6;subst I;clear d7 d9 b3 q;go_wp2;go_ret2;exact⟨_,rfl,⟨fun _=>rfl,fun h=>by cases h⟩,Q.out.trans V.out⟩
 subst m5;have l9:=Zh j3;clear j3 d7;have i5:=Q6 q.out (V.out.trans ((Q0.refl _ s).alloc (.cells #[.slice A o.length y] 23)));have j6:=q.out.lt e5 (by simp [Value.ownBlock]);have p5:a5<=s.heap.size:=by have:=V.out.size;omega
 have l0:a4.length=k+1:=by have:=Qc1 q.out;omega
 have o0:Qk s (.slice A o.length y) o:=b3.out;obtain⟨e2,g3,g4⟩:=Zh3 l0 j6.2 i5;clear i5
 go_wp2_with (at_builtin;refine Qo rfl (.tmp 44) (.tmp 46) 74 rfl a5 23 _ 1 24 Tryz.underlying74 Qe4 rfl zd _ _ _ rfl g4.out ⟨s.heap.size,0,none⟩ 1 1 [.slice A o.length y] rfl rfl (Qn rfl) ?c2 ?c3 ?c4 ?c5 ?_)
 case c2=>first | rfl | (intro g k8;simp only [List.mem_cons,List.not_mem_nil,or_false] at k8;rcases k8 with rfl;rfl)
 case c3=>unfold maxLen;omega
 case c4=>omega
 case c5=>first | omega | (simp;omega)
 intro o8 c5 l8 i6 i9 _;have f0:Q0 (fun b'=>(Value.slice (some ⟨e5,0,none⟩) (k+1) b6).ownBlock=some b') s l8:=Q0.trans (Q0.alloc (Q0.refl _ s) _) i9;have i3:=(Q.out.trans V.out).after f0 (fun b' b7 e=>by simp only [Value.ownBlock,Option.some.injEq] at e;omega);have f4:Qk l8 (.slice A o.length y) o:=b3.out.keepS (S:=fun b=>b≠e5) (Q0.mono f0 fun b _ hb=>by simp only [Value.ownBlock,Option.some.injEq] at hb;exact fun h=>h hb.symm) (Zj.mono d9.out fun b hb e=>by have:=g3.out;omega);have j7:(a4++[Value.slice A o.length y]).getD (k+1) undef=.slice A o.length y:=by rw [List.getD_eq_getElem?_getD,List.getElem?_append_right (by rw [e2.out];exact Nat.le_refl _),e2.out];simp
 rw [<-j7] at f4;obtain⟨m2,m1,m0⟩:=Zh3 f4 i6 i3;clear f4 i6 i3 i9 f0 j7 o0 g4 q b3 d9 Q V e2 j6 g3 l0;go_wp2;exact⟨⟨k+1,_,_,_,_,by omega,tz,rfl,m1.out,m2.out,l9.out,m0.out⟩,mz⟩
theorem Q40{w:World}{ps:Qr}{lo:Option Addr}{n lc:Nat}{vo:Option Addr}{vc:Nat}{ws:Wd}(l:Qt w (.slice lo n lc) ps) (o:ps.length=n) (D:Q4 w (.slice vo ws.length vc) ws) :
  Calls Tryz.prog 66 #[.slice lo n lc,.slice vo ws.length vc] w fun e w'=>∃ ao c,e=.returned (.tuple #[.slice ao (Yj (ps.map (·.1)) ws).length c,.int .i64 (Ye (ps.map (·.1)) ws)])/\Qk w' (.slice ao (Yj (ps.map (·.1)) ws).length c) (Yj (ps.map (·.1)) ws)/\Ext w w':=by
 have a:=Q6m l o D;have L:n<=maxLen:=by rw [<-o];exact l.1.2.1
 unfold maxLen at L;have b:=@Qbf (ps.map (·.1)) ws;obtain⟨t,v⟩:=zE (Ye (ps.map (·.1)) ws);obtain⟨f,y⟩:=zE (Yj (ps.map (·.1)) ws);rw [v] at a b ⊢;rw [y] at a b ⊢;obtain⟨Z,E⟩:=zE ws.length;rw [E] at a ⊢;obtain⟨K,j⟩:=zE f.length;rw [j];obtain⟨q,d,r⟩:=Zh3 a b j;clear a b l o D v y E j;go_enter Tryz.func66,Tryz.ntmps66;go_wp2_with fail;refine q.out.mono ?_;rintro e O ⟨X,rfl,i,u⟩;have p:=Zh u;clear u q;by_cases g:t=0;case neg=>
  have U:(t != 0)=true:=by rw [bne_iff_ne];exact g
  have N:=d.out g;subst N;obtain rfl:K=0:=by rw [<-r.out];rfl
  clear i d;go_wp2;go_ret2;exact⟨_,_,rfl,Qk.nil _,p.out⟩
 subst g;obtain⟨ao,c,Y,rfl,C,J,I,G,H,F⟩:=i.2 rfl;clear i d;obtain⟨Q,W,P,B,V,z⟩:=Q4d C (k:=n) oz;simp only [zV] at B;obtain⟨rfl,M,rfl⟩:=B;clear M;rw [G] at z;have A:Qk O (.slice J f.length I) f:=⟨J,I,rfl,H,F⟩;have s:=Zh A;rw [r.out] at z s;have R:(n:Int)+1 - 1=(n:Int):=by omega
 have S:(n:Int)<(n:Int)+1:=by omega
 have T:(0:Int)<=(n:Int):=by omega
 clear A G H F C;go_wp2;go_ret2;exact⟨_,_,rfl,s.out,p.out⟩
theorem Lm{w:World}{a1 a2:Value}{c d:Wd}{s:Nat × Nat}(o:Q4 w a1 c)(j:Q4 w a2 d)(Z:Qh s)(V:c.length+1+d.length<=1000) :
  Calls Tryz.prog 67 #[a1,a2,sV s] w fun e w'=>∃ uo uc,e=.returned (.slice uo (Qf c d s).length uc)/\Qk w' (.slice uo (Qf c d s).length uc) (Qf c d s)/\Ext w w':=by
 obtain⟨c1,c0,rfl,b5⟩:=o.slice;obtain⟨c7,c6,rfl,b6⟩:=j.slice;have Y:=W3 o.2 j.2 Z;have m:=Pk c d s;have p:Qx (Qf c d s)=Qx c++[.int .u32 s.1,.int .u32 s.2]++Qx d:=by unfold Qf;rw [Zl,Zl];rfl
 obtain⟨a3,a5,M,A⟩:=Zh4 o j Y p;obtain⟨N,R⟩:=zE (Qf c d s);rw [R] at m M A ⊢;obtain⟨k,X⟩:=zE c.length;obtain⟨b7,W⟩:=zE d.length;have G:=o.1;have H:=j.1;rw [X] at G b5 V m ⊢;rw [W] at H b6 V m ⊢;obtain⟨a4,a6,L⟩:=Zh3 G H m;rw [m];clear o j Y Z p R a3 a5 G H m X W;obtain⟨g,i⟩:=s;dsimp only at A;have a9:=Zh (Jr c);have b0:=Zh (Jr d);obtain⟨a,F⟩:=zE w.heap.size;have I:(w.alloc (.cells #[.int .u32 g,.int .u32 i] 26)).heap[a]?=some (.cells #[.int .u32 g,.int .u32 i] 26 (0,0)):=Q3 F.symm;have q:Ext w (w.alloc (.cells #[.int .u32 g,.int .u32 i] 26)):=(Q0.refl _ w).alloc _;unfold sV;go_enter Tryz.func67,Tryz.ntmps67;go_upto_region 1 with (fail)
 generalize (w.alloc (.cells #[.int .u32 g,.int .u32 i] 26))=l at I q ⊢;have b4:a<=l.heap.size:=by have:=q.size;omega
 obtain⟨z,u,n⟩:=Zh3 I q F;clear I q F;have P:(l.alloc (.cells #[] 26)).ownsRow a 26 2 (.slice (some ⟨l.heap.size,0,none⟩) 0 0) 0 []:=World.ownsRow_lit l #[] 0 b4 (by unfold maxLen;omega) rfl;have J:=Zh P;clear P
 go_wp2_with (at_builtin;refine X4 rfl (.tmp 8) (.tmp 9) 23 rfl a 26 _ 2 8 Tryz.underlying23 @Yt rfl zd _ 0 [] rfl J.out _ k _ (Qx c) rfl (a4.out.ext (u.out.alloc _)) a9.out ?c3 ?c4 ?c5 ?_)
 case c3=>unfold maxLen;omega
 case c4=>omega
 case c5=>first | omega | (simp;done) | (simp;omega)
 intro b9 b8 f r E _;have B:Ext w f:=Q0.after (u.out.alloc (.cells #[] 26)) E (fun b j e=>by simp only [Value.ownBlock,Option.some.injEq] at e;have:=n.out;omega);have D:f.heap[a]?=some (.cells #[.int .u32 g,.int .u32 i] 26 (0,0)):=E.heap ((show Ext l (l.alloc (.cells #[] 26)) from(Q0.refl _ l).alloc _).keep z.out) (fun e=>by simp only [Value.ownBlock,Option.some.injEq] at e;have:=(Array.getElem?_eq_some_iff.1 z.out).1;omega);have r:f.ownsRow a 26 2 (.slice b9 k b8) k (Qx c):=by
  have:=r
  simpa using this
 have b2:f.cell? ⟨a,0,none⟩=some (.int .u32 g):=by rw [cell_of_row f a 0 _ _ _ D];rfl
 have b3:f.cell? ⟨a,1,none⟩=some (.int .u32 i):=by rw [cell_of_row f a 1 _ _ _ D];rfl
 have c8:a<=f.heap.size:=by have:=B.size;have:=n.out;omega
 have x:=Zh r;have K:=Zh B;clear r B E D J z u;try rw [Nat.zero_add]
 go_wp2_with (at_builtin;refine Qo rfl (.tmp 11) (.tmp 13) 23 rfl a 26 _ 2 8 Tryz.underlying23 @Yt rfl zd _ _ _ rfl (Q6 x.out ((Q0.refl _ f).alloc (.cells #[.int .u32 (g:Int),.int .u32 (i:Int)] 26))) ⟨f.heap.size,0,none⟩ 1 1 [.int .u32 (g:Int),.int .u32 (i:Int)] rfl rfl (Qn rfl) ?c2 ?c3 ?c4 ?c5 ?_)
 case c2=>first | rfl | (intro d0 a0;simp only [List.mem_cons,List.not_mem_nil,or_false] at a0;rcases a0 with rfl | rfl <;> rfl)
 case c3=>unfold maxLen;omega
 case c4=>omega
 case c5=>first | omega | (simp;done) | (simp;omega)
 intro d2 d1 O S T _;have C:Ext w O:=Q0.after (K.out.alloc (.cells #[.int .u32 (g:Int),.int .u32 (i:Int)] 26)) T (fun b j e=>by have:=(x.out.lt _ e).1;have:=n.out;omega);have c9:a<=O.heap.size:=by have:=C.size;have:=n.out;omega
 have y:=Zh S;have v:=Zh C;clear S C T x K b2 b3
 go_wp2_with (at_builtin;refine X4 rfl (.tmp 15) (.tmp 16) 23 rfl a 26 _ 2 8 Tryz.underlying23 @Yt rfl zd _ _ _ rfl y.out _ b7 _ (Qx d) rfl (a6.out.ext v.out) b0.out ?c3 ?c4 ?c5 ?_)
 case c3=>unfold maxLen;omega
 case c4=>omega
 case c5=>first | omega | (simp;done) | (simp;omega)
 intro uo uc b1 t U _;have Q:Ext w b1:=v.out.after U (fun b j e=>by have:=(y.out.lt _ e).1;have:=n.out;omega);have p:=A.out;simp only [List.append_assoc,List.cons_append,List.nil_append] at p t;rw [<-p,<-L.out] at t;have a8:=Zh (Qk.own t M.out);have a7:=Zh Q;clear t U Q y v;go_wp2;go_ret;exact⟨uo,uc,rfl,by rw [<-L.out];exact a8.out,a7.out⟩
theorem Mf{w:World}{ps:Qr}{lo:Option Addr}{n lc:Nat}{K L:Value}{a b:Wd}(G:Qt w (.slice lo n lc) ps) (H:ps.length=n) (p:Q4 w K a) (q:Q4 w L b) :
  Calls Tryz.prog 64 #[.slice lo n lc,K,L] w fun e w'=>e=.returned (.int .i64 (Qs (ps.map (·.1)) a b))/\Ext w w':=by
 obtain⟨W,U,rfl,Q⟩:=p.slice;obtain⟨Y,X,rfl,R⟩:=q.slice;have o:=Lh G H;have c:=fun(V:World) (hE:Ext w V)=>Hy (p.ext hE);have l:=fun(V:World) (hE:Ext w V)=>Hy (q.ext hE);obtain⟨Z,I⟩:=zE a.length;obtain⟨a0,J⟩:=zE b.length;rw [I] at c ⊢;rw [J] at l ⊢;have m:Z4 (ps.map (·.1))≠0->Qs (ps.map (·.1)) a b=Z4 (ps.map (·.1)):=fun h=>by unfold Qs;rw [if_neg h]
 have i:Z4 (ps.map (·.1))=0->wE a≠0->Qs (ps.map (·.1)) a b=wE a:=fun h c=>by unfold Qs;rw [if_pos h,if_neg c]
 have f:Z4 (ps.map (·.1))=0->wE a=0->Qs (ps.map (·.1)) a b=wE b:=fun h c=>by unfold Qs;rw [if_pos h,if_pos c]
 obtain⟨x,F⟩:=zE (Qs (ps.map (·.1)) a b);obtain⟨r,y⟩:=zE (Z4 (ps.map (·.1)));obtain⟨s,z⟩:=zE (wE a);obtain⟨T,A⟩:=zE (wE b);rw [F] at m i f ⊢;rw [y] at o m i f;rw [z] at c i f;rw [A] at l f;obtain⟨t,u,v,N,O,P⟩:=Zh6 o c l m i f;clear o c l y z A G H p q Q R I J m i f F;go_enter Tryz.func64,Tryz.ntmps64;go_wp2_with fail;refine t.out.mono ?_;rintro e a1 ⟨rfl,B⟩;have j:=Zh B;clear t B;by_cases d:r=0;case neg=>
  have S:(r == 0)=false:=by simpa using d
  have g:=N.out d;subst g;go_wp2;go_ret;exact⟨rfl,j.out⟩
 subst d;go_wp2_with fail;refine(u.out _ j.out).mono ?_;rintro e a2 ⟨rfl,C⟩;have k:=Zh (j.out.trans C);clear u C j;by_cases d:s=0;case neg=>
  have S:(s == 0)=false:=by simpa using d
  have g:=O.out uz d;subst g;go_wp2;go_ret;exact⟨rfl,k.out⟩
 subst d;have g:=P.out uz uz;subst g;go_wp2_with fail;refine(v.out _ k.out).mono ?_;rintro e a3 ⟨rfl,D⟩;have M:=Zh (k.out.trans D);clear v D k;go_wp2;go_ret;exact⟨rfl,M.out⟩
theorem W1{w:World}{ps:Qr}{lo:Option Addr}{n lc:Nat}{b8 b9:Value}{a b:Wd}{s:Nat × Nat}(Q:Qt w (.slice lo n lc) ps) (S:ps.length=n) (u:Q4 w b8 a) (x:Q4 w b9 b) (W:Qh s) :
  Calls Tryz.prog 19 #[.slice lo n lc,b8,b9,sV s] w fun e w'=>∃ v,e=.returned (.tuple #[v,.int .i64 (Uc (ps.map (·.1)) a b s)])/\Qk w' v (Ua (ps.map (·.1)) a b s)/\Ext w w':=by
 have K:=fun(V:World) (hE:Ext w V)=>Mf (Q.ext hE) S (u.ext hE) (x.ext hE);have d:=fun(V:World)=>Vo W V;have L:=fun(V:World) (hE:Ext w V) (p:a.length+1+b.length<=1000)=>Lm (u.ext hE) (x.ext hE) W p;have t:=fun(V:World) (hE:Ext w V) (b7:Option Addr) (b6:Nat) (z:Q4 V (.slice b7 (Qf a b s).length b6) (Qf a b s))=>Q40 (Q.ext hE) S z;have f:=@Wp (ps.map (·.1)) a b;obtain⟨d8,d7,rfl,c8⟩:=u.slice;obtain⟨e0,d9,rfl,c9⟩:=x.slice;have y:Qs (ps.map (·.1)) a b≠0->Uc (ps.map (·.1)) a b s=Qs (ps.map (·.1)) a b/\Ua (ps.map (·.1)) a b s=[]:=fun h=>by unfold Uc Ua;rw [if_neg h,if_neg h];exact⟨rfl,rfl⟩
 have m:Qs (ps.map (·.1)) a b=0->okS s=false->Uc (ps.map (·.1)) a b s=14/\Ua (ps.map (·.1)) a b s=[]:=fun h d=>by unfold Uc Ua;rw [if_pos h,if_pos h,d];exact⟨rfl,rfl⟩
 have g:Qs (ps.map (·.1)) a b=0->okS s=true->Uc (ps.map (·.1)) a b s=Ye (ps.map (·.1)) (Qf a b s)/\Ua (ps.map (·.1)) a b s=Yj (ps.map (·.1)) (Qf a b s):=fun h d=>by unfold Uc Ua;rw [if_pos h,if_pos h,d];exact⟨rfl,rfl⟩
 obtain⟨d4,b2⟩:=zE (Uc (ps.map (·.1)) a b s);obtain⟨d5,b3⟩:=zE (Ua (ps.map (·.1)) a b s);obtain⟨Y,a5⟩:=zE (Qs (ps.map (·.1)) a b);obtain⟨c0,a6⟩:=zE (okS s);obtain⟨a4,b1⟩:=zE (Qf a b s);obtain⟨d3,a7⟩:=zE (Ye (ps.map (·.1)) (Qf a b s));obtain⟨d6,a8⟩:=zE (Yj (ps.map (·.1)) (Qf a b s));rw [b2,b3] at y m g ⊢;rw [a5] at K f y m g;rw [a6] at d m g;rw [a7,a8] at t g;rw [b1] at L t;obtain⟨C,D,q,Z,a2,c5,c6,c7⟩:=Zh8 K d L t f y m g;clear K d L t f y m g a5 a6 a7 a8 b1 b2 b3 Q S u x c8 c9 W;obtain⟨i,j⟩:=s;unfold sV at D q ⊢;obtain⟨e2,T⟩:=zE a.length;obtain⟨e3,U⟩:=zE b.length;have c2:=Zh T;have c3:=Zh U;rw [T,U] at C q ⊢;clear T U;obtain⟨c,a9⟩:=zE w.heap.size;have X:(w.alloc (.cells #[.int .u32 i,.int .u32 j] 26)).heap[c]?=some (.cells #[.int .u32 i,.int .u32 j] 26 (0,0)):=Q3 a9.symm;have M:Ext w (w.alloc (.cells #[.int .u32 i,.int .u32 j] 26)):=(Q0.refl _ w).alloc _;go_enter Tryz.func19,Tryz.ntmps19;go_upto_region 1 with (fail)
 generalize (w.alloc (.cells #[.int .u32 i,.int .u32 j] 26))=e6 at X M ⊢;have a3:=Zh X;have F:=Zh M;clear X M a9;go_wp2_with fail;refine(C.out _ F.out).mono ?_;rintro e A ⟨rfl,N⟩;have r:=Zh (N.keep a3.out);have G:=Zh (F.out.trans N);clear C N a3 F;by_cases p:Y=0;case neg=>
  have e1:(Y != 0)=true:=by simpa using p
  obtain⟨l,o⟩:=c5.out p;subst l o;go_wp2;refine bodyPost_ret (Qa rfl _ _ _) rfl ⟨_,rfl,Qk.nil _,G.out⟩
 subst p;have f:=a2.out rfl;have d0:=Jy f.2.1;have d1:=Jy f.2.2;rw [c2.out] at d0;rw [c3.out] at d1;clear f a2;have I:A.cell? ⟨c,0,none⟩=some (.int .u32 i):=by rw [cell_of_row A c 0 _ _ _ r.out];rfl
 have J:A.cell? ⟨c,1,none⟩=some (.int .u32 j):=by rw [cell_of_row A c 1 _ _ _ r.out];rfl
 go_wp2_with fail;refine(D.out _).mono ?_;rintro e B ⟨rfl,O⟩;have H:=Zh (O.keep r.out);have k:=Zh (G.out.trans O);clear D O r G I J;cases c0;case false=>
  obtain⟨l,o⟩:=c6.out uz uz;subst l o;go_wp2;refine bodyPost_ret (Qa rfl _ _ _) rfl ⟨_,rfl,Qk.nil _,k.out⟩
 obtain⟨l,o⟩:=c7.out uz uz;subst l o;have I:B.cell? ⟨c,0,none⟩=some (.int .u32 i):=by rw [cell_of_row B c 0 _ _ _ H.out];rfl
 have J:B.cell? ⟨c,1,none⟩=some (.int .u32 j):=by rw [cell_of_row B c 1 _ _ _ H.out];rfl
 go_wp2_with fail;refine(q.out _ k.out oz).mono ?_;rintro e e7 ⟨b7,b6,rfl,⟨_,_,d2,z,_⟩,P⟩;cases d2;have b4:=Z.out _ (k.out.trans P) _ _ z;have a0:=Zh b4;have a1:=Zh (k.out.trans P);clear q Z b4 z P k H I J;go_wp2_with fail;refine a0.out.mono ?_;rintro e e8 ⟨e5,e4,rfl,b5,b0⟩;have c4:=Zh b5;have c1:=Zh (a1.out.trans b0);clear a0 b5 b0 a1;go_wp2;refine bodyPost_ret (Qa rfl _ _ _) rfl ⟨_,rfl,c4.out,c1.out⟩
theorem Qbu:(Tryz.prog.info? 23).map (fun i=>(i.zero,i.size,i.bytes))=some (some (.slice none 0 0),1,24):=by kernel_rfl
def Lu(w:World)(v:Value)(us:List Wd):Prop:=∃ vs,Rd w v us.length 1 vs/\Zt w vs us
theorem Lu.ext{A B:World}{v:Value}{us:List Wd}(h:Lu A v us)(a:Ext A B):Lu B v us:=by
 obtain⟨d,b,c⟩:=h;exact⟨d,b.ext a,c.ext a⟩
theorem Zt.row{A B:World}{v:Value}{base:Nat}{e:TypeId}{sz n:Nat}{xs:List Value}(hr:Vi Bg A v)(ho:A.ownsRow base e sz v n xs)(ht:Q0 (fun b=>v.ownBlock=some b) A B):∀ {vs:List Value} {us:List Wd},Zt A vs us->Zt B vs us
 | [],[],_=>trivial
 | _::_,_::_,⟨h1,h2⟩=>⟨h1.row hr ho ht,Zt.row hr ho ht h2⟩
theorem Qd1{ls:List Q7}{a b:Wd}{s:Nat × Nat}(c:Qs ls a b=0)(d:okS s=true):Uc ls a b s=Ye ls (Qf a b s)/\Ua ls a b s=Yj ls (Qf a b s):=by
 unfold Uc Ua;rw [if_pos c,if_pos c,d];exact⟨rfl,rfl⟩
theorem S8{ss:Wd}{m:Nat}(h:Yk ss m=0):ss.length<=m/\∀ s∈ss,okS s=true:=by
 unfold Yk at h
 split at h
 ·cases h
 ·split at h
  ·rename_i b a
   exact⟨by omega,fun s hs=>List.all_eq_true.1 a s hs⟩
  ·cases h
theorem Mw{w:World}{ps:Qr}{lo:Option Addr}{n lc:Nat}{l0 l1:Value}{f i ss:Wd}{f1:Option Addr}{N f0:Nat}(e1:Qt w (.slice lo n lc) ps) (e2:ps.length=n) (a1:Q4 w l0 f) (J:Q4 w l1 i) (m:Q4 w (.slice f1 N f0) ss) (C:ss.length=N) :
  Calls Tryz.prog 69 #[.slice lo n lc,l0,l1,.slice f1 N f0] w fun e w'=>∃ vo vc,e=.returned (.tuple #[.slice vo (Qy (ps.map (·.1)) f i ss).length vc,.int .i64 (Z1 (ps.map (·.1)) f i ss)])/\Lu w' (.slice vo (Qy (ps.map (·.1)) f i ss).length vc) (Qy (ps.map (·.1)) f i ss)/\Ext w w':=by
 have k2:=m.1.2.1;rw [C] at k2;unfold maxLen at k2;obtain⟨m8,m7,rfl,n4⟩:=a1.slice;obtain⟨n0,m9,rfl,n5⟩:=J.slice;have I:=Mf e1 e2 a1 J;have l:=fun(V:World) (q:Ext w V)=>Q3v 64 (m.ext q) C;have p:=fun(V:World) (q:Ext w V) (s:Nat × Nat) (z:Qh s)=>W1 (e1.ext q) e2 (a1.ext q) (J.ext q) z;have a5:Qs (ps.map (·.1)) f i≠0->Z1 (ps.map (·.1)) f i ss=Qs (ps.map (·.1)) f i:=fun h=>by unfold Z1;rw [if_neg h]
 have O:Qs (ps.map (·.1)) f i=0->Yk ss 64≠0->Z1 (ps.map (·.1)) f i ss=Yk ss 64:=fun h l=>by unfold Z1;rw [if_pos h,if_neg l]
 have F:Qs (ps.map (·.1)) f i=0->Yk ss 64=0->Z1 (ps.map (·.1)) f i ss=Z2 (Lr (ps.map (·.1)) f i ss):=fun h l=>by unfold Z1;rw [if_pos h,if_pos l];rfl
 have e5:Z1 (ps.map (·.1)) f i ss≠0->Qy (ps.map (·.1)) f i ss=[]:=fun h=>by unfold Qy;rw [if_neg h]
 have a6:Z1 (ps.map (·.1)) f i ss=0->Qy (ps.map (·.1)) f i ss=Fm (ps.map (·.1)) f i ss:=fun h=>by unfold Qy;rw [if_pos h];rfl
 have e6:=@S8 ss 64;have x:Qs (ps.map (·.1)) f i=0->Yk ss 64=0->∀ c (h:c<ss.length),Uc (ps.map (·.1)) f i ss[c]=Ye (ps.map (·.1)) (Qf f i ss[c])/\Ua (ps.map (·.1)) f i ss[c]=Yj (ps.map (·.1)) (Qf f i ss[c]):=fun hf m c h=>Qd1 hf ((S8 m).2 _ (List.getElem_mem h));obtain⟨o2,d1⟩:=zE (Z1 (ps.map (·.1)) f i ss);obtain⟨o3,d2⟩:=zE (Qy (ps.map (·.1)) f i ss);obtain⟨o,Z⟩:=zE (Fm (ps.map (·.1)) f i ss);obtain⟨H,a0⟩:=zE (Lr (ps.map (·.1)) f i ss);have i4:o.length=N:=by rw [<-Z];simp [Fm,C]
 have j0:H.length=N:=by rw [<-a0];simp [Lr,C]
 have i3:∀ c (h:c<ss.length) (l:c<o.length),o[c]=Yj (ps.map (·.1)) (Qf f i ss[c]):=fun c h l=>by subst Z;exact List.getElem_map _
 have i9:∀ c (h:c<ss.length) (l:c<H.length),H[c]=Ye (ps.map (·.1)) (Qf f i ss[c]):=fun c h l=>by subst a0;exact List.getElem_map _
 obtain⟨b2,i2⟩:=zE (Qs (ps.map (·.1)) f i);obtain⟨f3,c0⟩:=zE (Yk ss 64);rw [d1,d2] at e5 a6;rw [d1] at a5 O F ⊢;rw [d2];rw [Z] at a6;rw [a0] at F;rw [i2] at I a5 O F x;rw [c0] at O F e6 x;simp only [c0] at l;obtain⟨b3,f4,f5,g8,g9,i0,b9,m5⟩:=Zh8 I l p a5 O F e5 a6;obtain⟨g5,g1,S,f8,l3,l5,g0,b7⟩:=Zh8 e6 x i4 j0 i3 i9 m C;clear I l p a5 O F e5 a6 e6 x i2 c0 d1 d2 Z a0 i4 j0 i3 i9 e1 e2 a1 J n4 n5 m C;obtain⟨n8,k3⟩:=zE f.length;obtain⟨n9,k4⟩:=zE i.length;rw [k3,k4] at b3 f5 ⊢;clear k3 k4;go_enter Tryz.func69,Tryz.ntmps69;go_wp2_with fail;refine b3.out.mono ?_;rintro e p4 ⟨rfl,i5⟩;have T:=Zh i5;clear b3 i5;by_cases k:b2=0;case neg=>
  have k5:(b2 == 0)=false:=by simpa using k
  have o9:(b2 != 0)=true:=by simpa using k
  have r:=g8.out k;subst r;have y:=b9.out k;subst y;go_wp2;refine bodyPost_ret (Qa rfl _ _ _) rfl ⟨_,_,rfl,⟨[],Rd.of_own (e:=3) (World.ownsRow_nil _ 0 _ _),trivial⟩,T.out⟩
 subst k;clear g8;go_wp2_with fail;refine(f4.out _ T.out).mono ?_;rintro e p5 ⟨rfl,i6⟩;have b4:=Zh (T.out.trans i6);clear f4 i6 T;by_cases k:f3=0;case neg=>
  have k5:(f3 != 0)=true:=by simpa using k
  have r:=g9.out uz k;subst r;have y:=b9.out k;subst y;go_wp2;refine bodyPost_ret (Qa rfl _ _ _) rfl ⟨_,_,rfl,⟨[],Rd.of_own (e:=3) (World.ownsRow_nil _ 0 _ _),trivial⟩,b4.out⟩
 subst k;have r:=i0.out uz uz;have n2:=(g5.out uz).1;have x:=g1.out uz uz;rw [b7.out] at n2;have g4:=Zh r;have m0:=Zh x;clear r x g9 i0 g5 g1;obtain⟨B,j9⟩:=zE w.heap.size;have g7:=Zh j9;clear j9;go_wp2
 refine wp_loop (fun a A=>∃(c:Nat) (b0:Value) (b1:List Value),c<=N/\a.defers=[]/\gS a [0,1,2,3,11,12]=(51,[.slice lo n lc,.slice m8 n8 m7,.slice n0 n9 m9,.slice f1 N f0,b0,.int .i64 c])/\A.ownsRow B 23 1 b0 c b1/\Vi Bg A b0/\Zt A b1 (o.take c)/\Z2 (H.take c)=0/\Ext w A)
  (fun a _=>N - (intOf (a.tmps.getD 12 undef)).toNat) ?_ ?_
 ·exact⟨0,_,[],by omega,rfl,rfl,World.ownsRow_nil _ _ _ _,Vi.nil _,by rw [List.take_zero];trivial,rfl,b4.out⟩
 clear b4;rintro⟨p3,_⟩ A ⟨c,b0,b1,o8,n6,k8,c9,j1,j7,L,q⟩;subst n6;obtain⟨P,rfl⟩:=Qc k8;clear k8;obtain⟨vo,vc,rfl⟩:=Qu c9;obtain⟨U,f9,X,b5,t⟩:=Zh5 c9 j1 j7 L q;clear c9 j1 j7 L q;by_cases e0:c<N;case neg=>
  obtain rfl:c=N:=by omega
  have I:¬ (c:Int)<(c:Int):=by omega
  have L:=b5.out;rw [List.take_of_length_le (by rw [f8.out];exact Nat.le_refl _),<-g4.out] at L;subst L;have y:=m5.out uz;subst y;have e7:=X.out;rw [List.take_of_length_le (by rw [S.out];exact Nat.le_refl _)] at e7;have m3:=Zh e7;clear e7 X;go_wp2;refine bodyPost_ret (Qa rfl _ _ _) rfl ⟨vo,vc,by rw [S.out];rfl,⟨b1,by rw [S.out];exact Rd.of_own U.out,m3.out⟩,t.out⟩
 have I:(c:Int)<(N:Int):=by omega
 have o6:(0:Int)<=(c:Int):=by omega
 have D:c<ss.length:=by rw [b7.out];exact e0
 have d9:c<H.length:=by rw [f8.out];exact e0
 have k1:c<o.length:=by rw [S.out];exact e0
 have k0:=(g0.out.ext t.out).at D;rw [b7.out] at k0;obtain⟨o5,p0,o4,k7,n7,a2,a3⟩:=k0;simp only [zV,true_and] at k7;obtain⟨rfl,rfl⟩:=k7;rw [List.getD_eq_getElem?_getD,List.getElem?_eq_getElem D,Option.getD_some] at a2 a3;have e3:=g0.out.2 _ (List.getElem_mem D);have d6:=l3.out c D k1;have d8:=l5.out c D d9;have a4:=Vv d9 b5.out;have M:=Vy d9 b5.out;have a7:o.take (c+1)=o.take c++[o[c]]:=List.take_succ_eq_append_getElem k1;obtain⟨e8,e9⟩:=m0.out c D;obtain⟨s,m⟩:=zE (ss[c]);rw [m] at a2 a3 e3 d6 d8 e8 e9;have p:=f5.out A t.out s e3;rw [e8,e9] at p;rw [d6] at a7;rw [d8] at a4 M;rw [<-g4.out] at M;obtain⟨f2,c1⟩:=zE (Ye (ps.map (·.1)) (Qf f i s));obtain⟨Q,c8⟩:=zE (Yj (ps.map (·.1)) (Qf f i s));rw [c1,c8] at p;rw [c8] at a7;rw [c1] at a4 M;obtain⟨p1,p2⟩:=s;dsimp only at a2 a3;unfold sV at p;obtain⟨f6,l7,l6,m2⟩:=Zh4 p a4 M a7;clear e3 d6 d8 a4 M a7 e8 e9 p m c1 c8 n7;go_wp2_with fail;refine f6.out.mono ?_;rintro e G ⟨P,rfl,e4,i7⟩;obtain⟨a9,a8,rfl,_⟩:=Jh e4;have u:=Zh i7;have g2:=Zh e4;clear f6 e4 i7 a2 a3;by_cases k:f2=0;case neg=>
  have k5:(f2 != 0)=true:=by simpa using k
  have r:=l6.out k;subst r;have y:=b9.out k;subst y;go_wp2;refine bodyPost_ret (Qa rfl _ _ _) rfl ⟨_,_,rfl,⟨[],Rd.of_own (e:=3) (World.ownsRow_nil _ 0 _ _),trivial⟩,t.out.trans u.out⟩
 subst k;have d0:=Q6 U.out u.out;have j2:=f9.out.keep U.out u.out (fun _ _ h=>h);have j8:=X.out.ext u.out;have o7:B<=G.heap.size:=by have:=t.out.size;have:=u.out.size;have:=g7.out;omega
 obtain⟨Y,d4⟩:=zE (G.alloc (.cells #[.slice a9 Q.length a8] 23));have v:Ext G Y:=by rw [<-d4];exact(Q0.refl _ G).alloc _
 have j5:=Q6 d0 v;have j3:=j2.keep d0 v (fun _ _ h=>h);obtain⟨W,b6,g6,g3,f7⟩:=Zh5 j5 j3 (j8.ext v) (g2.out.ext v) (t.out.trans (u.out.trans v));have k6:∀ j P,[Value.slice a9 Q.length a8][j]?=some P->Y.cell? ((⟨G.heap.size,0,none⟩:Addr).add j)=some P:=by rw [<-d4];exact Qn rfl
 have b8:=Zh k6;have n3:B<=Y.heap.size:=by have:=v.size;omega
 clear d0 j2 j8 j5 j3 v k6 U f9 X g2 t u;obtain⟨l2,n1⟩:=zE G.heap.size;rw [n1] at b8;obtain⟨i1,d7⟩:=zE Q.length;have m1:Hid (Qk Y (.slice a9 i1 a8) Q):=Zh (by rw [<-d7];exact g3.out);rw [d7] at b8 d4;have o1:=Zh d7
 go_wp2_with (at_builtin;refine Q3l (K:=Bg) rfl (.tmp 46) (.tmp 48) 74 rfl B 23 _ 1 24 Tryz.underlying74 Qbu rfl zd _ _ _ rfl W.out ⟨l2,0,none⟩ 1 1 [.slice a9 i1 a8] rfl rfl b8.out ?c2 ?c3 ?c4 ?c5 ?c6 ?c7 b6.out ?_)
 case c2=>first | rfl | (intro P k9;simp at k9;rcases k9 with rfl;rfl)
 case c3=>unfold maxLen;omega
 case c4=>omega
 case c5=>exact n3
 case c6=>intro o0 z;simp [Value.cells] at z;subst z;exact⟨_,_,_,rfl⟩
 case c7=>intro o0 z;simp at z;subst z;exact⟨_,_,_,rfl⟩
 intro p7 p6 m6 j6 d3 j4;have d5:=Zt.row b6.out W.out d3 (g6.out.snoc m1.out);rw [<-m2.out] at d5;have i8:Ext w m6:=f7.out.after d3 (fun b J e=>by have:=(W.out.lt _ e).1;have:=g7.out;omega);obtain⟨l9,l8,m4,l4⟩:=Zh4 j6 j4 d5 i8;clear j6 d3 j4 d5 i8 W b6 g6 g3 f7;go_wp2;exact⟨⟨c+1,_,_,by omega,by first | trivial | rfl,rfl,l9.out,l8.out,m4.out,l7.out,l4.out⟩,nz⟩
def Dy(DS:List Wd)(k:Nat):List Nat:=(List.range k).map (Ze DS)
theorem Ey(DS:List Wd)(k:Nat):Dy DS (k+1)=Dy DS k++[Ze DS k]:=by unfold Dy;rw [List.range_succ,List.map_append];rfl
theorem Q1e(DS:List Wd):Dy DS DS.length=Ui DS:=rfl
theorem Q89(l:List Nat)(x:Nat):Y4 (l++[x])=Y4 l++[.int .i64 x]:=by simp [Y4]
theorem Lu.at{w:World}{vo:Option Addr}{N vc:Nat}{us:List Wd}(h:Lu w (.slice vo N vc) us) (j:us.length=N) {i:Nat} (l:i<N) :
  ∃ g off ao c,vo=some ⟨g,off,none⟩/\g<w.heap.size/\w.cell? ⟨g,off+i,none⟩=some (.slice ao (us.getD i []).length c)/\Q4 w (.slice ao (us.getD i []).length c) (us.getD i []):=by
 obtain⟨o,a,f⟩:=h;rw [j] at a;obtain⟨g,off,n,d,k,b⟩:=Z7 a l;simp only [zV,true_and] at d;obtain⟨rfl,rfl⟩:=d;obtain⟨ao,c,e,m,_⟩:=f.get i oz;rw [e] at b;exact⟨g,off,ao,c,rfl,k,b,m⟩
theorem Q35{w:World}{ps:Qr}{lo:Option Addr}{n lc:Nat}{f1 f2:Value}{c d ss:Wd}{e9:Option Addr}{N e8:Nat}(d3:Qt w (.slice lo n lc) ps) (d4:ps.length=n) (Y:Q4 w f1 c) (i:Q4 w f2 d) (d9:Q4 w (.slice e9 N e8) ss) (c6:ss.length=N) :
  Calls Tryz.prog 23 #[.slice lo n lc,f1,f2,.slice e9 N e8] w fun e w'=>∃ vo vc,e=.returned (.tuple #[.slice vo (Qy (ps.map (·.1)) c d ss).length vc,.int .i64 (Z1 (ps.map (·.1)) c d ss)])/\w'.ownsRow w.heap.size 3 1 (.slice vo (Qy (ps.map (·.1)) c d ss).length vc) (Qy (ps.map (·.1)) c d ss).length (Y4 (Ui (Qy (ps.map (·.1)) c d ss)))/\Ext w w':=by
 have I:=Mw d3 d4 Y i d9 c6
 have a1:Z1 (ps.map (·.1)) c d ss=0->(Qy (ps.map (·.1)) c d ss).length<=64:=fun g=>by
  unfold Qy;rw [if_pos g,List.length_map];unfold Z1 at g
  split at g
  ·split at g
   ·rename_i m;exact(S8 m).1
   ·rename_i m;exact absurd g m
  ·rename_i m;exact absurd g m
 have Z:Z1 (ps.map (·.1)) c d ss≠0->Qy (ps.map (·.1)) c d ss=[]:=fun g=>by unfold Qy;rw [if_neg g]
 obtain⟨g9,g8,rfl,g0⟩:=Y.slice;obtain⟨i2,i1,rfl,g1⟩:=i.slice;obtain⟨b5,c7⟩:=zE (Z1 (ps.map (·.1)) c d ss);obtain⟨DS,b6⟩:=zE (Qy (ps.map (·.1)) c d ss);rw [c7,b6] at I a1 Z ⊢;obtain⟨j2,d5⟩:=zE c.length;obtain⟨j3,d6⟩:=zE d.length;rw [d5,d6] at I ⊢;obtain⟨b2,b0,a8⟩:=Zh3 I a1 Z;clear I a1 Z c7 b6 d3 d4 Y i d9 c6 g0 g1 d5 d6;go_enter Tryz.func23,Tryz.ntmps23;go_wp2_with fail;refine b2.out.mono ?_;rintro e a6 ⟨vo,vc,rfl,p,b8⟩;have b1:=Zh p;have J:=Zh b8;clear b2 p b8;by_cases a4:b5=0;case neg=>
  have H:(b5 != 0)=true:=by simpa using a4
  have i:=a8.out a4;subst i;go_wp2;refine bodyPost_ret (Qa rfl _ _ _) rfl ⟨_,_,rfl,World.ownsRow_nil _ _ _ _,J.out⟩
 subst a4;have f9:=b0.out uz;obtain⟨f,G⟩:=zE DS.length;have p:=b1.out;rw [G] at p f9;rw [G];have t:=Zh G;have f5:=Zh p;clear p b1 b0 a8 G;obtain⟨o,c9⟩:=zE a6.heap.size;have b4:=Zh c9;have f8:Hid (w.heap.size<=o):=Zh (by have:=J.out.size;omega);clear c9;go_wp2
 refine wp_loop (fun a E=>∃(b:Nat) (a5:Value),b<=f/\a.defers=[]/\gS a [0,10,12,13]=(49,[.slice lo n lc,.slice vo f vc,a5,.int .i64 b])/\E.ownsRow o 3 1 a5 b (Y4 (Dy DS b))/\Ext a6 E)
  (fun a _=>f - (intOf (a.tmps.getD 13 undef)).toNat) ?_ ?_
 ·exact⟨0,_,by omega,rfl,rfl,World.ownsRow_nil _ _ _ _,Q0.refl _ _⟩
 rintro⟨g6,_⟩ E ⟨b,a5,i7,a0,y,W,b7⟩;subst a0;obtain⟨f0,rfl⟩:=Qc y;clear y;obtain⟨e7,e6,rfl⟩:=Qu W;have D:=Zh W;have A:=Zh b7;clear W b7;by_cases g4:b<f;case neg=>
  obtain rfl:b=f:=by omega
  have F:¬ (b:Int)<(b:Int):=by omega
  have a3:=D.out;have a2:=Q1e DS;rw [t.out] at a2;rw [a2] at a3;have f7:=Zh a3;have s:=Zh (J.out.trans A.out);clear a3 a2 D;go_wp2;refine bodyPost_ret (Qa rfl _ _ _) rfl ⟨e7,e6,by rw [t.out];rfl,by rw [t.out];exact Z9 f7.out f8.out,s.out⟩
 have F:(b:Int)<(f:Int):=by omega
 have i8:(0:Int)<=(b:Int):=by omega
 go_wp2
 refine wp_loop (fun a u=>∃(k:Nat),k<=b/\a.defers=[]/\gS a [0,10,12,13,14]=(49,[.slice lo n lc,.slice vo f vc,.slice e7 b e6,.int .i64 b,.int .i64 k])/\(∀ q,q<k->DS.getD q []≠DS.getD b [])/\Ext E u)
  (fun a _=>b - (intOf (a.tmps.getD 14 undef)).toNat) ?_ ?_
 ·exact⟨0,by omega,rfl,rfl,fun q x=>absurd x (Nat.not_lt_zero _),Q0.refl _ _⟩
 rintro⟨g6,_⟩ u ⟨k,g5,a0,y,d7,b9⟩;subst a0;obtain⟨f0,rfl⟩:=Qc y;clear y;have C:=Zh d7;have s:=Zh b9;clear d7 b9;have j0:(k:Int)<(f:Int):=by omega
 have i9:(0:Int)<=(k:Int):=by omega
 obtain⟨Q,X⟩:=zE u.drew;have U:Ext u Q:=by rw [<-X];exact(Q0.refl _ u).drew
 have P:=Zh (f5.out.ext (A.out.trans (s.out.trans U)));obtain⟨i4,j4,j8,j6,rfl,g2,d0,e2⟩:=P.out.at t.out (show k<f by omega);obtain⟨i5,j5,k1,j9,x,g3,d1,e3⟩:=P.out.at t.out g4;simp only [Option.some.injEq,Addr.mk.injEq,and_true] at x;obtain⟨rfl,rfl⟩:=x;have v:=Su e2 e3;have e1:=fun(j:Nat) F m h3=>Mz (DS:=DS) (k:=b) (j:=j) F m h3;have r:=Ey DS b;obtain⟨j7,e4⟩:=zE ((DS.getD k []).length);obtain⟨k0,e5⟩:=zE ((DS.getD b []).length);rw [e4] at d0 v;rw [e5] at d1 v;obtain⟨T,i⟩:=zE (decide (DS.getD k []=DS.getD b []));rw [i] at v;obtain⟨a9,z,O,M,a7⟩:=Zh5 v i e1 r U;clear v i e1 r e4 e5 e2 e3 U P g2 g3;go_upto_region 9 with (fail)
 refine V3 8 kz kz ?_;simp only [List.take_succ_cons,List.take_zero,List.drop_succ_cons,List.drop_zero];rw [X];repeat still_step
 refine wpStill_nil ?_;go_wp2_with fail;refine a9.out.mono ?_;rintro e S ⟨rfl,c0⟩;have B:=Zh (s.out.trans (a7.out.trans c0));clear a9 c0 a7 X d0 d1;cases T;case false=>
  have H:=of_decide_eq_false z.out;have j1:k<b:=by
   apply Nat.lt_of_not_le;intro g;have:k=b:=by omega
   subst this;exact H rfl
  have d8:∀ q,q<k+1->DS.getD q []≠DS.getD b []:=fun q x=>by
   by_cases g:q<k
   ·exact C.out q g
   ·rw [show q=k by omega];exact H
  have f4:=Zh d8;clear H d8 z C O M;go_wp2;exact⟨⟨k+1,by omega,by first | trivial | rfl,rfl,f4.out,B.out⟩,nz⟩
 have d2:=O.out k g5 (of_decide_eq_true z.out) C.out;have r:=M.out;rw [<-d2] at r;obtain⟨b3,K,L⟩:=Zh3 r (A.out.trans B.out) (Q6 D.out B.out);have i6:o<=S.heap.size:=by have:=K.out.size;have:=b4.out;omega
 clear d2 r M O z C A s B D
 go_wp2_with (at_builtin;refine Qo rfl (.tmp 44) (.tmp 46) 36 rfl o 3 _ 1 8 Tryz.underlying36 Tryz.infoI rfl zd _ _ _ rfl (Q6 L.out ((Q0.refl _ S).alloc _)) ⟨S.heap.size,0,none⟩ 1 1 [.int .i64 (k:Int)] rfl rfl (Qn rfl) ?c2 ?c3 ?c4 ?c5 ?_)
 case c2=>first | rfl | (intro f0 e0;simp at e0;rcases e0 with rfl;rfl)
 case c3=>unfold maxLen;omega
 case c4=>omega
 case c5=>first | omega | (simp;omega)
 intro i0 i3 g7 V c8 _;have c1:Ext a6 g7:=(K.out.alloc (.cells #[.int .i64 (k:Int)] 3)).after c8 (fun b' F e=>by have:=(L.out.lt _ e).1;have:=b4.out;omega);rw [<-Q89,<-b3.out] at V;have f6:=Zh V;have f3:=Zh c1;clear V c8 c1 L K b3;go_wp2;exact⟨⟨b+1,_,by omega,by first | trivial | rfl,rfl,f6.out,f3.out⟩,nz⟩
def Dr(DS PL:List Wd)(k:Nat):List Int:=(List.range k).map fun i=>Yq PL (DS.getD i []) PL.length
theorem Q1j(DS PL:List Wd)(k:Nat):Dr DS PL (k+1)=Dr DS PL k++[Yq PL (DS.getD k []) PL.length]:=by unfold Dr;rw [List.range_succ,List.map_append];rfl
theorem Q34(DS PL:List Wd):Dr DS PL DS.length=Kq DS PL:=by
 unfold Dr Kq;apply List.ext_getElem
 ·simp
 ·intro c a d;have b:c<DS.length:=by simpa using a
  simp [b]
theorem Q43(PL:List Wd)(w:Wd)(n:Nat):Yq PL w (n+1)=if PL.getD n []=w then(n:Int) else Yq PL w n:=rfl
theorem Q9x(L:List Int)(x:Int):Z3 (L++[x])=Z3 L++[.int .i64 x]:=by simp [Z3]
theorem Q5f{w:World}{ps:Qr}{lo:Option Addr}{n lc:Nat}{k0 k1:Value}{c f ss:Wd}{b5:Option Addr}{N b4:Nat}(i9:Qt w (.slice lo n lc) ps) (j0:ps.length=n) (a6:Q4 w k0 c) (k:Q4 w k1 f) (I:Q4 w (.slice b5 N b4) ss) (Q:ss.length=N) :
  Calls Tryz.prog 25 #[.slice lo n lc,k0,k1,.slice b5 N b4] w fun e w'=>∃ vo vc,e=.returned (.tuple #[.slice vo (Xe (ps.map (·.1)) c f ss).length vc,.int .i64 (Z1 (ps.map (·.1)) c f ss)])/\w'.ownsRow w.heap.size 3 1 (.slice vo (Xe (ps.map (·.1)) c f ss).length vc) (Xe (ps.map (·.1)) c f ss).length (Z3 (Xe (ps.map (·.1)) c f ss))/\Ext w w':=by
 have d6:=Mw i9 j0 a6 k I Q;have a9:=@Mp (ps.map (·.1)) c f ss;have d2:=@Ri (ps.map (·.1)) c f ss;have b3:=@Fa (ps.map (·.1)) c f ss;have z:=fun(g:Nat) (r:g<ss.length)=>Ro (a:=c) (b:=f) r;have d7:(Jn c f ss).length=N:=by unfold Jn;rw [List.length_map,Q]
 have G:=fun(t:World) (M:Ext w t) (s:Nat × Nat) (hx:Qh s) (W:c.length+1+f.length<=1000)=>Lm (a6.ext M) (k.ext M) hx W;have d9:Z1 (ps.map (·.1)) c f ss≠0->Xe (ps.map (·.1)) c f ss=[]:=fun r=>by unfold Xe;rw [if_neg r]
 have A:Z1 (ps.map (·.1)) c f ss=0->Xe (ps.map (·.1)) c f ss=Kq (Qy (ps.map (·.1)) c f ss) (Jn c f ss):=fun r=>by unfold Xe;rw [if_pos r]
 have e0:(Kq (Qy (ps.map (·.1)) c f ss) (Jn c f ss)).length=(Qy (ps.map (·.1)) c f ss).length:=by unfold Kq;rw [List.length_map]
 obtain⟨g6,g5,rfl,l1⟩:=a6.slice;obtain⟨g8,g7,rfl,l2⟩:=k.slice;obtain⟨m0,i3⟩:=zE (Xe (ps.map (·.1)) c f ss);obtain⟨g4,a4⟩:=zE (Z1 (ps.map (·.1)) c f ss);obtain⟨j,c6⟩:=zE (Qy (ps.map (·.1)) c f ss);obtain⟨o,a3⟩:=zE (Jn c f ss);rw [a4,i3] at d9 A ⊢;rw [c6,a3] at A e0;rw [a4,c6] at d6 b3;rw [a4] at a9 d2;rw [a3] at d7;simp only [a3] at z;rw [Q] at a9 b3;obtain⟨k5,k6,e9,g2,g3,b8,b9,f2⟩:=Zh8 z d7 G d9 A d2 d6 a9;obtain⟨g0,f7,f1,f4⟩:=Zh4 b3 e0 I Q;clear d6 a9 b3 a4 c6 i3 a3 i9 j0 a6 k I Q l1 l2 z d7 G d9 A d2 e0;obtain⟨j6,j1⟩:=zE c.length;obtain⟨j7,j2⟩:=zE f.length;rw [j1,j2] at b9 b8 e9 ⊢;clear j1 j2;go_enter Tryz.func25,Tryz.ntmps25;go_wp2_with fail;refine b9.out.mono ?_;rintro e b7 ⟨vo,vc,rfl,H,i0⟩;have f5:=Zh H;have J:=Zh i0;clear b9 H i0;by_cases W:g4=0;case neg=>
  have n7:(g4 != 0)=true:=by simpa using W
  have k:=g2.out W;subst k;go_wp2;refine bodyPost_ret (Qa rfl _ _ _) rfl ⟨_,_,rfl,World.ownsRow_nil _ _ _ _,J.out⟩
 subst W;have m8:=f2.out uz;have a2:=g0.out uz;obtain⟨n5,n6⟩:=b8.out uz;have A:=g3.out uz;have H:=f5.out;have B:=f7.out;rw [a2] at H B;rw [a2];obtain⟨f3,k3,f6,k8⟩:=Zh4 a2 H A B;clear H f5 f2 g0 a2 b8 g2 g3 A B f7;obtain⟨E,i5⟩:=zE b7.heap.size;have g1:=Zh i5;have k9:Hid (w.heap.size<=E):=Zh (by have:=J.out.size;omega);clear i5;go_wp2
 refine wp_loop (fun a t=>∃(i:Nat) (v:Value),i<=N/\a.defers=[]/\gS a [0,1,2,3,10,12,13]=(57,[.slice lo n lc,.slice g6 j6 g5,.slice g8 j7 g7,.slice b5 N b4,.slice vo N vc,v,.int .i64 i])/\t.ownsRow E 3 1 v i (Z3 (Dr j o i))/\Ext b7 t)
  (fun a _=>N - (intOf (a.tmps.getD 13 undef)).toNat) ?_ ?_
 ·exact⟨0,_,by omega,rfl,rfl,World.ownsRow_nil _ _ _ _,Q0.refl _ _⟩
 rintro⟨l8,_⟩ t ⟨i,v,n0,d1,V,c9,M⟩;subst d1;obtain⟨b6,rfl⟩:=Qc V;clear V;obtain⟨j9,j8,rfl⟩:=Qu c9;have Y:=Zh c9;have X:=Zh M;clear c9 M;by_cases l5:i<N;case neg=>
  obtain rfl:i=N:=by omega
  have g9:¬ (i:Int)<(i:Int):=by omega
  have d8:=Y.out;have d4:=Q34 j o;rw [f3.out,<-f6.out] at d4;rw [d4] at d8;have B:=k8.out;rw [<-f6.out] at B;obtain⟨k7,y,f8⟩:=Zh3 d8 (J.out.trans X.out) B;clear d8 d4 Y B;go_wp2;refine bodyPost_ret (Qa rfl _ _ _) rfl ⟨j9,j8,by rw [f8.out];rfl,by rw [f8.out];exact Z9 k7.out k9.out,y.out⟩
 have g9:(i:Int)<(N:Int):=by omega
 have n1:(0:Int)<=(i:Int):=by omega
 go_wp2
 refine wp_loop (fun a u=>∃(g:Nat),g<=N/\a.defers=[]/\gS a [0,1,2,3,10,12,13,14,15]=(57,[.slice lo n lc,.slice g6 j6 g5,.slice g8 j7 g7,.slice b5 N b4,.slice vo N vc,.slice j9 i j8,.int .i64 i,.int .i64 (Yq o (j.getD i []) g),.int .i64 g])/\Ext t u)
  (fun a _=>N - (intOf (a.tmps.getD 15 undef)).toNat) ?_ ?_
 ·exact⟨0,by omega,rfl,rfl,Q0.refl _ _⟩
 rintro⟨l8,_⟩ u ⟨g,n2,d1,V,i1⟩;subst d1;obtain⟨b6,rfl⟩:=Qc V;clear V;have y:=Zh i1;clear i1;by_cases l6:g<N;case neg=>
  obtain rfl:g=N:=by omega
  have m7:¬ (g:Int)<(g:Int):=by omega
  have b1:=Q1j j o i;rw [k6.out] at b1;obtain⟨a0,P⟩:=zE (Yq o (j.getD i []) g);rw [P] at b1 ⊢;obtain⟨f9,C,c0⟩:=Zh3 b1 (X.out.trans y.out) (Q6 Y.out y.out);have m9:E<=u.heap.size:=by have:=C.out.size;have:=g1.out;omega
  clear b1 P X y Y
  go_wp2_with (at_builtin;refine Qo rfl (.tmp 52) (.tmp 54) 36 rfl E 3 _ 1 8 Tryz.underlying36 Tryz.infoI rfl zd _ _ _ rfl (Q6 c0.out ((Q0.refl _ u).alloc _)) ⟨u.heap.size,0,none⟩ 1 1 [.int .i64 a0] rfl rfl (Qn rfl) ?c2 ?c3 ?c4 ?c5 ?_)
  case c2=>first | rfl | (intro b6 b2;simp at b2;rcases b2 with rfl;rfl)
  case c3=>unfold maxLen;omega
  case c4=>omega
  case c5=>first | omega | (simp;omega)
  intro m2 m3 l9 c8 i4 _;have i2:Ext b7 l9:=(C.out.alloc (.cells #[.int .i64 a0] 3)).after i4 (fun b' g9 e=>by have:=(c0.out.lt _ e).1;have:=g1.out;omega);rw [<-Q9x,<-f9.out] at c8;have k4:=Zh c8;have k2:=Zh i2;clear c8 i4 i2 c0 C f9;go_wp2;exact⟨⟨i+1,_,by omega,by first | trivial | rfl,rfl,k4.out,k2.out⟩,nz⟩
 have n4:(g:Int)<(N:Int):=by omega
 have n3:(0:Int)<=(g:Int):=by omega
 have a8:g<ss.length:=by rw [f4.out];exact l6
 obtain⟨p,a5⟩:=zE u.drew;have c1:Ext u p:=by rw [<-a5];exact(Q0.refl _ u).drew
 have a1:Ext b7 p:=X.out.trans (y.out.trans c1);obtain⟨m5,n8,o7,o5,rfl,l3,d0,j5⟩:=(k3.out.ext a1).at f3.out l5;have i6:=(f1.out.ext (J.out.trans a1)).at a8;rw [f4.out] at i6;obtain⟨m6,n9,m4,b0,l4,T,U⟩:=i6;simp only [zV,true_and] at b0;obtain⟨rfl,rfl⟩:=b0;rw [List.getD_eq_getElem?_getD,List.getElem?_eq_getElem a8,Option.getD_some] at T U;have d5:=f1.out.2 _ (List.getElem_mem a8);have z:=k5.out g a8;obtain⟨s,I⟩:=zE (ss[g]);rw [I] at T U d5 z;clear I;have G:=e9.out p (J.out.trans a1) s d5 oz;have d3:=Q43 o (j.getD i []) g;rw [z] at d3
 have i7:∀ b,decide (j.getD i []=Qf c f s)=b->Yq o (j.getD i []) (g+1)=if b=true then(g:Int) else Yq o (j.getD i []) g:=fun b k=>by
  rw [d3];by_cases r:j.getD i []=Qf c f s
  ·rw [decide_eq_true r] at k;subst k;rw [if_pos r.symm,if_pos rfl]
  ·rw [decide_eq_false r] at k;subst k;rw [if_neg (fun e=>r e.symm),if_neg zd]
 have a7:=fun(t:World) (hV:Ext p t) (b6:Value) (b2:Q4 t b6 (Qf c f s))=>Su (j5.ext hV) b2;obtain⟨o6,e1⟩:=zE ((j.getD i []).length);rw [e1] at d0;simp only [e1] at a7;obtain⟨b,k⟩:=zE (decide (j.getD i []=Qf c f s));have q:=i7 b k;simp only [k] at a7;obtain⟨a0,P⟩:=zE (Yq o (j.getD i []) g);rw [P] at q ⊢;obtain⟨o1,o2⟩:=s;dsimp only at T U;unfold sV at G;obtain⟨f0,e7,Z,e5⟩:=Zh4 G a7 q c1;clear G a7 q i7 d3 k P j5 e1 z d5 a1 c1 l3 l4;go_upto_region 12 with (fail)
 have m:Ext p u.drew:=by rw [a5];exact Q0.refl _ _
 refine Z8 (S:=fun D=>Ext p D) [] kz m ?_;intro _;rw [a5] at m ⊢;obtain⟨e4,e2,e3⟩:=Zh3 d0 T U;clear d0 T U a5;refine tE 0 39 m ?_;refine tE 1 40 m ?_;refine tE 2 41 m ?_;refine tkE (i:=3) (d:=42) (v:=?_) rfl (Or.inl ⟨by rfl,?_⟩) m ?_;rotate_left
 ·intro w F;(try dsimp only at F);have l7:=(show Ext p _ from F).cell_some e4.out id;go_simp;try with_reducible rfl
 try simp only [Act.put,pq]
 refine tE 4 43 m ?_;refine tE 5 44 m ?_;refine tE 6 45 m ?_;refine tE 7 46 m ?_;refine tE 8 47 m ?_;refine tkE (i:=9) (d:=48) (v:=?_) rfl (Or.inl ⟨by rfl,?_⟩) m ?_;rotate_left
 ·intro w F;(try dsimp only at F);have l7:=(show Ext p _ from F).cell_some e2.out id;have o0:=(show Ext p _ from F).cell_some e3.out id;go_simp;try with_reducible rfl
 try simp only [Act.put,pq]
 refine rE [10] ?_;refine Q2.cons rfl (fun K hK=>?_) Q2.nil;refine iw rfl ?_;go_simp;refine f0.out.mono ?_;rintro e l0 ⟨o4,o3,rfl,j3,O⟩;obtain⟨_,_,b0,j4⟩:=Jh j3;cases b0;have i8:=e7.out l0 O _ j4;have e8:=Zh i8
 (try refine⟨_,rfl,?_⟩)
 refine hK _ _ O (fun _=>?_);clear hK K f0 e7 j3 j4 i8 m e4 e2 e3;try simp only [Act.put,pq]
 refine rE [11] ?_;refine Q2.cons rfl (fun K hK=>?_) Q2.nil;refine iw rfl ?_;go_simp;refine e8.out.mono ?_;rintro e m1 ⟨rfl,c7⟩
 (try refine⟨_,rfl,?_⟩)
 refine hK _ _ (O.trans c7) (fun _=>?_);clear hK K;try simp only [Act.put,pq]
 refine Z0 kz ?_ _;have e6:=Zh (y.out.trans (e5.out.trans O));have C:=Zh (e6.out.trans c7);clear e8 c7 e6 O e5 y;cases b;case false=>
  have q:=Z.out;rw [if_neg zd] at q;have L:Hid (Value.int .i64 a0=.int .i64 (Yq o (j.getD i []) (g+1))):=Zh (by rw [q]);clear q Z;go_wp2;exact⟨⟨g+1,by omega,by first | trivial | rfl,(Prod.ext rfl (lE rfl (lE rfl (lE rfl (lE rfl (lE rfl (lE rfl (lE rfl (lE (by first | exact L.out | (rw [<-L.out];rfl)) rfl))))))))),C.out⟩,nz⟩
 have q:=Z.out;rw [if_pos rfl] at q;have L:Hid (Value.int .i64 (g:Int)=.int .i64 (Yq o (j.getD i []) (g+1))):=Zh (by rw [q]);clear q Z;go_wp2;exact⟨⟨g+1,by omega,by first | trivial | rfl,(Prod.ext rfl (lE rfl (lE rfl (lE rfl (lE rfl (lE rfl (lE rfl (lE rfl (lE (by first | exact L.out | (rw [<-L.out];rfl)) rfl))))))))),C.out⟩,nz⟩
theorem Q52:Uc [v15] [(5,2)] [(5,2)] (2,5)=0/\Ua [v15] [(5,2)] [(5,2)] (2,5)=[(5,2),(3,4),(5,2)]:=by decide +kernel
theorem Sc:Z1 [v15] [(5,2)] [(5,2)] [(2,5),(3,4),(5,2)]=0/\Qy [v15] [(5,2)] [(5,2)] [(2,5),(3,4),(5,2)]=[[(5,2),(3,4),(5,2)],[(5,2),(3,4),(5,2)],[(5,2),(5,2),(5,2)]]:=by decide +kernel
theorem Q72:Ui [[(5,2),(3,4),(5,2)],[(5,2),(3,4),(5,2)],[(5,2),(5,2),(5,2)]]=[0,0,2]:=by decide +kernel
theorem Q9p:Xe [v15] [(5,2)] [(5,2)] [(2,5),(3,4),(5,2)]=[1,1,2]:=by decide +kernel
theorem Tf:Y6 [1,2,-1,3]=0/\Gc [1,2,-1,3]=[[0,1,2]]:=by decide +kernel
end Go.Proofs.YtejenndedjabhaaGreatDoor
