/- ablautref08.Hit (printed by genrefhit.py). -/
import Derived.Test.YtfdlhlghcbeblaaGreatDoorQ17
import Derived.Test.YtfdlhlghcbeblaaGreatDoorQ18
set_option maxRecDepth 100000
set_option maxHeartbeats 16000000
namespace Go.Proofs.YtfdlhlghcbeblaaGreatDoor
open Go.RowKit Go.Ab
attribute [local go_sem] Oper.semAt_some Zi Qz
theorem St{w:World}{cs:List Value}{l:Q5}{vo:Option Addr}{vn vc:Nat}{ws:Wd}(f9:Zf w l cs)(T:Q6 w (.slice vo vn vc) ws) (R:ws.length=vn) (b:Nat) (k4:b<=ws.length+1) (g3:l.ifs.length+ws.length<=100000) :
  Calls Tryz.prog 284 #[.agg cs.toArray,.slice vo vn vc,.int .i64 b] w fun e w'=>e=.returned (.bool (Zt l ws b))/\Ext w w':=by
 rw [R] at k4 g3;obtain⟨g7,c9,d7,d1,d3,a6,a9,d5,a4,b2,d0,d8,d2,d4,a7,b0,d6,a5,b3,g5,f,U,g9,e8,g8,g6,rfl,j2,e5,e6,e2,k1,j9,j6,j7,u,j8,j5,m8,i0,W,i1,m9⟩:=Zr f9;rw [u.out] at g3
 have Z:Hid (∀ g,Ext w g->Calls Tryz.prog 295 #[.agg #[.int .i64 c9,.int .u32 (d7:Int),.int .u32 (d1:Int),.bool d3,.int .i64 a6,.int .i64 a9,.slice d5 a4 b2],.slice vo vn vc,.int .i64 b] g fun e w'=>∃ E,e=.returned (.tuple #[E,.int .i64 (X1 l.left ws b)])/\w'.ownsRow g.heap.size 3 1 E (Vh l.left ws b).length (Qc (Vh l.left ws b))/\Ext g w'):=
  Zh fun g hE=>Q1j (e5.out.ext hE) (T.ext hE) _
 have a1:Hid (∀ g,Ext w g->Calls Tryz.prog 296 #[.agg #[.int .i64 d0,.int .u32 (d8:Int),.int .u32 (d2:Int),.bool d4,.int .i64 a7,.int .i64 b0,.slice d6 a5 b3],.slice vo vn vc,.int .i64 ((b:Int)+(f:Int))] g fun e w'=>∃ E,e=.returned (.tuple #[E,.int .i64 (X1 l.right ws ((b:Int)+(f:Int)))])/\w'.ownsRow g.heap.size 3 1 E (Vj l.right ws ((b:Int)+(f:Int))).length (Qc (Vj l.right ws ((b:Int)+(f:Int))))/\Ext g w'):=
  Zh fun g hE=>Q4w (e6.out.ext hE) (T.ext hE) _
 have e7:=Zh T;have e4:=Zh R;have c3:=fun(m:Zt l ws b=true)=>V8 m;rw [u.out,R] at c3;have f4:=fun(d:Nat) (f8:d<l.ifs.length) (m:Jr (ws.getD (b+d) (0,0)) (l.ifs.getD d (0,0))=false)=>Q42 f8 m;have I:=fun(J:b+l.ifs.length<=ws.length) (m:∀ d,d<l.ifs.length->Jr (ws.getD (b+d) (0,0)) (l.ifs.getD d (0,0))=true)=>Q5p (l:=l) (ws:=ws) J m;obtain⟨j3,i8,i6⟩:=Zh3 c3 f4 I;have i9:Hid (Fl l ws b=(!(Vh l.left ws (b:Int)).isEmpty && !(Vj l.right ws ((b:Int)+(f:Int))).isEmpty)):=Zh (by unfold Fl;rw [u.out,Int.natCast_add]);clear f9 T R j2 e5 e6 j9 j6 j7 j5 k1 j8 c3 f4 I;go_enter Tryz.func284,Tryz.ntmps284;go_upto_region 1 with (fail)
 obtain⟨d9,t⟩:=zE (w.alloc (.cells #[.string g7,.int .i64 c9,.int .u32 (d7:Int),.int .u32 (d1:Int),.bool d3,.int .i64 a6,.int .i64 a9,.slice d5 a4 b2,.int .i64 d0,.int .u32 (d8:Int),.int .u32 (d2:Int),.bool d4,.int .i64 a7,.int .i64 b0,.slice d6 a5 b3,.slice g5 f U,.slice g9 e8 g8,.int .i64 g6] 102));have f1:Ext w d9:=by rw [<-t];exact(Q0.refl _ w).alloc _
 have c2:d9.heap[w.heap.size]?=some (.cells #[.string g7,.int .i64 c9,.int .u32 (d7:Int),.int .u32 (d1:Int),.bool d3,.int .i64 a6,.int .i64 a9,.slice d5 a4 b2,.int .i64 d0,.int .u32 (d8:Int),.int .u32 (d2:Int),.bool d4,.int .i64 a7,.int .i64 b0,.slice d6 a5 b3,.slice g5 f U,.slice g9 e8 g8,.int .i64 g6] 102 (0,0)):=by rw [<-t];exact Q3 rfl
 rw [t];obtain⟨Y,f0⟩:=zE w.heap.size;rw [f0] at c2 ⊢;have e3:=Zh c2;have z:=fun d=>cell_of_row _ _ d _ _ _ e3.out;clear t f0 c2;have l7:¬ (b:Int)<0:=by omega
 by_cases m3:vn<b+f
 ·have e9:(vn:Int)<(b:Int)+(f:Int):=by omega
  have f7:Zt l ws b=false:=by
   cases hh:Zt l ws b with
   | false=>rfl
   | true=>exact absurd (j3.out hh) oz
  have a2:=Zh f7;clear f7;go_wp2;go_ret;exact⟨by rw [a2.out];rfl,f1⟩
 have e9:¬ (vn:Int)<(b:Int)+(f:Int):=by omega
 go_wp2;clear z
 refine wp_loop (fun a g=>∃(d:Nat),d<=f/\a.defers=[]/\gS a [1,2,3,7,8]=(70,[.slice vo vn vc,.int .i64 b,.pointer (some ⟨Y,0,none⟩),.int .i64 f,.int .i64 d])/\(∀ k,k<d->Jr (ws.getD (b+k) (0,0)) (l.ifs.getD k (0,0))=true)/\Ext d9 g)
  (fun a _=>f - (intOf (a.tmps.getD 8 undef)).toNat) ?_ ?_
 ·exact⟨0,by omega,rfl,rfl,fun k J=>absurd J oz,Q0.refl _ _⟩
 rintro⟨X,_⟩ g ⟨d,f8,k7,g4,I,b6⟩;subst k7;obtain⟨E,rfl⟩:=Qj g4;clear g4;have e0:=Zh I;clear I;have C:=b6.keep e3.out;have H:=f1.trans b6;by_cases k8:d<f;case neg=>
  obtain rfl:f=d:=by omega
  have e9:¬ (f:Int)<(f:Int):=by omega
  have z:=fun d=>cell_of_row _ _ d _ _ _ C;have F:Hid (Zt l ws b=(!(Vh l.left ws (b:Int)).isEmpty && !(Vj l.right ws ((b:Int)+(f:Int))).isEmpty)):=Zh (by rw [i6.out (by rw [u.out,e4.out];omega) (by rw [u.out];exact e0.out),i9.out]);have j4:=Zh C;clear C;obtain⟨b1,f3⟩:=zE (Vh l.left ws (b:Int));obtain⟨b5,f6⟩:=zE (Vj l.right ws ((b:Int)+(f:Int)));rw [f3] at Z F;rw [f6] at a1 F;clear f3 f6;go_wp2_with fail;refine(Z.out g H).mono ?_;rintro e l2 ⟨k9,rfl,g1,n⟩;obtain⟨m6,l5,rfl,k5⟩:∃ p c,k9=.slice p b1.length c/\b1.length<=maxLen:=by
   obtain⟨i0,W,a8,b4,o,i1⟩:=Rd.of_own g1;exact⟨a8,b4,o,W⟩
  unfold maxLen at k5;clear g1;have f2:=H.trans n;have j1:=Zh (n.keep j4.out);have z:=fun d=>cell_of_row _ _ d _ _ _ j1.out;clear n;go_wp2_with fail;refine(a1.out l2 f2).mono ?_;rintro e n0 ⟨l0,rfl,g2,n⟩;obtain⟨m7,l6,rfl,k6⟩:∃ p c,l0=.slice p b5.length c/\b5.length<=maxLen:=by
   obtain⟨i0,W,a8,b4,o,i1⟩:=Rd.of_own g2;exact⟨a8,b4,o,W⟩
  unfold maxLen at k6;clear g2;have P:=f2.trans n;clear n z;have a0:=Zh P;clear Z a1 P;cases b1 with
  | nil=>
   have k2:¬ (0:Int)<(([]:List Nat).length:Int):=by simp
   go_wp2;go_ret;exact⟨by rw [F.out];simp,a0.out⟩
  | cons x r=>
   have k2:(0:Int)<((x::r).length:Int):=by rw [List.length_cons];omega
   cases b5 with
   | nil=>
    have B:¬ (0:Int)<(([]:List Nat).length:Int):=by simp
    go_wp2;go_ret;exact⟨by rw [F.out];simp,a0.out⟩
   | cons y q=>
    have B:(0:Int)<((y::q).length:Int):=by rw [List.length_cons];omega
    go_wp2;go_ret;exact⟨by rw [F.out];simp,a0.out⟩
 have l8:(d:Int)<(f:Int):=by omega
 have Q:d<l.ifs.length:=by rw [u.out];exact k8
 have c1:b+d<ws.length:=by rw [e4.out];omega
 obtain⟨A,D,l3,o,m1,L,M⟩:=(e2.out.ext H).at Q;simp only [zV] at o;obtain⟨rfl,c8,rfl⟩:=o;clear c8;obtain⟨B,V,l4,o,m2,N,O⟩:=(e7.out.ext H).at c1;simp only [zV] at o;obtain⟨rfl,c8,rfl⟩:=o;clear c8;obtain⟨b9,c0⟩:=e2.out.2.get d Q;obtain⟨t,c6⟩:=e7.out.2.get (b+d) c1;obtain⟨s,c4⟩:=zE (ws.getD (b+d) (0,0));obtain⟨X,c5⟩:=zE (l.ifs.getD d (0,0));obtain⟨v,b7⟩:=zE (Jr s X);have e1:Hid (Jr (ws.getD (b+d) (0,0)) (l.ifs.getD d (0,0))=v):=Zh (by rw [c4,c5];exact b7);rw [c4] at N O t c6;rw [c5] at L M b9 c0;have b8:=fun(i:World)=>Qck (s:=s) (c:=X) ⟨t,c6⟩ ⟨b9,c0⟩ i;simp only [b7] at b8;obtain⟨i2,i3⟩:=s;obtain⟨i4,i5⟩:=X;dsimp only at L M N O;have f5:∀(i:World),Ext g i->i.cell? ⟨Y,15,none⟩=some (.slice (some ⟨A,D,none⟩) f U)/\i.cell? ⟨B,V+(b+d)*2,none⟩=some (.int .u32 (i2:Int))/\i.cell? ⟨B,V+(b+d)*2+1,none⟩=some (.int .u32 (i3:Int))/\i.cell? ⟨A,D+d*2,none⟩=some (.int .u32 (i4:Int))/\i.cell? ⟨A,D+d*2+1,none⟩=some (.int .u32 (i5:Int)):=by
  intro i G;exact⟨cell_of_row _ _ 15 _ _ _ (G.keep C),G.cell_some N id,G.cell_some O id,G.cell_some L id,G.cell_some M id⟩
 obtain⟨i7,a3,j0⟩:=Zh3 b8 f5 Q;have z:=cell_of_row _ _ 15 _ _ _ C;have l9:(b:Int)+(d:Int)<(vn:Int):=by omega
 have m0:(0:Int)<=(b:Int)+(d:Int):=by omega
 have m5:IntKind.i64.wrap ((b:Int)+(d:Int))=(b:Int)+(d:Int):=IntWalk.i64_in _ oz;have m4:((b:Int)+(d:Int)).toNat=b+d:=by omega
 clear b8 c4 c5 b7 b9 c0 t c6 L M N O f5 C Q c1;go_upto_region 7 with (fail)
 clear z;refine wp_region_held_drew (S:=fun i=>i.cell? ⟨Y,15,none⟩=some (.slice (some ⟨A,D,none⟩) f U)/\i.cell? ⟨B,V+(b+d)*2,none⟩=some (.int .u32 (i2:Int))/\i.cell? ⟨B,V+(b+d)*2+1,none⟩=some (.int .u32 (i3:Int))/\i.cell? ⟨A,D+d*2,none⟩=some (.int .u32 (i4:Int))/\i.cell? ⟨A,D+d*2+1,none⟩=some (.int .u32 (i5:Int))) kz (a3.out _ (Q0.drew (Q0.refl _ g))) ?_;intro j;refine tH 0 31 j ?_;refine tH 1 32 j ?_;refine tH 2 33 j ?_;refine tH 3 34 j ?_;refine tH 4 35 j ?_;refine tH 5 36 j ?_;refine tH 6 37 j ?_;refine tH 7 38 j ?_;refine tH 8 39 j ?_;refine tH 9 40 j ?_;refine tH 10 41 j ?_;refine rH [11] ?_;refine AllReadyH.cons rfl (fun K hK=>?_) AllReadyH.nil;refine iw rfl ?_;go_simp;refine(i7.out _).mono ?_;rintro e l1 ⟨rfl,n⟩;have c7:Ext g l1:=Q0.trans (Q0.drew (Q0.refl _ g)) n;refine hK.out _ _ (a3.out _ c7) (fun hS1=>?_);clear hK K n;refine tH 12 43 hS1 ?_;refine wpAnyH_done kz ?_ _;clear j hS1 a3;have P:=b6.trans c7;have k3:=H.trans c7;cases v
 ·have a2:=Zh (i8.out d j0.out e1.out);go_wp2;go_ret;exact⟨by rw [a2.out];rfl,k3⟩
 ·have g0:∀ k,k<d+1->Jr (ws.getD (b+k) (0,0)) (l.ifs.getD k (0,0))=true:=by
   intro k J;rcases Nat.lt_succ_iff_lt_or_eq.1 J with m | m
   ·exact e0.out k m
   ·rw [m];exact e1.out
  have k0:=Zh g0;clear g0;go_wp2;exact⟨⟨d+1,by omega,tz,rfl,k0.out,P⟩,nz⟩
def Lg(t:List (Nat × Wd)):Int:=if X8 t=true then 11 else 0
def No(t:List (Nat × Wd)):List (Nat × Wd):=if X8 t=true then [] else t
theorem Cj{a:List (Nat × Wd)} (h:X8 a=false):Lg a=0/\No a=a:=by unfold Lg No;rw [h];exact⟨rfl,rfl⟩
theorem Ta{t b rest:List (Nat × Wd)} {x:Nat × Wd} (h:t=b++x::rest) (a:32<x.2.length):Lg t=11/\No t=[]:=by
 have:X8 t=true:=by
  rw [h];unfold X8;rw [List.any_append,List.any_cons,decide_eq_true a];simp
 unfold Lg No;rw [this];exact⟨rfl,rfl⟩
theorem Nh{a:List (Nat × Wd)} {x:Nat × Wd} (h:X8 a=false) (b:x.2.length<=32):X8 (a++[x])=false:=by
 unfold X8 at h ⊢;rw [List.any_append,h];simp;omega
theorem Tryz.infoW2:(Tryz.prog.info? 99).map (fun i=>(i.zero,i.size,i.bytes))=some (some (.slice none 0 0),1,24):=by kernel_rfl
theorem Q62{w:World}{vo:Option Addr}{vc:Nat}{ws:Wd}(hv:Q6 w (.slice vo ws.length vc) ws):Qw (fun g=>g<w.heap.size) (.slice vo ws.length vc):=fun g o n c e h0=>by
 obtain⟨_,_,ao,cap,q,h3⟩:=hv.1;rw [q] at e;cases e;cases q;obtain⟨g',o',q1,q2,_⟩:=h3 h0;cases q1;exact q2
def Q78(v:Value):Nat:=match v with | .slice _ n _=>n | _=>0
theorem Q6m{w:World}{l:Q5}{cs:List Value}{vo:Option Addr}{vc:Nat}{ws:Wd}(a0:Zf w l cs)(b8:Q6 w (.slice vo ws.length vc) ws) (Z:ws.length<=vc) (n1:Yg l=true) (n5:l.mode=2) (b9:ws.length<=32) :
  Calls Tryz.prog 272 #[.agg cs.toArray,.slice vo ws.length vc] w fun e w'=>∃ u v,e=.returned (.tuple #[u,v,.int .i64 (Lg (Qt l ws))])/\Xy w.heap.size w' u v (No (Qt l ws))/\Ext w w':=by
 obtain⟨s0,s2,m9,_,m7,_,_,_⟩:=Uv n1;have m8:=fun(I:World) (J:Ext w I) (f:Wd) (p:Option Addr) (d j:Nat) (t:f.length=d) (r:Q6 I (.slice p d j) f) (Y:d<=32) (i:Nat) (hi:i<=d)=>St (a0.ext J) r t i oz oz;have o0:=fun(I:World) (J:Ext w I) (f:Wd) (p:Option Addr) (d j:Nat) (t:f.length=d) (r:Q6 I (.slice p d j) f) (Z:d<=j) (Y:d<=32) (i:Nat) (hi:Zt l f i=true)=>Pv (a0.ext J) r t Z i (by rw [<-t];exact V8 hi) m7 oz oz;have f3:=Q62 b8
 have n6:∀(f:Wd) (i:Nat),Yf f->Yf (Y1 l f i):=fun f i r=>by
  obtain⟨_,_,_,_,_,_,_,_,_,s3⟩:=a0;unfold Y1 Ku;intro a4 s;rw [List.mem_append,List.mem_append] at s;rcases s with (s | s) | s
  ·exact r a4 (List.mem_of_mem_take s)
  ·exact Wr (fun a4 s=>r a4 (List.mem_of_mem_drop (List.mem_of_mem_take s))) s3.2 a4 s
  ·exact r a4 (List.mem_of_mem_drop s)
 obtain⟨p7,p0,q2,p2,p5,k1,k3,p8,j9,k5,p1,q3,p3,p6,k2,k4,p9,k0,c2,o9,E,o8,q1,b0,q0,p4,rfl,q8,r3,r4,q6,L,t0,s8,s9,T,d6,s7,u2,u3,u4,u5,u6⟩:=Zr a0;obtain⟨t1,f0⟩:=zE (Qt l ws);rw [f0];have o1:Ju l ws [] ws 0:=Ju.start n5;rw [T.out] at s0 m9;rw [d6.out] at s2 m9;obtain⟨s6,g3⟩:=zE ws.length;rw [g3] at b8 Z f3 b9 ⊢;have s5:=b9;obtain⟨q5,r5,i4,r2,j2,j1,j5,j8⟩:=Zh8 m8 o0 f3 n6 f0 o1 b8 g3;clear a0 b8 m8 o0 f3 n6 f0 o1 m7 n1 n5 q6 L r3 r4 q8 g3;go_enter Tryz.func272,Tryz.ntmps272;go_upto_region 1 with (fail)
 obtain⟨a5,a1⟩:=zE (w.alloc (.cells #[.string p7,.int .i64 p0,.int .u32 (q2:Int),.int .u32 (p2:Int),.bool p5,.int .i64 k1,.int .i64 k3,.slice p8 j9 k5,.int .i64 p1,.int .u32 (q3:Int),.int .u32 (p3:Int),.bool p6,.int .i64 k2,.int .i64 k4,.slice p9 k0 c2,.slice o9 E o8,.slice q1 b0 q0,.int .i64 p4] 102));have l0:Ext w a5:=by rw [<-a1];exact(Q0.refl _ w).alloc _
 have b4:a5.heap[w.heap.size]?=some (.cells #[.string p7,.int .i64 p0,.int .u32 (q2:Int),.int .u32 (p2:Int),.bool p5,.int .i64 k1,.int .i64 k3,.slice p8 j9 k5,.int .i64 p1,.int .u32 (q3:Int),.int .u32 (p3:Int),.bool p6,.int .i64 k2,.int .i64 k4,.slice p9 k0 c2,.slice o9 E o8,.slice q1 b0 q0,.int .i64 p4] 102 (0,0)):=by rw [<-a1];exact Q3 rfl
 have g1:a5.heap.size=w.heap.size+1:=by rw [<-a1];simp
 rw [a1];obtain⟨C,e5⟩:=zE w.heap.size;rw [e5] at b4 g1 ⊢;obtain⟨q7,i1,e0⟩:=Zh3 b4 e5 g1;have l9:=j5.out.ext l0;have j6:=Zh l9;have r7:=cell_of_row _ _ 15 _ _ _ b4;clear a1 e5 b4 g1 l9 j5;go_wp2
 refine wp_loop (fun a P=>∃(i:Nat) (G:List (Nat × Wd)) (f:Wd) (d:Nat) (p:Option Addr) (j:Nat) (c:Nat) (z B:Option Addr) (y A:Nat) (g6:List Value),a.defers=[]/\gS a [1,2,7,8,9,10]=(53,[.slice p d j,.pointer (some ⟨C,0,none⟩),.slice z c y,.slice B c A,.int .i64 E,.int .i64 i]) /\
   (Ju l ws G f i)/\X8 G=false/\f.length=d/\d<=32/\G.length=c/\Q6 P (.slice p d j) f/\d<=j/\Xi P (.slice z c y) (.slice B c A) (.slice p d j)/\TrP (C+1) P (.slice z c y) (.slice B c A) g6 G/\Ext a5 P)
  (fun a _=>Q78 (a.tmps.getD 1 undef)+2 - (intOf (a.tmps.getD 10 undef)).toNat) ?_ ?_
 ·exact⟨0,[],ws,s6,vo,vc,0,none,none,0,0,[],rfl,rfl,j1.out,rfl,j8.out,b9,rfl,j6.out,Z,i4.out.mono fun g hg=>⟨by have:=e0.out;have:=i1.out;omega,(fun e=>by cases e),(fun e=>by cases e)⟩,TrP.nil _ _,Q0.refl _ _⟩
 clear j1 j6 i4 r7 Z b9;rintro⟨u8,_⟩ I ⟨i,G,f,d,p,j,c,z,B,y,A,g6,r9,o2,b3,n3,o5,Y,o3,o7,r,m0,l3,J⟩;subst r9;obtain⟨u,rfl⟩:=Qj o2;clear o2;have d0:=Zh (J.keep q7.out);have e8:=l0.trans J;have t7:c<=33:=by obtain⟨_,t5,_,_⟩:=b3;have:=j8.out;have:=s5;omega
 have t8:i<=33:=by obtain⟨_,_,_,t6⟩:=b3;omega
 obtain⟨S,a6,O,U,e3,g7,d8⟩:=Zh7 b3 n3 o5 o3 o7 m0 l3;clear b3 n3 o5 o3 o7 m0 l3;by_cases m6:i+E<=d;case neg=>
  have k6:¬ ((i:Int)+(E:Int)<=(d:Int)):=by omega
  have m5:=S.out.done (by rw [O.out,T.out];omega);rw [j2.out] at m5;subst m5;obtain⟨W,X⟩:=Cj a6.out;have F:=d8.out.out;rw [<-X] at F;have c8:=Zh W;have r1:=Zh F;clear W X F m6;go_wp2;exact bodyPost_ret (Ji rfl _ _ _) rfl ⟨_,_,by rw [c8.out];rfl,r1.out.base (by have:=i1.out;omega),e8⟩
 have k6:(i:Int)+(E:Int)<=(d:Int):=by omega
 have f2:=q5.out I e8 f p d j O.out e3.out Y i oz;obtain⟨g4,f7⟩:=zE (Zt l f i);rw [f7] at f2;have i3:=Zh f2;have a8:=Zh f7;clear f2 f7
 go_wp2_with (refine wpList_load_row rfl 102 (.tmp 2) rfl C rfl _ _ _ _ d0.out Tryz.underlying102 rfl Tryz.lawInfo ?_)
 refine i3.out.mono ?_;rintro e P ⟨rfl,m⟩;have e9:=e8.trans m;have e6:=J.trans m;obtain⟨d1,a9,g9,d9⟩:=Zh4 (m.keep d0.out) (e3.out.ext m) (g7.out.ext m) (d8.out.ext m);clear m d0 e3 g7 d8 i3;cases g4
 ·have n4:=S.out.miss (by rw [O.out,T.out];exact m6) a8.out;have r0:=Zh n4;clear n4 S;go_wp2;exact⟨⟨i+1,G,f,d,p,j,c,z,B,y,A,g6,tz,rfl,r0.out,a6.out,O.out,Y,U.out,a9.out,r,g9.out,d9.out,e6⟩,by simp [intOf,Q78];omega⟩
 obtain⟨b5,u7,b7⟩:=S.out.hit a8.out;have f8:=Ve (V8 a8.out);have b6:=r5.out P e9 f p d j O.out a9.out r Y i a8.out;have g0:=r2.out f i a9.out.2;rw [O.out,T.out,d6.out] at f8;rw [T.out,d6.out] at b5;obtain⟨o,n9⟩:=zE (Y1 l f i);rw [n9] at b5 b7 f8 b6 g0;obtain⟨H,f9⟩:=zE o.length;rw [f9] at f8 b6;rw [j2.out] at b7;obtain⟨i6,j0,i9,r6,N⟩:=Zh5 b5 b7 b6 g0 f9;clear b5 b7 b6 g0 n9 f9 S
 go_wp2_with (refine wpList_load_row rfl 102 (.tmp 2) rfl C rfl _ _ _ _ d1.out Tryz.underlying102 rfl Tryz.lawInfo ?_)
 refine i9.out.mono ?_;rintro e q ⟨x,rfl,F,m⟩;have l2:=e9.trans m;have e7:=e6.trans m;have q9:=Zh (m.keep d1.out);have M:=Zh (d9.out.ext m);obtain⟨a3,a2,rfl⟩:=Zd F;have t9:=(Vb F).1;have n7:Zl q (.slice a3 H a2) o:=by
  have k7:=F;rw [<-N.out] at k7 ⊢;exact Zl.own k7 r6.out
 have m1:Xi q (.slice z c y) (.slice B c A) (.slice a3 H a2):=Xi.own M.out.ou M.out.ov F zd zd;have i7:=Zh n7;have g8:=Zh m1;clear n7 m1 F m d1 d9 g9 a9 i9 e9 e6;by_cases r8:32<H
 ·have k6:(32:Int)<(H:Int):=by omega
  obtain⟨W,X⟩:=Ta j0.out (show 32<o.length by rw [N.out];exact r8);have c8:=Zh W;have q4:=Zh X;clear W X;go_wp2;exact bodyPost_ret (Ji rfl _ _ _) rfl ⟨_,_,by rw [c8.out];rfl,by rw [q4.out];exact Xy.nil _ _,l2⟩
 have t4:¬ ((32:Int)<(H:Int)):=by omega
 have n2:=Nh a6.out (x:=(i,o)) (by show o.length<=32;rw [N.out];omega);have i5:=Zh n2;have f5:=M.out.ou;have f6:=M.out.ov;rw [U.out] at f5 f6;have L:=Zh f5;have a7:=Zh f6;have u0:C+1<=q.heap.size:=by have:=e7.size;have:=e0.out;omega
 clear n2 f5 f6 a6 j0
 go_wp2_with (at_builtin;refine Qk rfl (.tmp 34) (.tmp 36) 48 rfl (C+1) 3 _ 1 8 Tryz.underlying48 Tryz.infoI rfl zd _ _ _ rfl (Q7 L.out ((Q0.refl _ q).alloc _)) ⟨q.heap.size,0,none⟩ 1 1 [.int .i64 i] rfl rfl (Qq rfl) ?c2 ?c3 ?c4 ?c5 ?_)
 case c2=>first | rfl | (intro u t;simp at t;rcases t with rfl;rfl)
 case c3=>unfold maxLen;omega
 case c4=>omega
 case c5=>first | omega | (simp;omega)
 intro b1 c6 V l7 l5 k8;have c1:Q0 (fun b=>(Value.slice z c y).ownBlock=some b) q V:=Q0.trans ((Q0.refl _ q).alloc _) l5;have o6:=Qf a7.out c1 (fun g hg e=>Jp L.out a7.out zd g e hg);have m3:(Value.slice b1 (c+1) c6).ownBlock=(Value.slice z c y).ownBlock\/∃ k,q.heap.size<=k/\(Value.slice b1 (c+1) c6).ownBlock=some k:=k8.imp id fun e=>⟨_,by first | omega | simp | (simp;omega),e⟩;obtain⟨e1,e2,j3,i2⟩:=Zh4 l7 o6 c1 m3;have u1:=c1.size;clear l7 l5 k8 c1 o6 m3
 go_wp2_with (at_builtin;refine Qk rfl (.tmp 38) (.tmp 40) 60 rfl (C+1) 99 _ 1 24 Tryz.underlying60 Tryz.infoW2 rfl zd _ _ _ rfl (Q7 e2.out ((Q0.refl _ V).alloc _)) ⟨V.heap.size,0,none⟩ 1 1 [.slice a3 H a2] rfl rfl (Qq rfl) ?d2 ?d3 ?d4 ?d5 ?_)
 case d2=>first | rfl | (intro u t;simp at t;rcases t with rfl;rfl)
 case d3=>unfold maxLen;omega
 case d4=>omega
 case d5=>first | omega | (simp;omega)
 intro b2 c7 e4 l8 l6 k9;have g5:Q0 (fun b=>(Value.slice B c A).ownBlock=some b) V e4:=Q0.trans ((Q0.refl _ V).alloc _) l6;have c0:Q0 (fun b=>(Value.slice z c y).ownBlock=some b\/(Value.slice B c A).ownBlock=some b) q e4:=(j3.out.mono fun b _ e=>.inl e).trans (g5.mono fun b _ e=>.inr e);have m4:(Value.slice b2 (c+1) c7).ownBlock=(Value.slice B c A).ownBlock\/∃ k,q.heap.size<=k/\(Value.slice b2 (c+1) c7).ownBlock=some k:=k9.imp id fun e=>⟨_,by first | omega | (simp;omega),e⟩;have o4:=Qf e1.out g5 (fun g hg e=>Jp e1.out e2.out zd g hg e);obtain⟨l4,s4,m2⟩:=M.out.push (i:=i) i7.out g8.out (by rw [U.out];exact o4) (by rw [U.out];exact l8) c0 i2.out m4
 have f4:∀ b,b<C+1->¬ ((Value.slice z c y).ownBlock=some b\/(Value.slice B c A).ownBlock=some b):=fun b hb e=>by
  rcases e with e | e
  ·have:=(L.out.lt _ e).1;omega
  ·have:=(a7.out.lt _ e).1;omega
 have l1:Ext a5 e4:=e7.after c0 (fun b hb e=>f4 b (by have:=e0.out;omega) e);have n0:=c0.heap q9.out (f4 C oz);have t3:=cell_of_row _ _ 16 _ _ _ n0;obtain⟨t2,c5,n8,g2,f1⟩:=s4;rw [N.out] at n8 g2 f1;cases n8;obtain⟨i8,j7,i0⟩:=Zh3 l4 g2 m2;have j4:Hid ((G++[(i,o)]).length=c+1):=Zh (by rw [List.length_append,U.out];rfl);clear l4 g2 m2 n0 l8 l6 k9 g5 c0 m4 o4 f4 e1 e2 j3 i2 M g8 i7 L a7 e7 l2;by_cases Q:E=0
 ·have K:=i6.out;rw [if_pos Q] at K;have d7:=Zh K;have s1:((E:Int) == 0)=true:=by simp;omega
  have c9:=Zh Q;clear K Q;go_wp2;exact⟨⟨i+b0+1,G++[(i,o)],o,H,a3,a2,c+1,b1,b2,c6,c7,_,tz,(Prod.ext rfl (lE rfl (lE rfl (lE rfl (lE rfl (lE rfl (lE (by first | rfl | (simp;done) | (push_cast;rfl)) rfl))))))),d7.out,i5.out,N.out,by omega,j4.out,j7.out,f1,i0.out,i8.out,l1⟩,by have:=c9.out;simp [intOf,Q78];omega⟩
 ·have K:=i6.out;rw [if_neg Q,Nat.add_zero] at K;have d7:=Zh K;have s1:((E:Int) == 0)=false:=by simp;omega
  have c9:=Zh Q;clear K Q;go_wp2;exact⟨⟨i+b0,G++[(i,o)],o,H,a3,a2,c+1,b1,b2,c6,c7,_,tz,(Prod.ext rfl (lE rfl (lE rfl (lE rfl (lE rfl (lE rfl (lE (by first | rfl | (simp;done) | (push_cast;rfl)) rfl))))))),d7.out,i5.out,N.out,by omega,j4.out,j7.out,f1,i0.out,i8.out,l1⟩,by have:=c9.out;simp [intOf,Q78];omega⟩
def Off(dv:Value)(vals:List Value):Prop:=∀ x∈vals,Qw (fun g=>dv.ownBlock≠some g) x
theorem Off.same{dv dv':Value}{vals:List Value}{W:World}(h:Off dv vals)(hk:∀ x∈vals,Qw (fun g=>g<W.heap.size) x) (hb:dv'.ownBlock=dv.ownBlock\/∃ k,W.heap.size<=k/\dv'.ownBlock=some k):Off dv' vals:=fun x hx g o n c e h0=>by
 rcases hb with hb | ⟨k,h1,h2⟩
 ·rw [hb];exact h x hx g o n c e h0
 ·rw [h2];intro q;cases q;have:=hk x hx g o n c e h0;omega
theorem TrP.low{b:Nat}{W:World}{u v:Value}{vals:List Value}{tr:List (Nat × Wd)} (h:TrP b W u v vals tr):∀ x∈vals,Qw (fun g=>g<W.heap.size) x:=fun x hx=>(h.wk x hx).mono fun _ hg=>hg.1
theorem TrP.turn{b:Nat}{A B:World}{u v dv:Value}{vals:List Value}{tr:List (Nat × Wd)} {b3 n3:Nat} {x3:List Value} (h:TrP b A u v vals tr) (hd:A.ownsRow b3 95 2 dv n3 x3) (ht:Q0 (fun g=>dv.ownBlock=some g) A B) (ho:Off dv vals):TrP b B u v vals tr:=
 ⟨Qf h.ou ht (fun g hg e=>Jp h.ou hd zd g hg e),Qf h.ov ht (fun g hg e=>Jp h.ov hd zd g hg e),h.wd.keepS (S:=fun g=>dv.ownBlock≠some g) (ht.mono fun _ _ e hn=>hn e) ho,fun x hx=>(h.wk x hx).mono fun g hg=>⟨Nat.lt_of_lt_of_le hg.1 ht.size,hg.2⟩⟩
theorem Q3r{ws:Wd}{i:Nat}(h:i<ws.length):(ws.drop i).take 1=[ws.getD i (0,0)]:=by
 rw [List.drop_eq_getElem_cons h,List.getD_eq_getElem?_getD,List.getElem?_eq_getElem h];rfl
theorem Q0q{ws:Wd}{i:Nat}(h:ws.length<=i):(ws.drop i).take 1=[]:=by rw [List.drop_of_length_le h];rfl
theorem Qdb{w:World}{l:Q5}{cs:List Value}{vo:Option Addr}{vc:Nat}{ws:Wd}(i6:Zf w l cs)(j0:Q6 w (.slice vo ws.length vc) ws) (z5:ws.length<=vc) (A7:Yg l=true) (B4:l.mode=1) (H7:ws.length<=32) :
  Calls Tryz.prog 271 #[.agg cs.toArray,.slice vo ws.length vc] w fun e w'=>∃ u v,e=.returned (.tuple #[u,v,.int .i64 (Lg (Qt l ws))])/\Xy w.heap.size w' u v (No (Qt l ws))/\Ext w w':=by
 obtain⟨G9,B2,A6,_,A3,_,_,_⟩:=Uv A7;have q0:=fun(e8:World) (a0:Ext w e8) (i:Nat) (hi:i<=ws.length)=>St (i6.ext a0) (j0.ext a0) rfl i oz oz;have l3:=fun(e8:World) (a0:Ext w e8) (v:Value) (cut:Wd) (hc:Q6 e8 v cut) (Q:cut.length=l.ifs.length)=>Q0c (i6.ext a0) hc (by rw [Q];exact A3) oz
 have B9:∀(cut:Wd),Yf cut->Yf (Yz l cut):=fun cut hc=>by
  obtain⟨_,_,_,_,_,_,_,_,_,H1⟩:=i6;exact Wr hc H1.2
 have C6:Hv l ws [] [] 0:=Hv.start B4;have q7:=Yw l;obtain⟨s5,r8,t0,s0,s3,n0,n2,s6,m7,U,r9,t1,s1,s4,n1,n3,s7,m8,c2,r7,f,r6,s9,o,s8,s2,rfl,E1,F1,F3,D9,e2,J1,I9,J0,g0,u3,I8,K8,K9,L0,L1,L2⟩:=Zr i6;obtain⟨J4,p0⟩:=zE (Qt l ws);rw [p0];rw [g0.out] at G9 A6 l3;rw [u3.out] at B2 A6 q7 l3;obtain⟨F,r3⟩:=zE ws.length;have e7:=Zh j0;have j4:=Zh z5;rw [r3] at j0 z5 H7 q0 ⊢;obtain⟨D8,F4,E9,v1,v0,J3,B,F2⟩:=Zh8 q0 l3 B9 p0 C6 j0 r3 q7;clear i6 j0 q0 l3 B9 p0 C6 A3 A7 B4 D9 e2 F1 F3 E1 r3 q7;go_enter Tryz.func271,Tryz.ntmps271;go_upto_region 1 with (fail)
 obtain⟨a6,j1⟩:=zE (w.alloc (.cells #[.string s5,.int .i64 r8,.int .u32 (t0:Int),.int .u32 (s0:Int),.bool s3,.int .i64 n0,.int .i64 n2,.slice s6 m7 U,.int .i64 r9,.int .u32 (t1:Int),.int .u32 (s1:Int),.bool s4,.int .i64 n1,.int .i64 n3,.slice s7 m8 c2,.slice r7 f r6,.slice s9 o s8,.int .i64 s2] 102));have g8:Ext w a6:=by rw [<-j1];exact(Q0.refl _ w).alloc _
 have q1:a6.heap[w.heap.size]?=some (.cells #[.string s5,.int .i64 r8,.int .u32 (t0:Int),.int .u32 (s0:Int),.bool s3,.int .i64 n0,.int .i64 n2,.slice s6 m7 U,.int .i64 r9,.int .u32 (t1:Int),.int .u32 (s1:Int),.bool s4,.int .i64 n1,.int .i64 n3,.slice s7 m8 c2,.slice r7 f r6,.slice s9 o s8,.int .i64 s2] 102 (0,0)):=by rw [<-j1];exact Q3 rfl
 have q9:a6.heap.size=w.heap.size+1:=by rw [<-j1];simp
 rw [j1];obtain⟨r,o0⟩:=zE w.heap.size;rw [o0] at q1 q9 ⊢;obtain⟨E0,D6,e6⟩:=Zh3 q1 o0 q9;clear j1 o0 q1 q9;go_wp2
 refine wp_loop (fun a C=>∃(i:Nat) (N:List (Nat × Wd)) (d:Wd) (g p:Nat) (a2 W Z:Option Addr) (a1 V Y:Nat) (d6:List Value),a.defers=[]/\(a.tmps.size=88/\a.tmps.getD 1 undef=.slice vo F vc/\a.tmps.getD 2 undef=.pointer (some ⟨r,0,none⟩)/\a.tmps.getD 7 undef=.slice a2 p a1/\a.tmps.getD 8 undef=.slice W p V/\a.tmps.getD 9 undef=.slice Z g Y/\a.tmps.getD 10 undef=.int .i64 i)/\Hv l ws N d i/\X8 N=false/\d.length=g/\N.length=p/\C.ownsRow (r+1) 95 2 (.slice Z g Y) g (Za d)/\Yf d/\Off (.slice Z g Y) d6/\TrP (r+1) C (.slice a2 p a1) (.slice W p V) d6 N/\Ext a6 C)
  (fun a _=>F+1 - (intOf (a.tmps.getD 10 undef)).toNat) ?_ ?_
 ·exact⟨0,[],[],0,0,none,none,none,0,0,0,[],rfl,⟨rfl,rfl,rfl,rfl,rfl,rfl,rfl⟩,v0.out,rfl,rfl,rfl,World.ownsRow_nil _ _ _ _,(by simp [Yf]),(fun x hx=>by cases hx),TrP.nil _ _,Q0.refl _ _⟩
 clear v0;rintro⟨t,_⟩ e8 ⟨i,N,d,g,p,a2,W,Z,a1,V,Y,d6,G8,⟨C7,n4,n6,n7,n8,n9,n5⟩,i3,A9,p6,r1,z7,A2,B8,x8,a0⟩;subst G8;obtain⟨I3,b1⟩:=Qv C7;obtain⟨u,rfl⟩:∃ x,x=I3:=⟨_,rfl⟩;have H6:t=#[u 0,u 1,u 2,u 3,u 4,u 5,u 6,u 7,u 8,u 9,u 10,u 11,u 12,u 13,u 14,u 15,u 16,u 17,u 18,u 19,u 20,u 21,u 22,u 23,u 24,u 25,u 26,u 27,u 28,u 29,u 30,u 31,u 32,u 33,u 34,u 35,u 36,u 37,u 38,u 39,u 40,u 41,u 42,u 43,u 44,u 45,u 46,u 47,u 48,u 49,u 50,u 51,u 52,u 53,u 54,u 55,u 56,u 57,u 58,u 59,u 60,u 61,u 62,u 63,u 64,u 65,u 66,u 67,u 68,u 69,u 70,u 71,u 72,u 73,u 74,u 75,u 76,u 77,u 78,u 79,u 80,u 81,u 82,u 83,u 84,u 85,u 86,u 87]:=b1;clear b1;subst H6;change u 1=_ at n4;change u 2=_ at n6;change u 7=_ at n7;change u 8=_ at n8;change u 9=_ at n9;change u 10=_ at n5;rw [n4,n6,n7,n8,n9,n5];clear n4 n6 n7 n8 n9 n5 C7;have m0:=Zh (a0.keep E0.out);have k8:=g8.trans a0;have G6:p<=33:=by obtain⟨_,_,a9,_⟩:=i3;have:=B.out;omega
 have K2:i<=F+1:=by obtain⟨_,_,_,J8⟩:=i3;have:=B.out;omega
 have p7:i<=F->g<=232:=fun hi=>by
  obtain⟨_,a9,w1,_⟩:=i3;have a9:=a9 (by rw [B.out];exact hi);rw [p6,g0.out,u3.out] at a9;have:=few (t:=N.length) (n:=33) (m:=o) (by rw [r1];exact G6) B2 oz;omega
 obtain⟨u1,f7,f9,j6,b7,t9,j7,e1⟩:=Zh8 p7 i3 A9 p6 r1 z7 A2 B8;have m3:=Zh x8;clear p7 i3 A9 p6 r1 z7 A2 B8 x8;by_cases l1:i<=F;case neg=>
  have G2:¬ ((i:Int)<=(F:Int)):=by omega
  have A1:=f7.out.done (by rw [B.out];omega);rw [v1.out] at A1;subst A1;obtain⟨g3,g4⟩:=Cj f9.out;have o7:=m3.out.out;rw [<-g4] at o7;have l5:=Zh g3;have E7:=Zh o7;clear g3 g4 o7 l1;go_wp2;exact bodyPost_ret (Ji rfl _ _ _) rfl ⟨_,_,by rw [l5.out];rfl,E7.out.base (by have:=D6.out;omega),k8⟩
 have G2:(i:Int)<=(F:Int):=by omega
 have p7:=u1.out l1;have p9:=D8.out e8 k8 i l1;obtain⟨t2,i9⟩:=zE (Zt l ws i);rw [i9] at p9;have u2:=Zh p9;have u6:=Zh i9;clear p9 i9 u1
 go_wp2_with (refine wpList_load_row rfl 102 (.tmp 2) rfl r rfl _ _ _ _ m0.out Tryz.underlying102 rfl Tryz.lawInfo ?_)
 refine u2.out.mono ?_;rintro e C ⟨rfl,f0⟩;have i0:=k8.trans f0;have g9:=a0.trans f0;obtain⟨k0,a7,e4⟩:=Zh3 (f0.keep m0.out) (Q7 t9.out f0) (m3.out.ext f0);have K5:r+1<=C.heap.size:=by have:=g9.size;have:=e6.out;omega
 clear f0 m0 t9 m3 u2 k8 a0
 have z6:∀(D:World),Ext w D->i<F->∃ j c8 a4 a5,vo=some ⟨j,c8,none⟩/\(ws.getD i (0,0))=(a4,a5)/\D.cell? ⟨j,c8+i*2,none⟩=some (.int .u32 (a4:Int))/\D.cell? ⟨j,c8+i*2+1,none⟩=some (.int .u32 (a5:Int))/\Z1 (a4,a5):=fun D hD hi=>by
  obtain⟨j,c8,J5,H3,q,e9,U⟩:=(e7.out.ext hD).at (i:=i) (by rw [B.out];exact hi);cases H3;exact⟨j,c8,_,_,rfl,rfl,e9,U,e7.out.2.get i (by rw [B.out];exact hi)⟩
 have t8:=Zh z6;clear z6;cases t2
 ·have B1:=f7.out.miss (by rw [B.out];exact l1) u6.out;have k1:=Zh B1;clear B1 f7;by_cases i5:i<F
  ·have a9:(i:Int)<(F:Int):=by omega
   obtain⟨j,c8,a4,a5,rfl,f2,e9,U,q2⟩:=t8.out C i0 i5;have c7:=k1.out;rw [Q3r (by rw [B.out];exact i5),f2] at c7;have m2:=Zh c7;have I6:=Zh f2;clear c7 f2 k1
   go_wp2_with (at_builtin;refine Qk rfl (.tmp 26) (.tmp 31) 99 rfl (r+1) 95 _ 2 8 Tryz.underlying99 @Xt rfl zd _ _ _ rfl (Q7 a7.out ((Q0.refl _ C).alloc _)) ⟨C.heap.size,0,none⟩ 1 1 [.int .u32 (a4:Int),.int .u32 (a5:Int)] rfl rfl (Qq rfl) (V6 _ _) ?b3 ?b4 ?b5 ?_)
   case b3=>unfold maxLen;omega
   case b4=>omega
   case b5=>first | omega | (simp;omega)
   intro L J E g7 c6 g5;have c9:Q0 (fun b=>(Value.slice Z g Y).ownBlock=some b) C E:=Q0.trans ((Q0.refl _ C).alloc _) c6;have g6:(Value.slice L (g+1) J).ownBlock=(Value.slice Z g Y).ownBlock\/∃ k,C.heap.size<=k/\(Value.slice L (g+1) J).ownBlock=some k:=g5.imp id fun e=>⟨_,by first | omega | simp | (simp;omega),e⟩;have i2:=e4.out.turn a7.out c9 e1.out;have i1:=e1.out.same e4.out.low g6;have G5:Ext a6 E:=g9.after c9 (fun b hb e=>by have:=(a7.out.lt _ e).1;have:=e6.out;omega);have i4:E.ownsRow (r+1) 95 2 (.slice L (g+1) J) (g+1) (Za (d++[(a4,a5)])):=by rw [Zn];exact g7
   obtain⟨b6,b2,a8⟩:=Zh3 i2 i1 i4;clear i2 i1 i4 g7 c9 c6 g5 g6 e9 U;go_wp2;exact⟨⟨i+1,N,_,g+1,p,a2,W,L,a1,V,J,d6,tz,⟨rfl,rfl,rfl,rfl,rfl,rfl,rfl⟩,m2.out,f9.out,(by rw [List.length_append,j6.out];rfl),b7.out,a8.out,(fun a3 s=>by rcases List.mem_append.1 s with s | s;exact j7.out a3 s;simp only [List.mem_singleton] at s;subst s;exact q2),b2.out,b6.out,G5⟩,nz⟩
  ·have a9:¬ ((i:Int)<(F:Int)):=by omega
   have c7:=k1.out;rw [Q0q (by rw [B.out];omega),List.append_nil] at c7;have m2:=Zh c7;clear c7 k1;go_wp2;exact⟨⟨i+1,N,d,g,p,a2,W,Z,a1,V,Y,d6,tz,⟨rfl,rfl,rfl,rfl,rfl,rfl,rfl⟩,m2.out,f9.out,j6.out,b7.out,a7.out,j7.out,e1.out,e4.out,g9⟩,nz⟩
 obtain⟨i7,i8,⟨L3,l4⟩,G7,f3⟩:=f7.out.hit u6.out;rw [g0.out] at i7 i8 f3;rw [B.out] at f3
 -- the slices
 have j2:Q6 C _ _:=Q6.cut (e7.out.ext i0) (a:=i) (b:=i+f) oz (by rw [B.out];exact f3) j4.out;have T:Q6 C _ _:=Q6.cut (e7.out.ext i0) (a:=i+f) (b:=ws.length) (by rw [B.out];exact f3) oz j4.out;rw [show i+f - i=f by omega] at j2;rw [Wp rfl,B.out] at T;have t3:=fun D=>P2 (A:=vo) (n:=F) (c:=vc) Jn Uf i (i+f) oz oz D;have t4:=fun D=>Mp (A:=vo) (n:=F) (c:=vc) Jn Uf (i+f) oz D;simp only [Int.natCast_add] at t3 t4;obtain⟨L5,L6,J6,C9⟩:∃ y z e,sliced vo i (i+f) vc 2=.slice y z e:=⟨_,_,_,rfl⟩;obtain⟨D1,H,v9,r5⟩:∃ y z e,sliced vo (i+f) F vc 2=.slice y z e:=⟨_,_,_,rfl⟩;rw [C9] at j2 t3;rw [r5] at T t4;clear C9;have B3:((ws.drop i).take f).length=f:=by rw [List.length_take,List.length_drop,B.out];omega
 have q6:=fun(D:World) (hD:Ext C D)=>F4.out D (i0.trans hD) _ _ (j2.ext hD) B3;have q8:=E9.out _ j2.2;have l2:=F2.out ((ws.drop i).take f);have p3:Mk l ws d i=d++Yz l ((ws.drop i).take f):=by unfold Mk;rw [g0.out]
 have f1:Hk l ws d i=Mk l ws d i++ws.drop (i+f):=by unfold Hk;rw [g0.out]
 obtain⟨P,x3⟩:=zE (Yz l ((ws.drop i).take f));rw [x3] at q6 q8 l2 p3;rw [p3] at f1 i7 i8;obtain⟨G0,K1⟩:=zE (F - (i+f));obtain⟨rfl,C3⟩:=Mn T (show (ws.drop (i+f)).length=G0 by rw [List.length_drop,B.out];omega);have J2:=Zh C3;have F7:Hid (Yf (ws.drop (i+f))):=Zh T.2;obtain⟨M,B7⟩:=zE (Hk l ws d i);rw [B7] at i7 i8 l4 f1;rw [v1.out] at l4;have m1:Hid (M.length=g+o+H):=Zh (by rw [f1,List.length_append,List.length_append,j6.out,l2,List.length_drop,B.out];omega);have E4:Hid (Za M=Za d++Za P++Za (ws.drop (i+f))):=Zh (by rw [f1,Zn,Zn]);have j5:Hid ((d++P).length=g+o):=Zh (by rw [List.length_append,j6.out,l2]);have f8:Hid (Yf (d++P)):=Zh (fun a3 s=>by rcases List.mem_append.1 s with s | s;exact j7.out a3 s;exact q8 a3 s);have E3:Hid (Yf M):=Zh (by rw [f1];intro a3 s;rcases List.mem_append.1 s with s | s;exact f8.out a3 s;exact F7.out a3 s);obtain⟨E5,E6,u9,v6⟩:=Zh4 i7 i8 l4 r5;have C2:=q6 C.drew (Q0.drew (Q0.refl _ C));have u5:=Zh C2;clear C2 q6 r5 j2 T q8 l2 p3 f1 x3 C3 B7 i7 i8 l4 G7 B3 j7 f7;have F9:=cell_of_row _ _ 15 _ _ _ k0.out;go_upto_region 11 with (fail)
 clear F9;have r0:IntKind.i64.wrap ((i:Int)+(f:Int))=(i:Int)+(f:Int):=IntWalk.i64_in _ oz;refine Z0 (S:=fun D=>D.heap[r]?=some (.cells #[.string s5,.int .i64 r8,.int .u32 (t0:Int),.int .u32 (s0:Int),.bool s3,.int .i64 n0,.int .i64 n2,.slice s6 m7 U,.int .i64 r9,.int .u32 (t1:Int),.int .u32 (s1:Int),.bool s4,.int .i64 n1,.int .i64 n3,.slice s7 m8 c2,.slice r7 f r6,.slice s9 o s8,.int .i64 s2] 102 (0,0))) [] kz (Y4 k0.out) ?_;intro G;refine tE 0 38 G ?_;refine tkE (i:=1) (d:=39) (v:=?_) rfl (Or.inl ⟨by rfl,?_⟩) G ?_;rotate_left
 ·intro w y2;(try dsimp only at y2);have H4:=y2;refine Uq (x:=.tmp 2) ?_ r ?_ _ _ _ H4 Tryz.underlying102 Tryz.lawInfo <;> rfl
 try simp only [Act.put,pq]
 refine tE 2 40 G ?_;refine tE 3 41 G ?_;refine tE 4 42 G ?_;refine tE 5 43 G ?_;refine tE 6 44 G ?_;refine tE 7 45 G ?_;refine rE [8] ?_;refine Q1.cons rfl (fun K hK=>?_) Q1.nil;refine iw rfl ?_;go_simp;refine(u5.out).mono ?_;rintro e v7 ⟨L4,rfl,o8,x4⟩;have g1:Ext C v7:=(Q0.drew (Q0.refl (fun _=>False) C)).trans x4;have o5:=g1.keep k0.out;obtain⟨I5,I4,rfl⟩:=Zd o8;have y1:Rd v7 (.slice I5 o I4) o 2 (Za P):=Rd.of_own o8;have p5:=Q7 a7.out g1;have D4:=g1.size;refine hK.out _ _ o5 (fun hS5=>?_);clear hK K;try simp only [Act.put,pq]
 refine rE [9] ?_;refine Q1.cons rfl (fun K hK=>?_) Q1.nil;refine iw rfl ?_;refine Fk (.tmp 38) (.tmp 46) 99 rfl (r+1) 95 _ 2 8 Tryz.underlying99 @Xt rfl zd _ _ _ rfl p5 _ _ _ _ rfl y1 (Uz _) (by unfold maxLen;omega) oz oz ?_;intro L J E g7 c6 g5;have o6:=c6.heap o5 (fun e=>by have:=(p5.lt _ e).1;omega);have L7:=c6.size;refine hK.out _ _ o6 (fun hS6=>?_);clear hK K;try simp only [Act.put,List.setIfInBounds_toArray]
 refine tE 10 9 hS6 ?_;try simp only [Act.put]
 refine Ql kz ?_ _;have c9:Q0 (fun b=>(Value.slice Z g Y).ownBlock=some b) C E:=(Ext.of g1).trans c6;have g6:(Value.slice L (g+o) J).ownBlock=(Value.slice Z g Y).ownBlock\/∃ k,C.heap.size<=k/\(Value.slice L (g+o) J).ownBlock=some k:=g5.imp id fun e=>⟨_,D4,e⟩;have y0:=e4.out.turn a7.out c9 e1.out;have x6:=e1.out.same e4.out.low g6;have o2:Ext a6 E:=g9.after c9 (fun b hb e=>by have:=(a7.out.lt _ e).1;have:=e6.out;omega);have x2:Ext w E:=g8.trans o2;have z9:E.ownsRow (r+1) 95 2 (.slice L (g+o) J) (g+o) (Za (d++P)):=by rw [Zn];exact g7
 have C4:Rd E (.slice D1 H v9) H 2 (Za (ws.drop (i+f))):=by
  have r4:=e7.out.ext x2;have T:Q6 E _ _:=Q6.cut r4 (a:=i+f) (b:=ws.length) (by rw [B.out];exact f3) oz j4.out;rw [Wp rfl,B.out,v6.out] at T;exact(Mn T (show (ws.drop (i+f)).length=H by rw [List.length_drop,B.out];omega)).2
 obtain⟨e5,u4,l6,F5,I7⟩:=Zh5 y0 x6 z9 C4 o6;have H8:r+1<=E.heap.size:=by omega
 clear y0 x6 z9 C4 g7 c6 g5 g6 c9 o5 o6 p5 y1 o8 hS5 hS6 G a7 e4 e1 k0 u5 r0 g1 x4 D4 t3 i0 g9;have q5:=e5.out.ou;rw [b7.out] at q5;have e2:=Zh q5;clear q5
 go_wp2_with (at_builtin;refine Qk rfl (.tmp 48) (.tmp 50) 48 rfl (r+1) 3 _ 1 8 Tryz.underlying48 Tryz.infoI rfl zd _ _ _ rfl (Q7 e2.out ((Q0.refl _ E).alloc _)) ⟨E.heap.size,0,none⟩ 1 1 [.int .i64 i] rfl rfl (Qq rfl) ?c2 ?c3 ?c4 ?c5 ?_)
 case c2=>first | rfl | (intro u b1;simp at b1;rcases b1 with rfl;rfl)
 case c3=>unfold maxLen;omega
 case c4=>omega
 case c5=>first | omega | (simp;omega)
 intro b9 d7 I y9 y3 w5;have d0:Q0 (fun b=>(Value.slice a2 p a1).ownBlock=some b) E I:=Q0.trans ((Q0.refl _ E).alloc _) y3;have z3:(Value.slice b9 (p+1) d7).ownBlock=(Value.slice a2 p a1).ownBlock\/∃ k,E.heap.size<=k/\(Value.slice b9 (p+1) d7).ownBlock=some k:=w5.imp id fun e=>⟨_,by first | omega | simp | (simp;omega),e⟩;have p4:=Qf l6.out d0 (fun j q e=>Jp e2.out l6.out zd j e q);have C8:=Qf e5.out.ov d0 (fun j q e=>Jp e5.out.ou e5.out.ov zd j e q);have o3:Ext a6 I:=o2.after d0 (fun b hb e=>by have:=(e2.out.lt _ e).1;have:=e6.out;omega);have C5:Rd I (.slice D1 H v9) H 2 (Za (ws.drop (i+f))):=by
  have r4:=e7.out.ext (g8.trans o3);have T:Q6 I _ _:=Q6.cut r4 (a:=i+f) (b:=ws.length) (by rw [B.out];exact f3) oz j4.out;rw [Wp rfl,B.out,v6.out] at T;exact(Mn T (show (ws.drop (i+f)).length=H by rw [List.length_drop,B.out];omega)).2
 have H9:r+1<=I.heap.size:=Nat.le_trans H8 d0.size;obtain⟨v3,l7,v4,m4,v2,t7⟩:=Zh6 y9 p4 C8 C5 d0 z3;have K3:=d0.size;have A0:∀ j,(Value.slice L (g+o) J).ownBlock=some j->j<I.heap.size:=fun j q=>(p4.lt j q).2;have u0:=Zh A0;clear A0 y9 y3 w5 d0 z3 p4 C8 C5 F5 l6 o2 x2;go_upto_region 13 with (fail)
 have r0:IntKind.i64.wrap ((i:Int)+(f:Int))=(i:Int)+(f:Int):=IntWalk.i64_in _ oz;obtain⟨b8,p2⟩:=zE I.drew;have j8:Hid (Ext I b8):=Zh (by rw [<-p2];exact Q0.drew (Q0.refl _ I));refine Z0 (S:=fun _=>True) [] kz trivial ?_;intro G;rw [p2];clear p2;refine tE 1 53 G ?_;refine tE 3 55 G ?_;refine tE 4 56 G ?_;refine tE 5 57 G ?_;refine tE 6 58 G ?_;refine tE 7 59 G ?_;refine rE [0] ?_;refine Q1.cons rfl (fun K hK=>?_) Q1.nil;refine iw rfl ?_;go_simp;obtain⟨v8,l0⟩:=zE (b8.alloc (.cells #[] 95));have g2:Ext I v8:=by rw [<-l0];exact j8.out.trans ((Q0.refl _ b8).alloc _)
 have o9:v8.ownsRow (r+1) 95 2 (.slice (some ⟨b8.heap.size,0,none⟩) 0 0) 0 []:=by rw [<-l0];exact World.ownsRow_made (base:=r+1) (e:=95) (size:=2) b8 #[] 0 (by have:=j8.out.size;omega) zd rfl
 rw [l0];have u8:=Zh (Rd.of_own (Q7 l7.out g2));have F6:=Zh (m4.out.ext g2);have A5:I.heap.size<=b8.heap.size:=j8.out.size;obtain⟨w0,q⟩:=zE b8.heap.size;rw [q] at o9 A5 ⊢;have D2:=g2.size;clear l0 q;refine hK.out _ _ trivial (fun _=>?_);clear hK K;try simp only [Act.put,pq]
 refine rE [2] ?_;refine Q1.cons rfl (fun K hK=>?_) Q1.nil;refine iw rfl ?_;refine Fk (.tmp 52) (.tmp 53) 99 rfl (r+1) 95 _ 2 8 Tryz.underlying99 @Xt rfl zd _ 0 [] rfl o9 _ _ _ _ rfl u8.out (Uz _) (by unfold maxLen;omega) oz oz ?_;intro I2 I1 F8 k9 y7 o1;try rw [Nat.zero_add] at k9
 try rw [List.nil_append] at k9
 try rw [Nat.zero_add] at o1
 try rw [Nat.zero_add]
 have k4:Ext I F8:=g2.after y7 (fun b hb e=>by have G1:w0=b:=(by first | (simpa [Value.ownBlock] using e) | exact e | (cases e;rfl));omega);have D3:=k4.size;have u7:=Zh (m4.out.ext k4);have t6:=Zh o1;clear o1;refine hK.out _ _ trivial (fun _=>?_);clear hK K;try simp only [Act.put,List.setIfInBounds_toArray]
 refine rE [8] ?_;refine Q1.cons rfl (fun K hK=>?_) Q1.nil;refine iw rfl ?_;refine Fk (.tmp 54) (.tmp 59) 99 rfl (r+1) 95 _ 2 8 Tryz.underlying99 @Xt rfl zd _ _ _ rfl k9 _ _ _ _ rfl u7.out (Uz _) (by unfold maxLen;omega) oz oz ?_;intro f6 f5 X x7 y8 w9
 have p8:∀ j,(Value.slice I2 (g+o) I1).ownBlock=some j->I.heap.size<=j:=fun j q=>by
  rcases t6.out with e | e
  ·rw [e] at q;have G1:w0=j:=(by first | (simpa [Value.ownBlock] using q) | exact q | (cases q;rfl));omega
  ·rw [e] at q;cases q;exact D2
 have A4:∀ j,(Value.slice f6 (g+o+H) f5).ownBlock=some j->I.heap.size<=j:=fun j q=>by
  rcases w9 with e | e
  ·rw [e] at q;exact p8 j q
  ·rw [e] at q;cases q;exact D3
 have c1:Ext I X:=k4.after y8 (fun b hb e=>by have:=p8 b e;omega);have l9:=Zh A4;refine hK.out _ _ trivial (fun _=>?_);clear hK K p8 A4 w9;try simp only [Act.put]
 refine tE 9 12 trivial ?_;try simp only [Act.put]
 refine Ql kz ?_ _;have q3:X.ownsRow (r+1) 95 2 (.slice f6 (g+o+H) f5) (g+o+H) (Za M):=by rw [E4.out,<-Zn];exact x7
 have B5:=(Vb q3).1;have k2:=Zh q3;have z0:=Q7 v3.out c1;have z1:=Q7 v4.out c1;have x1:=Q7 l7.out c1;have o4:=o3.trans c1;have y6:Q0 (fun b=>(Value.slice a2 p a1).ownBlock=some b) E X:=v2.out.trans (Ext.of c1);have I0:r+1<=X.heap.size:=Nat.le_trans H9 c1.size;obtain⟨m6,v5,l8,m5⟩:=Zh4 z0 z1 x1 y6;clear q3 z0 z1 x1 y6 x7 y8 k9 y7 o9 g2 k4 c1 j8 u8 F6 u7 t6 m4 v3 v4 l7 v2 D2 D3 A5 r0 t4 o3;by_cases w3:32<g+o+H
 ·have w1:(32:Int)<((g:Int)+(o:Int)+(H:Int)):=by omega
  have w2:(32:Int)<((g+o+H:Nat):Int):=by omega
  obtain⟨g3,g4⟩:=Ta u9.out (show 32<M.length by rw [m1.out];exact w3);have l5:=Zh g3;have D5:=Zh g4;clear g3 g4;go_wp2;exact bodyPost_ret (Ji rfl _ _ _) rfl ⟨_,_,by rw [l5.out];rfl,by rw [D5.out];exact Xy.nil _ _,g8.trans o4⟩
 have w1:¬ ((32:Int)<((g:Int)+(o:Int)+(H:Int))):=by omega
 have w2:¬ ((32:Int)<((g+o+H:Nat):Int)):=by omega
 have A8:=Nh f9.out (x:=(i,M)) (by show M.length<=32;rw [m1.out];omega);have j9:=Zh A8;have C1:X.ownsRow (r+1) 99 1 (.slice W p V) p d6:=by have:=v5.out;rw [b7.out] at this;exact this
 have e3:=Zh C1;obtain⟨j3,B6⟩:=zE (g+o+H);rw [B6] at B5 k2 w3 w2 l9 ⊢;have E2:=Zh B6;clear A8 C1 f9 u9 v5
 go_wp2_with (at_builtin;refine Qk rfl (.tmp 64) (.tmp 66) 60 rfl (r+1) 99 _ 1 24 Tryz.underlying60 Tryz.infoW2 rfl zd _ _ _ rfl (Q7 e3.out ((Q0.refl _ X).alloc _)) ⟨X.heap.size,0,none⟩ 1 1 [.slice f6 j3 f5] rfl rfl (Qq rfl) ?d2 ?d3 ?d4 ?d5 ?_)
 case d2=>first | rfl | (intro u b1;simp at b1;rcases b1 with rfl;rfl)
 case d3=>unfold maxLen;omega
 case d4=>omega
 case d5=>first | omega | (simp;omega)
 intro c0 d8 O p1 y5 w8;have d1:Q0 (fun b=>(Value.slice W p V).ownBlock=some b) X O:=Q0.trans ((Q0.refl _ X).alloc _) y5;have D0:Q0 (fun b=>(Value.slice a2 p a1).ownBlock=some b\/(Value.slice W p V).ownBlock=some b) E O:=(m5.out.mono fun b _ e=>.inl e).trans (d1.mono fun b _ e=>.inr e);have q4:=Qf k2.out d1 (fun j q e=>Jp e3.out k2.out zd j e q);have C0:Zl O (.slice f6 j3 f5) M:=by
  have w4:=q4;have G3:=B5;rw [show j3=M.length by rw [m1.out,E2.out]] at w4 G3 ⊢;exact Zl.own w4 E3.out
 have r2:=Qf m6.out d1 (fun j q e=>Jp m6.out e3.out zd j q e);have z4:(Value.slice c0 (p+1) d8).ownBlock=(Value.slice W p V).ownBlock\/∃ k,E.heap.size<=k/\(Value.slice c0 (p+1) d8).ownBlock=some k:=w8.imp id fun e=>⟨_,by have:=m5.out.size;first | omega | (simp;omega),e⟩;have z2:Xi O (.slice b9 (p+1) d7) (.slice c0 (p+1) d8) (.slice f6 j3 f5):=Xi.own r2 p1 q4 zd zd;have i2:=e5.out.push2 (i:=i) C0 z2 (by rw [b7.out];exact r2) (by rw [b7.out];exact p1) D0 t7.out z4;have i4:=Qf l8.out d1 (fun j q e=>Jp e3.out l8.out zd j e q)
 have i1:Off (.slice L (g+o) J) (d6++[.slice f6 j3 f5]):=fun y f4=>by
  rcases List.mem_append.1 f4 with f4 | f4
  ·exact u4.out y f4
  ·simp only [List.mem_singleton] at f4;subst f4;intro j K7 K6 c e J7 i9;cases e;have J9:=l9.out j rfl;have K0:=u0.out j i9;omega
 have B0:∀ b,b<r+1->¬ ((Value.slice W p V).ownBlock=some b):=fun b hb e=>by have:=(e3.out.lt _ e).1;omega
 have k7:Ext a6 O:=o4.after d1 (fun b hb e=>B0 b (by have:=e6.out;omega) e);obtain⟨b6,a8,b2⟩:=Zh3 i2 i4 i1;have k3:Hid ((N++[(i,M)]).length=p+1):=Zh (by rw [List.length_append,b7.out];rfl);have K4:r+1<=O.heap.size:=Nat.le_trans I0 d1.size;clear q4 C0 r2 z4 z2 i2 i4 i1 B0 p1 y5 w8 d1 D0 m6 l8 e3 e2 m5 k2 e5 u4 t7 l9 u0 o4;by_cases b0:f=0;case neg=>
  have H0:((f:Int) == 0)=false:=by simp;omega
  have Q:=E6.out b0;have e0:=Zh Q;have d9:=Zh b0;clear Q b0;go_wp2;exact⟨⟨i+f,N++[(i,M)],d++P,g+o,p+1,b9,c0,L,d7,d8,J,_,tz,⟨rfl,rfl,rfl,rfl,rfl,rfl,by first | rfl | (simp;done)⟩,e0.out,j9.out,j5.out,k3.out,a8.out,f8.out,b2.out,b6.out,k7⟩,by have:=d9.out;simp [intOf];omega⟩
 have H0:((f:Int) == 0)=true:=by simp;omega
 have Q:=E5.out b0;by_cases i5:i<F
 ·have a9:(i:Int)+(f:Int)<(F:Int):=by omega
  obtain⟨j,c8,a4,a5,rfl,f2,e9,U,q2⟩:=t8.out O (g8.trans k7) i5;rw [Q3r (by rw [B.out];exact i5),f2,show i+1=i+f+1 by omega] at Q;have e0:=Zh Q;rw [show i*2=(i+f)*2 by omega] at e9 U;have d9:=Zh b0;have H5:((i:Int)+(f:Int)).toNat=i+f:=by omega
  have H2:(0:Int)<=(i:Int)+(f:Int):=by omega
  clear Q f2 b0
  go_wp2_with (at_builtin;refine Qk rfl (.tmp 77) (.tmp 82) 99 rfl (r+1) 95 _ 2 8 Tryz.underlying99 @Xt rfl zd _ _ _ rfl (Q7 a8.out ((Q0.refl _ O).alloc _)) ⟨O.heap.size,0,none⟩ 1 1 [.int .u32 (a4:Int),.int .u32 (a5:Int)] rfl rfl (Qq rfl) (V6 _ _) ?b3 ?b4 ?b5 ?_)
  case b3=>unfold maxLen;omega
  case b4=>omega
  case b5=>first | omega | (simp;omega)
  intro k6 k5 m9 x0 y4 w6;have t5:Q0 (fun b=>(Value.slice L (g+o) J).ownBlock=some b) O m9:=Q0.trans ((Q0.refl _ O).alloc _) y4;have w7:(Value.slice k6 (g+o+1) k5).ownBlock=(Value.slice L (g+o) J).ownBlock\/∃ k,O.heap.size<=k/\(Value.slice k6 (g+o+1) k5).ownBlock=some k:=w6.imp id fun e=>⟨_,by first | omega | simp | (simp;omega),e⟩;have x9:=b6.out.turn a8.out t5 b2.out;have x5:=b2.out.same b6.out.low w7;have G4:Ext a6 m9:=k7.after t5 (fun b hb e=>by have:=(a8.out.lt _ e).1;have:=e6.out;omega);have z8:m9.ownsRow (r+1) 95 2 (.slice k6 (g+o+1) k5) (g+o+1) (Za (d++P++[(a4,a5)])):=by rw [Zn];exact x0
  obtain⟨F0,E8,D7⟩:=Zh3 x9 x5 z8;clear x9 x5 z8 x0 t5 y4 w6 w7 e9 U H5 H2;go_wp2;exact⟨⟨i+f+1,N++[(i,M)],_,g+o+1,p+1,b9,c0,k6,d7,d8,k5,_,tz,⟨rfl,rfl,rfl,rfl,rfl,rfl,by first | rfl | (simp;done)⟩,e0.out,j9.out,(by rw [List.length_append,j5.out];rfl),k3.out,D7.out,(fun a3 s=>by rcases List.mem_append.1 s with s | s;exact f8.out a3 s;simp only [List.mem_singleton] at s;subst s;exact q2),E8.out,F0.out,G4⟩,by have:=d9.out;simp [intOf];omega⟩
 ·have a9:¬ ((i:Int)+(f:Int)<(F:Int)):=by omega
  rw [Q0q (by rw [B.out];omega),List.append_nil,show i+1=i+f+1 by omega] at Q;have e0:=Zh Q;have d9:=Zh b0;clear Q b0;go_wp2
  first
   | exact⟨⟨i+f+1,N++[(i,M)],d++P,g+o,p+1,b9,c0,L,d7,d8,J,_,tz,⟨rfl,rfl,rfl,rfl,rfl,rfl,by first | rfl | (simp;done)⟩,e0.out,j9.out,j5.out,k3.out,a8.out,f8.out,b2.out,b6.out,k7⟩,by have:=d9.out;simp [intOf];omega⟩
   | exact⟨⟨i+f+1,N++[(i,M)],d++P,g+o,p+1,b9,c0,L,d7,d8,J,⟨⟨rfl,rfl,rfl⟩,⟨rfl,rfl,rfl⟩,⟨rfl,rfl,rfl⟩,by simp⟩,e0.out,j9.out,j5.out,k3.out,a8.out,f8.out,_,b2.out,b6.out⟩,by have:=d9.out;simp [intOf];omega⟩
theorem Q8s{w:World}{l:Q5}{cs:List Value}{vo:Option Addr}{vc:Nat}{ws:Wd}(a0:Zf w l cs)(c0:Q6 w (.slice vo ws.length vc) ws) (Z:ws.length<=vc) (n2:Yg l=true) (s3:l.mode=3) (c1:ws.length<=32) :
  Calls Tryz.prog 273 #[.agg cs.toArray,.slice vo ws.length vc] w fun e w'=>∃ u v,e=.returned (.tuple #[u,v,.int .i64 (Lg (Qt l ws))])/\Xy w.heap.size w' u v (No (Qt l ws))/\Ext w w':=by
 obtain⟨s0,s2,n0,_,m7,_,_,_⟩:=Uv n2;have m8:=fun(I:World) (J:Ext w I) (d:Wd) (p:Option Addr) (f j:Nat) (t:d.length=f) (r:Q6 I (.slice p f j) d) (Y:f<=32) (i:Nat) (hi:i<=f)=>St (a0.ext J) r t i oz oz;have o0:=fun(I:World) (J:Ext w I) (d:Wd) (p:Option Addr) (f j:Nat) (t:d.length=f) (r:Q6 I (.slice p f j) d) (Z:f<=j) (Y:f<=32) (i:Nat) (hi:Zt l d i=true)=>Pv (a0.ext J) r t Z i (by rw [<-t];exact V8 hi) m7 oz oz;have f3:=Q62 c0
 have n6:∀(d:Wd) (i:Nat),Yf d->Yf (Y1 l d i):=fun d i r=>by
  obtain⟨_,_,_,_,_,_,_,_,_,s4⟩:=a0;unfold Y1 Ku;intro a4 s;rw [List.mem_append,List.mem_append] at s;rcases s with (s | s) | s
  ·exact r a4 (List.mem_of_mem_take s)
  ·exact Wr (fun a4 s=>r a4 (List.mem_of_mem_drop (List.mem_of_mem_take s))) s4.2 a4 s
  ·exact r a4 (List.mem_of_mem_drop s)
 obtain⟨p6,o9,q1,p1,p4,k3,k5,p7,k0,k7,p0,q2,p2,p5,k4,k6,p8,k1,c2,o8,G,o7,q0,k2,p9,p3,rfl,q7,r2,r3,q5,L,t3,t1,t2,a8,i6,t0,u5,u6,u7,u8,u9⟩:=Zr a0;obtain⟨t4,e9⟩:=zE (Qt l ws);rw [e9];have b9:Ja l ws [] ws (ws.length+1 - l.ifs.length):=Ja.start oz oz;rw [a8.out] at s0 n0 b9;rw [i6.out] at s2 n0;obtain⟨s9,g3⟩:=zE ws.length;rw [g3] at c0 Z f3 c1 b9 ⊢;have s6:=c1;obtain⟨q4,r4,i4,r1,j3,j2,j6,j9⟩:=Zh8 m8 o0 f3 n6 e9 b9 c0 g3;clear a0 c0 m8 o0 f3 n6 e9 b9 m7 n2 s3 q5 L r2 r3 q7 g3;go_enter Tryz.func273,Tryz.ntmps273;go_upto_region 1 with (fail)
 obtain⟨a5,a1⟩:=zE (w.alloc (.cells #[.string p6,.int .i64 o9,.int .u32 (q1:Int),.int .u32 (p1:Int),.bool p4,.int .i64 k3,.int .i64 k5,.slice p7 k0 k7,.int .i64 p0,.int .u32 (q2:Int),.int .u32 (p2:Int),.bool p5,.int .i64 k4,.int .i64 k6,.slice p8 k1 c2,.slice o8 G o7,.slice q0 k2 p9,.int .i64 p3] 102));have l1:Ext w a5:=by rw [<-a1];exact(Q0.refl _ w).alloc _
 have b5:a5.heap[w.heap.size]?=some (.cells #[.string p6,.int .i64 o9,.int .u32 (q1:Int),.int .u32 (p1:Int),.bool p4,.int .i64 k3,.int .i64 k5,.slice p7 k0 k7,.int .i64 p0,.int .u32 (q2:Int),.int .u32 (p2:Int),.bool p5,.int .i64 k4,.int .i64 k6,.slice p8 k1 c2,.slice o8 G o7,.slice q0 k2 p9,.int .i64 p3] 102 (0,0)):=by rw [<-a1];exact Q3 rfl
 have g1:a5.heap.size=w.heap.size+1:=by rw [<-a1];simp
 rw [a1];obtain⟨C,e4⟩:=zE w.heap.size;rw [e4] at b5 g1 ⊢;obtain⟨q6,i1,d9⟩:=Zh3 b5 e4 g1;have m0:=j6.out.ext l1;have j7:=Zh m0;have r6:=cell_of_row _ _ 15 _ _ _ b5;clear a1 e4 b5 g1 m0 j6;go_wp2
 refine wp_loop (fun a O=>∃(K:Int) (F:List (Nat × Wd)) (d:Wd) (f:Nat) (p:Option Addr) (j:Nat) (c:Nat) (z B:Option Addr) (y A:Nat) (g6:List Value),a.defers=[]/\gS a [1,2,7,8,9,10]=(51,[.slice p f j,.pointer (some ⟨C,0,none⟩),.slice z c y,.slice B c A,.int .i64 G,.int .i64 K]) /\
   ((∃ Q,Ja l ws F d Q/\((Q:Int)=K+1\/(Q=0/\K<0)))/\-10<=K/\K<=40)/\X8 F=false/\d.length=f/\f<=32/\F.length=c/\Q6 O (.slice p f j) d/\f<=j/\Xi O (.slice z c y) (.slice B c A) (.slice p f j)/\TrP (C+1) O (.slice z c y) (.slice B c A) g6 F/\Ext a5 O)
  (fun a _=>(intOf (a.tmps.getD 10 undef)+1).toNat) ?_ ?_
 ·exact⟨_,[],ws,s9,vo,vc,0,none,none,0,0,[],rfl,rfl,⟨⟨_,j2.out,by omega⟩,by omega,by omega⟩,rfl,j9.out,c1,rfl,j7.out,Z,i4.out.mono fun g hg=>⟨by have:=d9.out;have:=i1.out;omega,(fun e=>by cases e),(fun e=>by cases e)⟩,TrP.nil _ _,Q0.refl _ _⟩
 clear j2 j7 i4 r6 Z c1;rintro⟨v1,_⟩ I ⟨K,F,d,f,p,j,c,z,B,y,A,g6,r8,o1,⟨⟨Q,P,m9⟩,s7,s8⟩,n4,o4,Y,o2,o6,r,m1,l4,J⟩;subst r8;obtain⟨u,rfl⟩:=Qj o1;clear o1;have d1:=Zh (J.keep q6.out);have e7:=l1.trans J;have u0:c<=33:=by obtain⟨_,t9,_,_⟩:=P;have:=j9.out;have:=s6;omega
 obtain⟨a7,U,T,e2,g7,d7⟩:=Zh6 n4 o4 o2 o6 m1 l4;clear n4 o4 o2 o6 m1 l4;by_cases f1:0<=K;case neg=>
  have r9:Q=0:=by omega
  subst r9;have m6:=P.done;rw [j3.out] at m6;subst m6;obtain⟨W,X⟩:=Cj a7.out;have E:=d7.out.out;rw [<-X] at E;have d0:=Zh W;have r0:=Zh E;clear W X E m9 P;go_wp2;exact bodyPost_ret (Ji rfl _ _ _) rfl ⟨_,_,by rw [d0.out];rfl,r0.out.base (by have:=i1.out;omega),e7⟩
 obtain⟨i,rfl⟩:=Int.eq_ofNat_of_zero_le f1;obtain rfl:Q=i+1:=by omega
 have u1:i<=40:=by omega
 have f1:=P.le;rw [U.out,a8.out] at f1;have a6:=Zh P;clear P m9 s7 s8;have f2:=q4.out I e7 d p f j U.out e2.out Y i oz;obtain⟨g4,f7⟩:=zE (Zt l d i);rw [f7] at f2;have i3:=Zh f2;have b0:=Zh f7;clear f2 f7
 go_wp2_with (refine wpList_load_row rfl 102 (.tmp 2) rfl C rfl _ _ _ _ d1.out Tryz.underlying102 rfl Tryz.lawInfo ?_)
 refine i3.out.mono ?_;rintro e O ⟨rfl,m⟩;have e8:=e7.trans m;have e5:=J.trans m;obtain⟨d6,b1,g9,d8⟩:=Zh4 (m.keep d1.out) (e2.out.ext m) (g7.out.ext m) (d7.out.ext m);clear m d1 e2 g7 d7 i3;cases g4
 ·have n5:=a6.out.miss b0.out;have q9:=Zh n5;clear n5 a6;go_wp2;exact⟨⟨(i:Int) - 1,F,d,f,p,j,c,z,B,y,A,g6,tz,rfl,⟨⟨i,q9.out,by omega⟩,by omega,by omega⟩,a7.out,U.out,Y,T.out,b1.out,r,g9.out,d8.out,e5⟩,mz⟩
 obtain⟨b6,v0,b8⟩:=a6.out.hit b0.out;have f8:=Ve (V8 b0.out);have b7:=r4.out O e8 d p f j U.out b1.out r Y i b0.out;have g0:=r1.out d i b1.out.2;rw [U.out,a8.out,i6.out] at f8;rw [a8.out] at b6;obtain⟨o,n9⟩:=zE (Y1 l d i);rw [n9] at b6 b8 f8 b7 g0;obtain⟨H,f9⟩:=zE o.length;rw [f9] at f8 b7;rw [j3.out] at b8;obtain⟨i7,j1,j0,r5,N⟩:=Zh5 b6 b8 b7 g0 f9;clear b6 b8 b7 g0 n9 f9 a6
 go_wp2_with (refine wpList_load_row rfl 102 (.tmp 2) rfl C rfl _ _ _ _ d6.out Tryz.underlying102 rfl Tryz.lawInfo ?_)
 refine j0.out.mono ?_;rintro e q ⟨x,rfl,E,m⟩;have l3:=e8.trans m;have e6:=e5.trans m;have q8:=Zh (m.keep d6.out);have M:=Zh (d8.out.ext m);obtain⟨a3,a2,rfl⟩:=Zd E;have u2:=(Vb E).1;have n7:Zl q (.slice a3 H a2) o:=by
  have k8:=E;rw [<-N.out] at k8 ⊢;exact Zl.own k8 r5.out
 have m2:Xi q (.slice z c y) (.slice B c A) (.slice a3 H a2):=Xi.own M.out.ou M.out.ov E zd zd;have i8:=Zh n7;have g8:=Zh m2;clear n7 m2 E m d6 d8 g9 b1 j0 e8 e5;by_cases r7:32<H
 ·have t7:(32:Int)<(H:Int):=by omega
  obtain⟨W,X⟩:=Ta j1.out (show 32<o.length by rw [N.out];exact r7);have d0:=Zh W;have q3:=Zh X;clear W X;go_wp2;exact bodyPost_ret (Ji rfl _ _ _) rfl ⟨_,_,by rw [d0.out];rfl,by rw [q3.out];exact Xy.nil _ _,l3⟩
 have t8:¬ ((32:Int)<(H:Int)):=by omega
 have n3:=Nh a7.out (x:=(i,o)) (by show o.length<=32;rw [N.out];omega);have i5:=Zh n3;have f5:=M.out.ou;have f6:=M.out.ov;rw [T.out] at f5 f6;have L:=Zh f5;have a9:=Zh f6;have u3:C+1<=q.heap.size:=by have:=e6.size;have:=d9.out;omega
 clear n3 f5 f6 a7 j1
 go_wp2_with (at_builtin;refine Qk rfl (.tmp 34) (.tmp 36) 48 rfl (C+1) 3 _ 1 8 Tryz.underlying48 Tryz.infoI rfl zd _ _ _ rfl (Q7 L.out ((Q0.refl _ q).alloc _)) ⟨q.heap.size,0,none⟩ 1 1 [.int .i64 i] rfl rfl (Qq rfl) ?c2 ?c3 ?c4 ?c5 ?_)
 case c2=>first | rfl | (intro u t;simp at t;rcases t with rfl;rfl)
 case c3=>unfold maxLen;omega
 case c4=>omega
 case c5=>first | omega | (simp;omega)
 intro b2 c8 V l8 l6 k9;have c7:Q0 (fun b=>(Value.slice z c y).ownBlock=some b) q V:=Q0.trans ((Q0.refl _ q).alloc _) l6;have o5:=Qf a9.out c7 (fun g hg e=>Jp L.out a9.out zd g e hg);have m4:(Value.slice b2 (c+1) c8).ownBlock=(Value.slice z c y).ownBlock\/∃ k,q.heap.size<=k/\(Value.slice b2 (c+1) c8).ownBlock=some k:=k9.imp id fun e=>⟨_,by first | omega | simp | (simp;omega),e⟩;obtain⟨e0,e1,j4,i2⟩:=Zh4 l8 o5 c7 m4;have u4:=c7.size;clear l8 l6 k9 c7 o5 m4
 go_wp2_with (at_builtin;refine Qk rfl (.tmp 38) (.tmp 40) 60 rfl (C+1) 99 _ 1 24 Tryz.underlying60 Tryz.infoW2 rfl zd _ _ _ rfl (Q7 e1.out ((Q0.refl _ V).alloc _)) ⟨V.heap.size,0,none⟩ 1 1 [.slice a3 H a2] rfl rfl (Qq rfl) ?d2 ?d3 ?d4 ?d5 ?_)
 case d2=>first | rfl | (intro u t;simp at t;rcases t with rfl;rfl)
 case d3=>unfold maxLen;omega
 case d4=>omega
 case d5=>first | omega | (simp;omega)
 intro b3 c9 e3 l9 l7 l0;have g5:Q0 (fun b=>(Value.slice B c A).ownBlock=some b) V e3:=Q0.trans ((Q0.refl _ V).alloc _) l7;have c6:Q0 (fun b=>(Value.slice z c y).ownBlock=some b\/(Value.slice B c A).ownBlock=some b) q e3:=(j4.out.mono fun b _ e=>.inl e).trans (g5.mono fun b _ e=>.inr e);have m5:(Value.slice b3 (c+1) c9).ownBlock=(Value.slice B c A).ownBlock\/∃ k,q.heap.size<=k/\(Value.slice b3 (c+1) c9).ownBlock=some k:=l0.imp id fun e=>⟨_,by first | omega | (simp;omega),e⟩;have o3:=Qf e0.out g5 (fun g hg e=>Jp e0.out e1.out zd g hg e);obtain⟨l5,s5,m3⟩:=M.out.push (i:=i) i8.out g8.out (by rw [T.out];exact o3) (by rw [T.out];exact l9) c6 i2.out m5
 have f4:∀ b,b<C+1->¬ ((Value.slice z c y).ownBlock=some b\/(Value.slice B c A).ownBlock=some b):=fun b hb e=>by
  rcases e with e | e
  ·have:=(L.out.lt _ e).1;omega
  ·have:=(a9.out.lt _ e).1;omega
 have l2:Ext a5 e3:=e6.after c6 (fun b hb e=>f4 b (by have:=d9.out;omega) e);have n1:=c6.heap q8.out (f4 C oz);have t6:=cell_of_row _ _ 16 _ _ _ n1;obtain⟨t5,c5,n8,g2,f0⟩:=s5;rw [N.out] at n8 g2 f0;cases n8;obtain⟨i9,j8,i0⟩:=Zh3 l5 g2 m3;have j5:Hid ((F++[(i,o)]).length=c+1):=Zh (by rw [List.length_append,T.out];rfl);clear l5 g2 m3 n1 l9 l7 l0 g5 c6 m5 o3 f4 e0 e1 j4 i2 M g8 i8 L a9 e6 l3;by_cases b4:G=0
 ·have s1:((G:Int) == 0)=true:=by simp;omega
  have S:=Zh b4;clear b4;go_wp2;exact⟨⟨(i:Int) - G - 1,F++[(i,o)],o,H,a3,a2,c+1,b2,b3,c8,c9,_,tz,(Prod.ext rfl (lE rfl (lE rfl (lE rfl (lE rfl (lE rfl (lE (by first | rfl | (simp;done)) rfl))))))),⟨⟨_,i7.out,by have:=S.out;omega⟩,by omega,by omega⟩,i5.out,N.out,by omega,j5.out,j8.out,f0,i0.out,i9.out,l2⟩,by have:=S.out;simp [intOf];omega⟩
 ·have s1:((G:Int) == 0)=false:=by simp;omega
  have S:=Zh b4;clear b4;go_wp2;exact⟨⟨(i:Int) - G,F++[(i,o)],o,H,a3,a2,c+1,b2,b3,c8,c9,_,tz,(Prod.ext rfl (lE rfl (lE rfl (lE rfl (lE rfl (lE rfl (lE (by first | rfl | (simp;done)) rfl))))))),⟨⟨_,i7.out,by have:=S.out;omega⟩,by omega,by omega⟩,i5.out,N.out,by omega,j5.out,j8.out,f0,i0.out,i9.out,l2⟩,by have:=S.out;simp [intOf];omega⟩
theorem Qgi{l:Q5}{ws:Wd}(h:X9 l ws=0):trE l ws=Lg (Qt l ws)/\trT l ws=No (Qt l ws):=by
 have a:trE l ws=Lg (Qt l ws):=by unfold trE Lg;rw [if_pos h]
 refine⟨a,?_⟩;unfold trT;rw [a];unfold Lg No;cases X8 (Qt l ws) <;> simp
theorem Q4z{w:World}{l:Q5}{cs:List Value}{vo:Option Addr}{vc:Nat}{ws:Wd}(r:Zf w l cs)(E:Q6 w (.slice vo ws.length vc) ws) (M:ws.length<=vc) :
  Calls Tryz.prog 243 #[.agg cs.toArray,.slice vo ws.length vc] w fun e w'=>∃ u v,e=.returned (.tuple #[u,v,.int .i64 (trE l ws)])/\Xy w.heap.size w' u v (trT l ws)/\Ext w w':=by
 have N:=fun(V:World) (a:Ext w V)=>Q4i (r.ext a) (E.ext a);have y:=fun(V:World) (a:Ext w V) (f:Yg l=true) (c:l.mode=1) (p:ws.length<=32)=>Qdb (r.ext a) (E.ext a) M f c p;have B:=fun(V:World) (a:Ext w V) (f:Yg l=true) (c:l.mode=2) (p:ws.length<=32)=>Q6m (r.ext a) (E.ext a) M f c p;have A:=fun(V:World) (a:Ext w V) (f:Yg l=true) (c:l.mode=3) (p:ws.length<=32)=>Q8s (r.ext a) (E.ext a) M f c p;have C:=@Qgi l ws
 have L:X9 l ws≠0->trE l ws=X9 l ws/\trT l ws=[]:=fun h=>by
  have:trE l ws=X9 l ws:=by unfold trE;rw [if_neg h]
  refine⟨this,?_⟩;unfold trT;rw [this,if_neg h]
 have z:X9 l ws=0->Yg l=true/\(1<=l.mode/\l.mode<=3)/\ws.length<=32:=fun h=>by
  obtain⟨f,c⟩:=He h;obtain⟨_,_,_,p,_⟩:=Uv f;exact⟨f,p,Cc c⟩
 obtain⟨g9,c2⟩:=zE ws.length;rw [c2] at N y B A z ⊢;obtain⟨d1,c5,d6,c7,c9,b3,b5,d2,a9,b7,c6,d7,c8,d0,b4,b6,d3,b0,b8,c4,b1,c3,d5,b2,d4,k,rfl,e7,f4,f5,e6,f3,f2,e8,e9,f0,f1,e3,g4,g5,g6,g7,g8⟩:=Zr r;rw [e3.out] at y B A z;obtain⟨i,q⟩:=zE (X9 l ws);obtain⟨f7,c0⟩:=zE (Qt l ws);obtain⟨e4,a⟩:=zE (trE l ws);obtain⟨f8,W⟩:=zE (trT l ws);rw [q] at N C L z;rw [c0] at y B A C;rw [a,W] at C L;rw [a,W];obtain⟨a4,a2,a7,a6,a8,a3,a5⟩:=Zh7 N y B A C L z;clear r E M N y B A C L z q c0 a W c2;go_enter Tryz.func243,Tryz.ntmps243;go_upto_region 1 with (fail)
 obtain⟨a0,F⟩:=zE (w.alloc (.cells #[.string d1,.int .i64 c5,.int .u32 (d6:Int),.int .u32 (c7:Int),.bool c9,.int .i64 b3,.int .i64 b5,.slice d2 a9 b7,.int .i64 c6,.int .u32 (d7:Int),.int .u32 (c8:Int),.bool d0,.int .i64 b4,.int .i64 b6,.slice d3 b0 b8,.slice c4 b1 c3,.slice d5 b2 d4,.int .i64 k] 102));have T:Ext w a0:=by rw [<-F];exact(Q0.refl _ w).alloc _
 have X:a0.heap[w.heap.size]?=some (.cells #[.string d1,.int .i64 c5,.int .u32 (d6:Int),.int .u32 (c7:Int),.bool c9,.int .i64 b3,.int .i64 b5,.slice d2 a9 b7,.int .i64 c6,.int .u32 (d7:Int),.int .u32 (c8:Int),.bool d0,.int .i64 b4,.int .i64 b6,.slice d3 b0 b8,.slice c4 b1 c3,.slice d5 b2 d4,.int .i64 k] 102 (0,0)):=by rw [<-F];exact Q3 rfl
 have Z:a0.heap.size=w.heap.size+1:=by rw [<-F];simp
 rw [F];obtain⟨G,S⟩:=zE w.heap.size;rw [S] at X Z ⊢;obtain⟨O,e5,f6⟩:=Zh3 X S Z;clear F X S Z
 go_wp2_with (refine wpList_load_row rfl 102 (.tmp 2) rfl G rfl _ _ _ _ O.out Tryz.underlying102 rfl Tryz.lawInfo ?_)
 refine(a4.out _ T).mono ?_;rintro e a1 ⟨rfl,d⟩;have j:=T.trans d;have J:=Zh (d.keep O.out);clear d T O a4;by_cases P:i=0;case neg=>
  have g2:(i != 0)=true:=by rw [bne_iff_ne];exact P
  obtain⟨rfl,rfl⟩:=a3.out P;go_wp2;exact bodyPost_ret (Ji rfl _ _ _) rfl ⟨_,_,rfl,Xy.nil _ _,j⟩
 subst P;obtain⟨b9,c1⟩:=a8.out rfl;obtain⟨Y,g3,Q⟩:=a5.out rfl;have R:=fun(V:World) (a:Ext w V) (c:k=1)=>a2.out V a Y c Q;have q:=fun(V:World) (a:Ext w V) (c:k=2)=>a7.out V a Y c Q;have U:=fun(V:World) (a:Ext w V) (c:k=3)=>a6.out V a Y c Q;rw [<-b9,<-c1] at R q U;obtain⟨H,K,I⟩:=Zh3 R q U;clear R q U a2 a7 a6 a8 a3 a5 b9 c1;have f9:=cell_of_row _ _ 17 _ _ _ J.out;by_cases f:k=1
 ·subst f;have s:=Zh (fun V a=>H.out V a rfl);clear H K I;have o:=s.out a1 j;have m:=Zh o;clear o
  go_wp2_with (refine wpList_load_row rfl 102 (.tmp 2) rfl G rfl _ _ _ _ J.out Tryz.underlying102 rfl Tryz.lawInfo ?_)
  refine m.out.mono ?_;rintro e e0 ⟨u,v,rfl,g,d⟩;have x:=j.trans d;obtain⟨d9,d8,e2,e1,rfl,rfl,_⟩:=g.slices;have t:=Zh (g.base (b':=w.heap.size) j.size);clear g d m;go_wp2;exact bodyPost_ret (Ji rfl _ _ _) rfl ⟨_,_,rfl,t.out,x⟩
 have g0:(k == 1)=false:=by rw [beq_eq_false_iff_ne];exact f
 by_cases c:k=2
 ·subst c;have s:=Zh (fun V a=>K.out V a rfl);clear H K I;have o:=s.out a1 j;have m:=Zh o;clear o
  go_wp2_with (refine wpList_load_row rfl 102 (.tmp 2) rfl G rfl _ _ _ _ J.out Tryz.underlying102 rfl Tryz.lawInfo ?_)
  refine m.out.mono ?_;rintro e e0 ⟨u,v,rfl,g,d⟩;have x:=j.trans d;obtain⟨d9,d8,e2,e1,rfl,rfl,_⟩:=g.slices;have t:=Zh (g.base (b':=w.heap.size) j.size);clear g d m;go_wp2;exact bodyPost_ret (Ji rfl _ _ _) rfl ⟨_,_,rfl,t.out,x⟩
 have g1:(k == 2)=false:=by rw [beq_eq_false_iff_ne];exact c
 ·obtain rfl:k=3:=by omega
  have s:=Zh (fun V a=>I.out V a rfl);clear H K I;have o:=s.out a1 j;have m:=Zh o;clear o
  go_wp2_with (refine wpList_load_row rfl 102 (.tmp 2) rfl G rfl _ _ _ _ J.out Tryz.underlying102 rfl Tryz.lawInfo ?_)
  refine m.out.mono ?_;rintro e e0 ⟨u,v,rfl,g,d⟩;have x:=j.trans d;obtain⟨d9,d8,e2,e1,rfl,rfl,_⟩:=g.slices;have t:=Zh (g.base (b':=w.heap.size) j.size);clear g d m;go_wp2;exact bodyPost_ret (Ji rfl _ _ _) rfl ⟨_,_,rfl,t.out,x⟩
theorem Qb2{W:World}{b:Nat}(hb:b<=W.heap.size):(W.alloc (.cells #[] 95)).ownsRow b 95 2 (.slice (some ⟨W.heap.size,0,none⟩) 0 0) 0 []:=World.ownsRow_made (base:=b) (e:=95) (size:=2) W #[] 0 hb zd rfl
theorem Q6r{w:World}{l:Q5}{cs:List Value}{vo:Option Addr}{vc:Nat}{ws:Wd}(a5:Zf w l cs)(O:Q6 w (.slice vo ws.length vc) ws) (g8:ws.length<=vc) :
  Calls Tryz.prog 207 #[.agg cs.toArray,.slice vo ws.length vc] w fun e w'=>∃ u,e=.returned (.tuple #[u,.int .i64 (trE l ws)])/\Zl w' u (Jl l ws)/\Qw (fun g=>w.heap.size<=g) u/\Ext w w':=by
 have G:=fun(V:World) (A:Ext w V)=>Q4z (a5.ext A) (O.ext A) g8;have e1:=O.2;have N:trE l ws=0->ws.length<=32:=fun f=>Cc (He (Rh f)).2
 have L:trE l ws=0->∀ a (p:a<(trT l ws).length),(trT l ws)[a].2.length<=32:=fun f a p=>by
  have e:trT l ws=Qt l ws:=by unfold trT;rw [if_pos f]
  have:=Ej (Q0h f) (x:=(trT l ws)[a]) (by rw [<-e];exact List.getElem_mem _);exact this
 have v:=@Q4k l ws;have y:=@Ez l ws;have K:=@Q1z l ws;obtain⟨g1,a8⟩:=zE ws.length;have b3:=Zh O;rw [a8] at G N b3 ⊢;obtain⟨f4,e7,f9,e9,f2,c0,c6,f5,b5,c8,e8,g0,f0,f3,c1,c7,f6,b6,c9,e6,b7,e5,f8,b8,f7,f1,rfl,i1,i9,j0,i0,i8,i7,i3,i4,i5,i6,i2,k1,k2,k3,k4,k5⟩:=Zr a5;obtain⟨b0,A⟩:=zE (trE l ws);obtain⟨b9,d7⟩:=zE (trT l ws);obtain⟨Q,d0⟩:=zE (Jl l ws);rw [A] at G N v y K L ⊢;rw [d7] at G v y L;rw [d0] at v y K ⊢;obtain⟨b2,g7,g5,S,T,U,b4,g3⟩:=Zh8 G N e1 v y K a8 L;clear a5 O G N e1 v y K L A d7 d0 a8;go_enter Tryz.func207,Tryz.ntmps207;go_upto_region 1 with (fail)
 obtain⟨a9,H⟩:=zE (w.alloc (.cells #[.string f4,.int .i64 e7,.int .u32 (f9:Int),.int .u32 (e9:Int),.bool f2,.int .i64 c0,.int .i64 c6,.slice f5 b5 c8,.int .i64 e8,.int .u32 (g0:Int),.int .u32 (f0:Int),.bool f3,.int .i64 c1,.int .i64 c7,.slice f6 b6 c9,.slice e6 b7 e5,.slice f8 b8 f7,.int .i64 f1] 102));have a1:Ext w a9:=by rw [<-H];exact(Q0.refl _ w).alloc _
 have a6:a9.heap[w.heap.size]?=some (.cells #[.string f4,.int .i64 e7,.int .u32 (f9:Int),.int .u32 (e9:Int),.bool f2,.int .i64 c0,.int .i64 c6,.slice f5 b5 c8,.int .i64 e8,.int .u32 (g0:Int),.int .u32 (f0:Int),.bool f3,.int .i64 c1,.int .i64 c7,.slice f6 b6 c9,.slice e6 b7 e5,.slice f8 b8 f7,.int .i64 f1] 102 (0,0)):=by rw [<-H];exact Q3 rfl
 have a7:a9.heap.size=w.heap.size+1:=by rw [<-H];simp
 rw [H];obtain⟨g2,a0⟩:=zE w.heap.size;rw [a0] at a6 a7 ⊢;obtain⟨b1,g9,j1⟩:=Zh3 a6 a0 a7;clear H a6 a0 a7
 go_wp2_with (refine wpList_load_row rfl 102 (.tmp 2) rfl g2 rfl _ _ _ _ b1.out Tryz.underlying102 rfl Tryz.lawInfo ?_)
 refine(b2.out _ a1).mono ?_;rintro e i ⟨u,k8,rfl,B,d6⟩;have n:=a1.trans d6;obtain⟨k7,k6,l0,k9,rfl,rfl,e4⟩:=B.slices;clear d6 a1 b1 b2;by_cases f:b0=0;case neg=>
  have j4:(b0 != 0)=true:=by rw [bne_iff_ne];exact f
  have j:=U.out f;subst j;clear B;go_wp2;go_ret2;exact⟨_,rfl,Zl.nil _,(show Qw (fun g=>w.heap.size<=g) (.slice none 0 0) from fun g o c Z e h=>by cases e),n⟩
 subst f;have k0:=g7.out rfl;obtain⟨c,q⟩:=zE b9.length;rw [q] at e4 ⊢;unfold maxLen at e4;have d1:Ext i (i.alloc (.cells #[] 95)):=(Q0.refl _ i).alloc _;have d2:=Qb2 (W:=i) (b:=i.heap.size) (Nat.le_refl _);have J:=Zh d2;have k:=Zh d1;clear d2 d1;by_cases e0:c=0
 ·subst e0;have j:=S.out rfl q;have m:=(b3.out.ext (n.trans k.out)).1;rw [b4.out] at m;have r:=Zh m;have j9:((0:Nat):Int)=0:=rfl;clear B q S T U m
  go_wp2_with (at_builtin;refine Jo rfl (.tmp 22) (.tmp 23) 99 rfl i.heap.size 95 _ 2 8 Tryz.underlying99 @Xt rfl zd _ 0 [] rfl J.out _ _ _ _ rfl r.out (Uz _) ?c3 ?c4 ?c5 ?_)
  case c3=>unfold maxLen;omega
  case c4=>omega
  case c5=>exact k.out.size
  intro s t I d C _;try rw [Nat.zero_add] at d
  try rw [List.nil_append] at d
  try rw [Nat.zero_add]
  have a2:Ext i I:=k.out.after C (fun b hb e=>by have:=(J.out.lt b e).1;omega);have a3:=n.trans a2;have F:Zl I (.slice s g1 t) Q:=by
   rw [j];have z:=d;rw [<-b4.out] at z ⊢;exact Zl.own z g5.out
  have E:Qw (fun g=>w.heap.size<=g) (.slice s g1 t):=fun g o c Z e f=>by have:=(d.lt g (by rw [e];simp [Value.ownBlock])).1;have:=n.size;omega
  have Y:=Zh F;have X:=Zh E;clear d C j F r E;go_wp2;go_ret2;exact⟨_,rfl,Y.out,X.out,a3⟩
 ·obtain⟨a,rfl⟩:∃ a,c=a+1:=⟨c - 1,by omega⟩;have p:a<b9.length:=by omega
  obtain⟨g,j3,j2,Z,e3,M,P,d9⟩:=B.at p;have j:=T.out rfl q p;have d8:=g3.out rfl a p;rw [j] at M P d9 d8;rw [q] at e3;cases e3;have e2:=P.2;obtain⟨c2,a4⟩:=zE Q.length;have m:=(P.ext k.out).1;rw [a4] at M m d8;have j5:=k.out.cell_some M id;have j6:((a+1:Nat):Int) - 1=(a:Int):=by omega
  have j7:(((a+1:Nat):Int) == 0)=false:=by simp;omega
  have j8:(a:Int)<((a+1:Nat):Int):=by omega
  obtain⟨r,g4,g6⟩:=Zh3 m a4 e2;clear B q S T U P d9 j e0 m a4 e2 M p
  go_wp2_with (at_builtin;refine Jo rfl (.tmp 25) (.tmp 31) 99 rfl i.heap.size 95 _ 2 8 Tryz.underlying99 @Xt rfl zd _ 0 [] rfl J.out _ _ _ _ rfl r.out (Uz _) ?d3 ?d4 ?d5 ?_)
  case d3=>unfold maxLen;omega
  case d4=>omega
  case d5=>exact k.out.size
  intro s t I d C _;try rw [Nat.zero_add] at d
  try rw [List.nil_append] at d
  try rw [Nat.zero_add]
  have a2:Ext i I:=k.out.after C (fun b hb e=>by have:=(J.out.lt b e).1;omega);have a3:=n.trans a2;have F:Zl I (.slice s c2 t) Q:=by
   have z:=d;rw [<-g4.out] at z ⊢;exact Zl.own z g6.out
  have E:Qw (fun g=>w.heap.size<=g) (.slice s c2 t):=fun g o c Z e f=>by have:=(d.lt g (by rw [e];simp [Value.ownBlock])).1;have:=n.size;omega
  have Y:=Zh F;have X:=Zh E;clear d C F r E;go_wp2;go_ret2;exact⟨_,rfl,Y.out,X.out,a3⟩
theorem Qgl:(Tryz.prog.info? 99).map (fun i=>(i.zero,i.size,i.bytes))=some (some (.slice none 0 0),1,24):=by kernel_rfl
theorem Sw{w:World}{e:TypeId}{base:Nat}(hb:base<=w.heap.size)(u:Value):(w.alloc (.cells #[u] e)).ownsRow base e 1 (.slice (some ⟨w.heap.size,0,none⟩) 1 1) 1 [u]:=
 World.ownsRow_lit w #[u] 1 hb (by unfold maxLen;omega) rfl
theorem Qat{w:World}{v:Value}{ws:Wd}(k:Q6 w v ws)(V:ws.length<=300) :
  Calls Tryz.prog 206 #[v] w fun e w'=>∃ u,e=.returned u/\Zl w' u ws/\Ext w w':=by
 obtain⟨r,s,rfl,W⟩:=k.slice;have M:=Zh k;have E:=k.2;clear k W;obtain⟨c,j⟩:=zE ws.length;have l:=Zh j;have K:=Zh E;rw [j] at V;show Calls Tryz.prog 206 #[.slice r ws.length s] w _;rw [j];clear j E;go_enter Tryz.func206,Tryz.ntmps206;go_wp2
 refine wp_loop (fun b d=>∃(a:Nat) (i:Value),a<=c/\b.defers=[]/\gS b [0,3,4]=(19,[.slice r c s,i,.int .i64 a])/\d.ownsRow w.heap.size 95 2 i a (Za (ws.take a))/\Ext w d)
  (fun b _=>c - (intOf (b.tmps.getD 4 undef)).toNat) ?_ ?_
 ·exact⟨0,_,by omega,rfl,rfl,World.ownsRow_nil _ _ _ _,Q0.refl _ _⟩
 rintro⟨a8,_⟩ d ⟨a,i,a6,S,F,z,g⟩;subst S;obtain⟨u,rfl⟩:=Qj F;clear F;have m:=Zh z;clear z;by_cases U:a<c
 ·have y:(a:Int)<(c:Int):=by omega
  have q:a<ws.length:=by rw [l.out];exact U
  obtain⟨a5,a7,a4,C,T,t,x⟩:=(M.out.ext g).at q;simp only [zV] at C;obtain⟨Q,X,R⟩:=C;clear X;subst Q;subst R;obtain⟨b,o⟩:=zE ((ws.getD a (0,0)).1);obtain⟨f,p⟩:=zE ((ws.getD a (0,0)).2);rw [o] at t;rw [p] at x;have G:Za (ws.take (a+1))=Za (ws.take a)++[.int .u32 (b:Int),.int .u32 (f:Int)]:=by
   rw [List.take_succ_eq_append_getElem q,Zn];have N:ws.getD a (0,0)=ws[a]:=by rw [List.getD_eq_getElem?_getD,List.getElem?_eq_getElem q];rfl
   have:ws[a]=(b,f):=by rw [<-N,<-o,<-p]
   rw [this];rfl
  have L:=Zh G;have Z:=g.size;clear o p G T
  go_wp2_with (at_builtin;refine Qk rfl (.tmp 11) (.tmp 16) 99 rfl w.heap.size 95 _ 2 8 Tryz.underlying99 @Xt rfl zd _ _ _ rfl (Q7 m.out ((Q0.refl _ d).alloc (.cells #[.int .u32 (b:Int),.int .u32 (f:Int)] 95))) ⟨d.heap.size,0,none⟩ 1 1 [.int .u32 (b:Int),.int .u32 (f:Int)] rfl rfl (Qq rfl) ?c2 ?c3 ?c4 ?c5 ?_)
  case c2=>first | rfl | (intro u H;simp only [List.mem_cons,List.not_mem_nil,or_false] at H;rcases H with rfl | rfl <;> rfl)
  case c3=>unfold maxLen;omega
  case c4=>omega
  case c5=>first | omega | (simp;omega)
  intro a1 c5 a0 n A _;have B:Q0 (fun b'=>i.ownBlock=some b') d a0:=Q0.trans (Q0.alloc (Q0.refl _ d) _) A;have P:=g.after B (fun b' y e=>by have:=(m.out.lt _ e).1;omega);rw [<-L.out] at n;have J:=Zh n;clear A B n g t x Z;go_wp2;exact⟨⟨a+1,_,by omega,tz,rfl,J.out,P⟩,nz⟩
 ·obtain rfl:a=c:=by omega
  have y:¬ (a:Int)<(a:Int):=by omega
  have D:Zl d i ws:=by
   have:=m.out;rw [List.take_of_length_le (by rw [l.out];exact Nat.le_refl _)] at this;obtain⟨a2,a3,Y⟩:=Zd this;subst Y;have O:=l.out;subst O;exact Zl.own this K.out
  have I:=Zh D;clear D;go_wp2;go_ret;exact⟨_,rfl,I.out,g⟩
theorem Qbw{LD:List Q5}{ws:Wd}(j:∀ l∈LD,∀ x∈l.outs,Jh x)(i:Yf ws)(h:Gf LD ws=0){k:Nat}(c:k<LD.length){u:Wd}(d:Xm (LD.take k) ws=some u) :
  (trE LD[k] u=0/\Xm (LD.take (k+1)) ws=some (Jl LD[k] u))\/(trE LD[k] u=11/\Vn LD ws=11):=by
 have e:Ul LD=0/\wE ws=0:=by
  unfold Gf at h
  split at h
  ·rename_i a;exact⟨a,h⟩
  ·rename_i a;exact absurd h a
 have g:Yg LD[k]=true:=by
  have a:=e.1;unfold Ul at a
  split at a
  ·cases a
  ·split at a
   ·rename_i _ f;exact List.all_eq_true.1 f _ (List.getElem_mem c)
   ·cases a
 have m:=Q5v (fun l hl=>j l (List.mem_of_mem_take hl)) i e.2 d;rcases Qd3 g m.1 with b | b
 ·refine .inl ⟨b,?_⟩;rw [Ee c,d];simp [b]
 ·exact .inr ⟨b,(Pz h (Q9w c d (by rw [b];decide))).1⟩
theorem Qcw{w:World}{base:Nat}{e:TypeId}{v:Value}{n:Nat}{xs:List Value}(h:w.ownsRow base e 1 v n xs):xs.length=n:=by
 have:=(Rd.of_own h).1;omega
theorem Js{w:World}{v:Value}{n:Nat}{xs:List Value}(h:Rd w v n 1 xs){k:Nat}(l:k<n):∃ g off cap,v=.slice (some ⟨g,off,none⟩) n cap/\g<w.heap.size/\w.cell? ⟨g,off+k,none⟩=some (xs.getD k undef):=by
 obtain⟨i,j,f,cap,e,a⟩:=h;obtain⟨g,off,b,d,c⟩:=a oz;exact⟨g,off,cap,by rw [e,b],d,c k oz⟩
def Qgo(E:Int)(n:Nat)(W:World)(v:Value)(u:Wd):Prop:=(E≠0->v=.slice none 0 0)/\(E=0->∃ ao c vs,v=.slice ao (n+1) c/\Rd W v (n+1) 1 vs/\Zl W (vs.getD n undef) u)
theorem Q7k{w:World}{ps:Qi}{lo:Option Addr}{n lc:Nat}{vo:Option Addr}{vc:Nat}{ws:Wd}(a0:Z5 w (.slice lo n lc) ps) (a1:ps.length=n) (d1:Q6 w (.slice vo ws.length vc) ws) :
  Calls Tryz.prog 186 #[.slice lo n lc,.slice vo ws.length vc] w fun e w'=>∃ v,e=.returned (.tuple #[v,.int .i64 (Vn (ps.map (·.1)) ws)])/\Qgo (Vn (ps.map (·.1)) ws) n w' v (Kg (ps.map (·.1)) ws)/\Ext w w':=by
 have c6:=Q59 a0 a1;have d4:=fun(r:World) (p:Ext w r)=>W6 (d1.ext p);have f2:=fun(r:World) (p:Ext w r) (h:ws.length<=300)=>Qat (d1.ext p) h;obtain⟨c,Y⟩:=zE (ps.map (·.1));rw [Y] at c6 ⊢;have n5:c.length=n:=by rw [<-Y,List.length_map,a1]
 have G:∀ k (Z:k<ps.length),c[k]?=some ps[k].1:=fun k Z=>by rw [<-Y,List.getElem?_map,List.getElem?_eq_getElem Z];rfl
 have k1:∀ l∈c,∀ x∈l.outs,Jh x:=fun l hm=>by
  rw [<-Y] at hm;obtain⟨a3,n9,rfl⟩:=List.mem_map.1 hm;obtain⟨_,_,_,_,_,_,_,_,_,n7⟩:=a0.2 a3 n9;exact n7.2
 have P:Gf c ws=0->∀ k l g,c[k]?=some l->Xm (c.take k) ws=some g->(trE l g=0/\Xm (c.take (k+1)) ws=some (Jl l g))\/(trE l g=11/\Vn c ws=11):=fun h k l g b7 b9=>by
  obtain⟨Z,rfl⟩:=List.getElem?_eq_some_iff.1 b7;exact Qbw k1 d1.2 h Z b9
 have F:Gf c ws=0->∀ g,Xm (c.take n) ws=some g->Vn c ws=0/\Kg c ws=g:=fun h g b9=>Lv h (by rwa [Qd2 oz] at b9);have E:Gf c ws≠0->Vn c ws=Gf c ws:=fun h=>(Q3v h).1;have c8:Gf c ws=if Ul c=0 then wE ws else Ul c:=rfl
 have d2:wE ws=0->ws.length<=300:=fun h=>Nat.le_trans (Cc h) zd;have n6:n<=maxLen:=by rw [<-a1];exact a0.1.2.1
 have c9:Ul c=0->n<=64:=fun h=>by
  unfold Ul at h
  split at h
  ·cases h
  ·omega
 unfold maxLen at n6;obtain⟨B,i0⟩:=zE (Ul c);obtain⟨M,D⟩:=zE (wE ws);obtain⟨C,i7⟩:=zE (Vn c ws);obtain⟨o6,i8⟩:=zE (Kg c ws);rw [i0] at c6 c8 c9;rw [D] at d2 c8;simp only [D] at d4;rw [i7] at E F P ⊢;rw [i8] at F ⊢;rw [c8] at P F E;have j1:B≠0->C=B:=fun h=>by rw [if_neg h] at E;exact E h
 have j2:B=0->M≠0->C=M:=fun h h'=>by rw [if_pos h] at E;exact E h'
 have P:=fun(h:B=0) (h':M=0)=>P (by rw [if_pos h];exact h');have F:=fun(h:B=0) (h':M=0)=>F (by rw [if_pos h];exact h');obtain⟨q2,f5⟩:=zE ws.length;rw [f5] at f2 d2 ⊢;simp only [f5] at d4;obtain⟨g0,e3,a8,T,U,R,b4,b2⟩:=Zh8 c6 d4 f2 a0 a1 G P F;obtain⟨a6,a7,b5,e0⟩:=Zh4 j1 j2 d2 c9;have f7:Hid (Xm (c.take 0) ws=some ws):=Zh rfl;clear c6 d4 f2 a0 a1 G P F E j1 j2 d2 c9 c8 i0 D i7 i8 f5 Y n5 k1 d1;go_enter Tryz.func186,Tryz.ntmps186;go_wp2_with fail;refine g0.out.mono ?_;rintro e q0 ⟨rfl,i1⟩;have b0:=Zh i1;clear i1 g0;by_cases W:B=0;case neg=>
  have I:C=B:=a6.out W;subst I;have p4:(C == 0)=false:=by rw [beq_eq_false_iff_ne];exact W
  have m4:(C != 0)=true:=by rw [bne_iff_ne];exact W
  clear e3 a8 T U R b4 b2 a6 a7 b5 e0;go_wp2;go_ret2;exact⟨_,rfl,⟨fun _=>rfl,fun h=>absurd h W⟩,b0.out⟩
 subst W;have c9:=e0.out rfl;go_wp2_with fail;refine(e3.out _ b0.out).mono ?_;rintro e q1 ⟨rfl,X⟩;have b1:=Zh (b0.out.trans X);clear X b0 e3 e0;by_cases c0:M=0;case neg=>
  have I:C=M:=a7.out uz c0;subst I;have m4:(C != 0)=true:=by rw [bne_iff_ne];exact c0
  clear a8 T U R b4 b2 a6 a7 b5;go_wp2;go_ret2;exact⟨_,rfl,⟨fun _=>rfl,fun h=>absurd h c0⟩,b1.out⟩
 subst c0;have k6:=b4.out uz uz;have j5:=b2.out uz uz;have l1:=b5.out rfl;obtain⟨e1,g2,g9⟩:=Zh3 k6 j5 l1;clear k6 j5 l1 b4 b2 a6 a7 b5;go_wp2_with fail;refine(a8.out _ b1.out g9.out).mono ?_;rintro e J ⟨g,rfl,u,i2⟩;obtain⟨d6,d5,rfl,H⟩:=u;have u:Zl J (.slice d6 ws.length d5) ws:=⟨d6,d5,rfl,H⟩;obtain⟨l6,k9⟩:=zE ws.length;rw [k9] at u ⊢;have O:=Zh u;have d8:=Zh (b1.out.trans i2);clear H k9;clear u i2 b1 a8 g9;go_upto_region 7 with (fail)
 obtain⟨l7,d3⟩:=zE (J.alloc (.cells #[.slice d6 l6 d5] 99));have e7:Ext J l7:=by rw [<-d3];exact(Q0.refl _ J).alloc _
 have e8:l7.ownsRow J.heap.size 99 1 (.slice (some ⟨J.heap.size,0,none⟩) 1 1) 1 [.slice d6 l6 d5]:=by rw [<-d3];exact Sw (Nat.le_refl _) _
 rw [d3];obtain⟨a5,D⟩:=zE J.heap.size;rw [D] at e8 ⊢;have p7:w.heap.size<=a5:=by rw [<-D];exact d8.out.size
 obtain⟨g5,g1,g6⟩:=Zh3 e8 (d8.out.trans e7) (O.out.ext e7);clear d3 e7 e8 D d8 O;go_wp2
 refine wp_loop (fun a j=>∃(k:Nat) (e4:Option Addr) (b6:Nat) (a4:List Value) (x:Wd),k<=n/\a.defers=[]/\gS a [0,7,8]=(49,[.slice lo n lc,.slice e4 (k+1) b6,.int .i64 k])/\j.ownsRow a5 99 1 (.slice e4 (k+1) b6) (k+1) a4/\Zl j (a4.getD k undef) x/\Xm (c.take k) ws=some x/\Ext w j)
  (fun a _=>((n:Int) - intOf (a.tmps.getD 8 undef)).toNat) ?_ ?_
 ·exact⟨0,_,_,_,_,by omega,rfl,rfl,g5.out,g6.out,f7.out,g1.out⟩
 clear g5 g6 f7 g1;rintro⟨p9,_⟩ j ⟨k,e4,b6,a4,x,Z,n0,k7,i4,u,j4,p⟩;subst n0;obtain⟨g,rfl⟩:=Qj k7;clear k7;obtain⟨q,O,a9,Q⟩:=Zh4 i4 u j4 p;clear i4 u j4 p;by_cases n3:k<n;case neg=>
  obtain rfl:k=n:=by omega
  have b7:¬ (k:Int)<(k:Int):=by omega
  obtain⟨I,o3⟩:=g2.out _ a9.out;subst I;subst o3;clear e1 g2 a9 T U R;go_wp2;go_ret2;exact⟨_,rfl,⟨fun h=>absurd rfl h,fun _=>⟨_,_,_,rfl,Rd.of_own q.out,O.out⟩⟩,Q.out⟩
 have b7:(k:Int)<(n:Int):=by omega
 have p3:(0:Int)<=(k:Int):=by omega
 have b9:(k:Int)<(k:Int)+1:=by omega
 have j8:k<ps.length:=by rw [U.out];exact n3
 obtain⟨m3,o4,p0,k3,n1,d0,c7,b8⟩:=(T.out.ext Q.out).at j8;simp only [zV] at k3;obtain⟨rfl,o1,rfl⟩:=k3;have G:=R.out k j8;obtain⟨a3,k2⟩:=zE (ps[k]);rw [k2] at d0 c7 b8 G;obtain⟨f6,o5⟩:=a3;dsimp only at d0 c7 b8 G;have f3:=e1.out k f6 x G a9.out;have m8:n=n:=rfl;obtain⟨e5,m7⟩:=Kx q.out;subst m7;obtain⟨q5,q3,l4,l5,l2⟩:=O.out;have k5:=(Rd.of_own q.out);obtain⟨p2,p8,p1,k4,o2,a2⟩:=Js k5 (k:=k) oz;simp only [zV,Option.some.injEq,Addr.mk.injEq] at k4;obtain⟨⟨n2,n8,p6⟩,n4,m9⟩:=k4;subst n2;subst n8;subst m9;rw [l4] at a2;have c1:=fun(r:World) (p:Ext j r)=>Q6r (c7.ext p) (l5.ext p) l2;obtain⟨q4,l3⟩:=zE x.length;simp only [l3] at c1 a2;rw [Nat.zero_add] at a2;obtain⟨o7,e9⟩:=zE (trE f6 x);obtain⟨o,f1⟩:=zE (Jl f6 x);simp only [e9,f1] at c1;rw [e9,f1] at f3;obtain⟨f9,g8,f8,d7,g7⟩:=Zh5 c1 d0 b8 f3 a2;clear c1 d0 b8 f3 a2 o1 k2 c7 G l4 l5 l2 l3 e9 f1 m8 k5 o2 n1 n4 T U R a9 O e1;go_upto_region 10 with (fail)
 have f:Ext j j.drew:=(Q0.refl _ j).drew;refine Z0 (S:=fun N=>Ext j N) [] kz f ?_;intro _;refine tE 0 30 f ?_;refine tE 1 31 f ?_;refine tE 2 32 f ?_;refine tkE (i:=3) (d:=33) (v:=?_) rfl (Or.inl ⟨by rfl,?_⟩) f ?_;rotate_left
 ·intro N e6;refine Vl (x:=.tmp 32) ?_ m3 (o4+k*18) ?_ o5 _ (Kr e6 g8.out id) Tryz.underlying102 rfl (by rw [f8.out];kernel_rfl) <;> first | rfl | (simp;done)
 try simp only [Act.put,pq]
 refine tE 4 34 f ?_;refine tE 5 35 f ?_;refine tE 6 36 f ?_;refine tkE (i:=7) (d:=37) (v:=?_) rfl (Or.inl ⟨by rfl,?_⟩) f ?_;rotate_left
 ·intro N e6;have o9:=(show Ext _ N from e6).cell_some g7.out id;go_simp;try with_reducible rfl
 try simp only [Act.put,pq]
 obtain⟨r,j0⟩:=zE j.drew;rw [j0] at f ⊢;clear j0;refine rE [8] ?_;refine Q1.cons rfl (fun K hK=>?_) Q1.nil;refine iw rfl ?_;go_simp;refine(f9.out _ f).mono ?_;rintro e s ⟨q6,rfl,H,j9,X⟩;have t:Ext j s:=f.trans X;have d9:=Zh (Qw.mono j9 fun b hb=>Nat.le_trans f.size hb);obtain⟨A,y,rfl,k0⟩:=H;have H:Zl s (.slice A o.length y) o:=⟨A,y,rfl,k0⟩;have b3:=Zh H
 (try refine⟨_,rfl,?_⟩)
 clear j9 H k0 X f;refine hK _ _ t (fun _=>?_);clear hK K;try simp only [Act.put,pq]
 refine tE 9 29 t ?_;refine tE 10 39 t ?_;refine tE 11 40 t ?_;refine tE 12 9 t ?_;refine tE 13 10 t ?_;refine Ql kz ?_ _;have V:=Zh t;clear t f9 g8 f8 g7;rcases d7.out with ⟨m5,j3⟩ | ⟨m6,I⟩
 case inr=>
  subst m6;subst I;clear d7 d9 b3 q;go_wp2;go_ret2;exact⟨_,rfl,⟨fun _=>rfl,fun h=>by cases h⟩,Q.out.trans V.out⟩
 subst m5;have l9:=Zh j3;clear j3 d7;have i5:=Q7 q.out (V.out.trans ((Q0.refl _ s).alloc (.cells #[.slice A o.length y] 99)));have j6:=q.out.lt e5 (by simp [Value.ownBlock]);have p5:a5<=s.heap.size:=by have:=V.out.size;omega
 have l0:a4.length=k+1:=by have:=Qcw q.out;omega
 have o0:Zl s (.slice A o.length y) o:=b3.out;obtain⟨e2,g3,g4⟩:=Zh3 l0 j6.2 i5;clear i5
 go_wp2_with (at_builtin;refine Qk rfl (.tmp 44) (.tmp 46) 60 rfl a5 99 _ 1 24 Tryz.underlying60 Qgl rfl zd _ _ _ rfl g4.out ⟨s.heap.size,0,none⟩ 1 1 [.slice A o.length y] rfl rfl (Qq rfl) ?c2 ?c3 ?c4 ?c5 ?_)
 case c2=>first | rfl | (intro g k8;simp only [List.mem_cons,List.not_mem_nil,or_false] at k8;rcases k8 with rfl;rfl)
 case c3=>unfold maxLen;omega
 case c4=>omega
 case c5=>first | omega | (simp;omega)
 intro o8 c5 l8 i6 i9 _;have f0:Q0 (fun b'=>(Value.slice (some ⟨e5,0,none⟩) (k+1) b6).ownBlock=some b') s l8:=Q0.trans (Q0.alloc (Q0.refl _ s) _) i9;have i3:=(Q.out.trans V.out).after f0 (fun b' b7 e=>by simp only [Value.ownBlock,Option.some.injEq] at e;omega);have f4:Zl l8 (.slice A o.length y) o:=b3.out.keepS (S:=fun b=>b≠e5) (Q0.mono f0 fun b _ hb=>by simp only [Value.ownBlock,Option.some.injEq] at hb;exact fun h=>h hb.symm) (Qw.mono d9.out fun b hb e=>by have:=g3.out;omega);have j7:(a4++[Value.slice A o.length y]).getD (k+1) undef=.slice A o.length y:=by rw [List.getD_eq_getElem?_getD,List.getElem?_append_right (by rw [e2.out];exact Nat.le_refl _),e2.out];simp
 rw [<-j7] at f4;obtain⟨m2,m1,m0⟩:=Zh3 f4 i6 i3;clear f4 i6 i3 i9 f0 j7 o0 g4 q b3 d9 Q V e2 j6 g3 l0;go_wp2;exact⟨⟨k+1,_,_,_,_,by omega,tz,rfl,m1.out,m2.out,l9.out,m0.out⟩,mz⟩
theorem Q5j{w:World}{ps:Qi}{lo:Option Addr}{n lc:Nat}{vo:Option Addr}{vc:Nat}{ws:Wd}(l:Z5 w (.slice lo n lc) ps) (o:ps.length=n) (D:Q6 w (.slice vo ws.length vc) ws) :
  Calls Tryz.prog 145 #[.slice lo n lc,.slice vo ws.length vc] w fun e w'=>∃ ao c,e=.returned (.tuple #[.slice ao (Kg (ps.map (·.1)) ws).length c,.int .i64 (Vn (ps.map (·.1)) ws)])/\Zl w' (.slice ao (Kg (ps.map (·.1)) ws).length c) (Kg (ps.map (·.1)) ws)/\Ext w w':=by
 have a:=Q7k l o D;have L:n<=maxLen:=by rw [<-o];exact l.1.2.1
 unfold maxLen at L;have b:=@Qdp (ps.map (·.1)) ws;obtain⟨t,v⟩:=zE (Vn (ps.map (·.1)) ws);obtain⟨f,y⟩:=zE (Kg (ps.map (·.1)) ws);rw [v] at a b ⊢;rw [y] at a b ⊢;obtain⟨Z,E⟩:=zE ws.length;rw [E] at a ⊢;obtain⟨K,j⟩:=zE f.length;rw [j];obtain⟨q,d,r⟩:=Zh3 a b j;clear a b l o D v y E j;go_enter Tryz.func145,Tryz.ntmps145;go_wp2_with fail;refine q.out.mono ?_;rintro e O ⟨X,rfl,i,u⟩;have p:=Zh u;clear u q;by_cases g:t=0;case neg=>
  have U:(t != 0)=true:=by rw [bne_iff_ne];exact g
  have N:=d.out g;subst N;obtain rfl:K=0:=by rw [<-r.out];rfl
  clear i d;go_wp2;go_ret2;exact⟨_,_,rfl,Zl.nil _,p.out⟩
 subst g;obtain⟨ao,c,Y,rfl,C,J,I,G,H,F⟩:=i.2 rfl;clear i d;obtain⟨Q,W,P,B,V,z⟩:=Js C (k:=n) oz;simp only [zV] at B;obtain⟨rfl,M,rfl⟩:=B;clear M;rw [G] at z;have A:Zl O (.slice J f.length I) f:=⟨J,I,rfl,H,F⟩;have s:=Zh A;rw [r.out] at z s;have R:(n:Int)+1 - 1=(n:Int):=by omega
 have S:(n:Int)<(n:Int)+1:=by omega
 have T:(0:Int)<=(n:Int):=by omega
 clear A G H F C;go_wp2;go_ret2;exact⟨_,_,rfl,s.out,p.out⟩
theorem Qde:(Tryz.prog.info? 102).map (fun i=>(i.zero,i.size,i.bytes))=some (some (.agg #[.string ⟨#[]⟩,.int .i64 0,.int .u32 0,.int .u32 0,.bool false,.int .i64 0,.int .i64 0,.slice none 0 0,.int .i64 0,.int .u32 0,.int .u32 0,.bool false,.int .i64 0,.int .i64 0,.slice none 0 0,.slice none 0 0,.slice none 0 0,.int .i64 0]),18,200):=by kernel_rfl
def Xk(ps:Qi)(ol:List Nat):Qi:=ol.filterMap fun x=>ps[x]?
theorem Q3h{ps:Qi}:∀ {ol:List Nat},(∀ x∈ol,x<ps.length)->(Xk ps ol).length=ol.length
 | [],_=>rfl
 | x::ol,h=>by
  have hx:=h x zy;have:=Q3h (ps:=ps) (ol:=ol) fun y hy=>h y (by simp [hy]);unfold Xk at *;rw [List.filterMap_cons,List.getElem?_eq_getElem hx];simp [this]
theorem Q99{ps:Qi}{ol:List Nat}{k:Nat}(a:k<ol.length)(b:ol[k]<ps.length):Xk ps (ol.take (k+1))=Xk ps (ol.take k)++[ps[ol[k]]]:=by
 unfold Xk;rw [List.take_succ_eq_append_getElem a,List.filterMap_append];simp [List.getElem?_eq_getElem b]
theorem Q43{ps:Qi}{ol:List Nat}{p:Q5 × List Value}(h:p∈Xk ps ol):p∈ps:=by
 unfold Xk at h;obtain⟨b,_,a⟩:=List.mem_filterMap.1 h;exact List.mem_of_getElem? a
def Gr(ps:Qi)(ol:List Nat)(u v:Wd):Bool:=decide (Vn ((Xk ps ol).map (·.1)) u=0) && decide (Kg ((Xk ps ol).map (·.1)) u=v)
theorem Du{w:World}{ps:Qi}{lo:Option Addr}{n lc:Nat}{f2:Option Addr}{d f1:Nat}{ol:List Nat}{y:Option Addr}{t:Nat}{J:Option Addr}{I:Nat}{u v:Wd}(c6:Z5 w (.slice lo n lc) ps) (c8:ps.length=n) (i8:Rd w (.slice f2 d f1) d 1 (Qc ol)) (Q:ol.length=d) (d2:∀ x∈ol,x<n) (o2:d<=1000)
  (i5:Q6 w (.slice y u.length t) u) (E:Q6 w (.slice J v.length I) v) :
  Calls Tryz.prog 97 #[.slice lo n lc,.slice f2 d f1,.agg #[.slice y u.length t,.slice J v.length I]] w fun e w'=>e=.returned (.bool (Gr ps ol u v))/\Ext w w':=by
 have c7:=Q3h (ps:=ps) (ol:=ol) fun x h=>by rw [c8];exact d2 x h
 have B:=fun(V:World) (g:Option Addr) (i:Nat) (l:Ext w V) (O:Rd V (.slice g d i) d 18 ((Xk ps ol).flatMap (·.2)))=>Q5j (w:=V) (ps:=Xk ps ol) (lo:=g) (n:=d) (lc:=i) ⟨by rw [c7,Q];exact O,fun H hp=>(c6.2 H (Q43 hp)).ext l⟩ (by rw [c7,Q]) (i5.ext l);obtain⟨L,b5⟩:=zE (Vn ((Xk ps ol).map (·.1)) u);obtain⟨r,b6⟩:=zE (Kg ((Xk ps ol).map (·.1)) u);have i4:Gr ps ol u v=(decide (L=0) && decide (r=v)):=by unfold Gr;rw [b5,b6]
 simp only [b5,b6] at B;rw [i4];have P:=fun(V:World) (l:Ext w V) (g:Option Addr) (i:Nat) (h:Q6 V (.slice g r.length i) r)=>Qgq h (E.ext l);obtain⟨n6,b9⟩:=zE (decide (r=v));obtain⟨p5,R⟩:=zE r.length;simp only [b9,R] at P;simp only [R] at B;rw [b9];obtain⟨b2,c0⟩:=zE u.length;obtain⟨f0,d1⟩:=zE v.length;simp only [c0] at B;simp only [d1] at P;rw [c0,d1];obtain⟨f4,g1,f7,f8,f9,U,g4,n4⟩:=Zh8 B P c6 c8 i8 Q d2 R;clear B P c6 c8 i8 Q d2 i5 E b5 b6 i4 c7 c0 d1 b9 R;go_enter Tryz.func97,Tryz.ntmps97;go_upto_region 1 with (fail)
 obtain⟨j9,S⟩:=zE (w.alloc (.cells #[.slice y b2 t,.slice J f0 I] 105));have g8:Ext w j9:=by rw [<-S];exact(Q0.refl _ w).alloc _
 have b8:j9.heap[w.heap.size]?=some (.cells #[.slice y b2 t,.slice J f0 I] 105 (0,0)):=by rw [<-S];exact Q3 rfl
 rw [S];obtain⟨s,q⟩:=zE w.heap.size;rw [q] at b8 ⊢;obtain⟨l5,g5,f6⟩:=Zh3 q b8 g8;clear S g8 b8 q;go_wp2
 refine wp_loop (fun a f=>∃(c:Nat) (g:Option Addr) (i:Nat),c<=d/\a.defers=[]/\(a.tmps.size=42/\a.tmps.getD 0 undef=.slice lo n lc/\a.tmps.getD 1 undef=.slice f2 d f1/\a.tmps.getD 5 undef=.pointer (some ⟨s,0,none⟩)/\a.tmps.getD 7 undef=.slice g c i/\a.tmps.getD 8 undef=.int .i64 c)/\f.ownsRow (s+1) 102 18 (.slice g c i) c ((Xk ps (ol.take c)).flatMap (·.2))/\f.heap[s]?=some (.cells #[.slice y b2 t,.slice J f0 I] 105 (0,0))/\Ext w f)
  (fun a _=>((d:Int) - intOf (a.tmps.getD 8 undef)).toNat) ?_ ?_
 ·exact⟨0,_,_,by omega,rfl,⟨rfl,rfl,rfl,rfl,rfl,rfl⟩,World.ownsRow_nil _ _ _ _,g5.out,f6.out⟩
 clear g5 f6;rintro⟨n0,_⟩ f ⟨c,g,i,o1,l9,⟨j3,a7,a8,a9,b0,b1⟩,O,q,l⟩;subst l9;obtain⟨n1,j4⟩:=Qv j3;obtain⟨u,rfl⟩:∃ x,x=n1:=⟨_,rfl⟩;have m6:n0=#[u 0,u 1,u 2,u 3,u 4,u 5,u 6,u 7,u 8,u 9,u 10,u 11,u 12,u 13,u 14,u 15,u 16,u 17,u 18,u 19,u 20,u 21,u 22,u 23,u 24,u 25,u 26,u 27,u 28,u 29,u 30,u 31,u 32,u 33,u 34,u 35,u 36,u 37,u 38,u 39,u 40,u 41]:=j4;clear j4;subst m6;change u 0=_ at a7;change u 1=_ at a8;change u 5=_ at a9;change u 7=_ at b0;change u 8=_ at b1;rw [a7,a8,a9,b0,b1];clear a7 a8 a9 b0 b1 j3;obtain⟨o,p,k⟩:=Zh3 O q l;clear O q l;by_cases i6:c<d;case pos=>
  have g6:(c:Int)<(d:Int):=by omega
  have z:(0:Int)<=(c:Int):=by omega
  have c1:c<ol.length:=by rw [U.out];exact i6
  obtain⟨n8,o7,n7,i9,m1,A⟩:=Js (f9.out.ext k.out) i6;simp only [zV] at i9;obtain⟨rfl,m4,rfl⟩:=i9;have i7:(Qc ol).getD c undef=.int .i64 (ol[c]:Int):=by unfold Qc;rw [List.getD_eq_getElem?_getD,List.getElem?_map,List.getElem?_eq_getElem c1];rfl
  rw [i7] at A;have j6:ol[c]<n:=g4.out _ (List.getElem_mem c1);have T:ol[c]<ps.length:=by rw [f8.out];exact j6
  have G:=Q99 c1 T;obtain⟨l8,m7,l7,E,m0,F,C,N⟩:=(f7.out.ext k.out).at T;simp only [zV] at E;obtain⟨rfl,m5,rfl⟩:=E;obtain⟨x,d3⟩:=zE (ol[c]);simp only [d3] at A j6 G F C N;obtain⟨H,j0⟩:∃ H,ps[x]'(by rw [<-d3];exact T)=H:=⟨_,rfl⟩;rw [j0] at G F C N;obtain⟨o9,o8⟩:=H;dsimp only at G F C N;obtain⟨e3,d6,e8,d8,e1,a2,a4,e4,Y,a6,d7,e9,d9,e2,a3,a5,e5,Z,c2,d5,a0,d4,e7,a1,e6,e0,rfl,k4,l3,l4,k3,l2,l0,k6,k7,k8,k9,k5,p0,p1,p2,p3,p4⟩:=Zr C;have j2:(Xk ps (ol.take (c+1))).flatMap (·.2)=(Xk ps (ol.take c)).flatMap (·.2)++[.string e3,.int .i64 d6,.int .u32 (e8:Int),.int .u32 (d8:Int),.bool e1,.int .i64 a2,.int .i64 a4,.slice e4 Y a6,.int .i64 d7,.int .u32 (e9:Int),.int .u32 (d9:Int),.bool e2,.int .i64 a3,.int .i64 a5,.slice e5 Z c2,.slice d5 a0 d4,.slice e7 a1 e6,.int .i64 e0]:=by rw [G,List.flatMap_append];simp
  obtain⟨g3,g2,f3⟩:=Zh3 j2 F A;have o4:(0:Int)<=(x:Int):=by omega
  have o5:(x:Int)<(n:Int):=by omega
  have o3:=k.out.size;clear G j2 F C N j0 d3 T i7 m4 m5 m0 m1 l3 l4 k3 l2 k4 l0 k6 k7 k8 k9 k5;have i1:=Q7 o.out ((Q0.refl _ f).alloc (.cells #[.string e3,.int .i64 d6,.int .u32 (e8:Int),.int .u32 (d8:Int),.bool e1,.int .i64 a2,.int .i64 a4,.slice e4 Y a6,.int .i64 d7,.int .u32 (e9:Int),.int .u32 (d9:Int),.bool e2,.int .i64 a3,.int .i64 a5,.slice e5 Z c2,.slice d5 a0 d4,.slice e7 a1 e6,.int .i64 e0] 102));have g0:=Zh i1;have A:=f3.out;have o0:s+1<=f.heap.size:=by have:=(Array.getElem?_eq_some_iff.1 p.out).1;omega
  clear i1
  go_wp2_with (first | (at_builtin;refine Qk rfl (.tmp 17) (.tmp 25) 26 rfl (s+1) 102 _ 18 200 Tryz.underlying26 Qde rfl zd _ _ _ rfl g0.out ⟨f.heap.size,0,none⟩ 1 1 [.string e3,.int .i64 d6,.int .u32 (e8:Int),.int .u32 (d8:Int),.bool e1,.int .i64 a2,.int .i64 a4,.slice e4 Y a6,.int .i64 d7,.int .u32 (e9:Int),.int .u32 (d9:Int),.bool e2,.int .i64 a3,.int .i64 a5,.slice e5 Z c2,.slice d5 a0 d4,.slice e7 a1 e6,.int .i64 e0] rfl rfl (Qq rfl) ?c2 ?c3 ?c4 ?c5 ?_) | (refine Y5 (by rfl) 102 (.tmp 23) rfl l8 (m7+x*18) zr _ _ g2.out Tryz.underlying102 rfl kz ?_))
  case c2=>first | (repeat (first | rfl | refine⟨rfl,?_⟩)) | (intro p7 j7;simp only [List.mem_cons,List.not_mem_nil,or_false] at j7;rcases j7 with rfl | rfl | rfl | rfl | rfl | rfl | rfl | rfl | rfl | rfl | rfl | rfl | rfl | rfl | rfl | rfl | rfl | rfl <;> rfl)
  case c3=>unfold maxLen;omega
  case c4=>omega
  case c5=>first | omega | (simp;omega)
  intro n5 c5 n3 b4 i2 _;have b7:Q0 (fun b'=>(Value.slice g c i).ownBlock=some b') f n3:=Q0.trans (Q0.alloc (Q0.refl _ f) _) i2;have i0:=k.out.after b7 (fun b' g6 e=>by have:=(o.out.lt _ e).1;have:=l5.out;omega);have i3:=b7.heap p.out (fun e=>by have:=(o.out.lt _ e).1;omega);rw [<-g3.out] at b4;obtain⟨l1,k2,l6⟩:=Zh3 b4 i0 i3;clear b4 i0 i3 i2 b7 g0 o k g2 f3 p A g3;go_wp2;exact⟨⟨c+1,_,_,by omega,tz,⟨rfl,rfl,rfl,rfl,rfl,rfl⟩,l1.out,l6.out,k2.out⟩,mz⟩
 obtain rfl:c=d:=by omega
 have g6:¬ (c:Int)<(c:Int):=by omega
 have M:=zR p.out;have c9:=Rd.of_own o.out;rw [List.take_of_length_le (by rw [U.out];exact Nat.le_refl _)] at c9;have f5:=Zh (f4.out f g i k.out c9);clear c9 f4 f7 f8 f9 U g4 o;go_wp2_with fail;refine f5.out.mono ?_;rintro e n2 ⟨m9,m8,rfl,m3,b3⟩;obtain⟨o6,l7,j5,d0,m2⟩:=m3;simp only [zV] at j5;obtain⟨rfl,j8,rfl⟩:=j5;rw [<-j8] at d0;have X:=Zh (b3.keep p.out);have K:=Zh (k.out.trans b3);have j1:=g1.out n2 K.out m9 m8 d0;have W:=Zh j1;clear b3 f5 p k M g1 j1 d0 m2 j8;have M:=zR X.out;by_cases z:L=0
 ·subst z;go_wp2_with fail;refine W.out.mono ?_;rintro e p6 ⟨rfl,g9⟩;have k1:=Zh (K.out.trans g9);clear g9 W K M X;go_wp2;go_ret;exact⟨by simp,k1.out⟩
 ·have n9:(L == 0)=false:=by rw [beq_eq_false_iff_ne];exact z
  have g7:decide (L=0)=false:=decide_eq_false z;have k0:=Zh g7;clear W M X z g7;go_wp2;go_ret;exact⟨by rw [k0.out];simp,K.out⟩
def Zy(ps:Qi)(ol:List Nat)(qs:Q9):List Bool:=qs.map fun q=>Gr ps ol q.1.1 q.1.2
def Jk(ps:Qi)(ol:List Nat)(qs:Q9):Nat:=(Zy ps ol qs).findIdx fun b=>!b
def Mq(L:List Bool)(k:Nat):Prop:=∀ j (h:j<L.length),j<k->L[j]=true
theorem Qa1{L:List Bool}{k:Nat}(c:k<L.length)(h:Mq L k)(a:L[k]=false):L.findIdx (fun b=>!b)=k:=by
 rw [List.findIdx_eq c];exact⟨by simp [a],fun j hj=>by simp [h j oz hj]⟩
theorem Q7d{L:List Bool}{k:Nat}(e:L.length<=k)(h:Mq L k):L.findIdx (fun b=>!b)=L.length:=by
 apply List.findIdx_eq_length_of_false;intro f c;obtain⟨d,a,rfl⟩:=List.getElem_of_mem c;simp [h d a oz]
theorem Be{w:World}{ps:Qi}{qs:Q9}{lo:Option Addr}{n lc:Nat}{oo:Option Addr}{l oc:Nat}{ol:List Nat}{U:Option Addr}{m T:Nat}(b2:Z5 w (.slice lo n lc) ps) (b3:ps.length=n) (b4:Rd w (.slice oo l oc) l 1 (Qc ol)) (b5:ol.length=l) (c3:∀ x∈ol,x<n) (d2:l<=1000) (R:Z7 w (.slice U m T) qs) (y:qs.length=m) :
  Calls Tryz.prog 96 #[.slice lo n lc,.slice oo l oc,.slice U m T] w fun e w'=>e=.returned (.int .i64 (Jk ps ol qs:Nat))/\Ext w w':=by
 have d1:m<=maxLen:=by rw [<-y];exact R.1.2.1
 unfold maxLen at d1;have a8:=fun(V:World) (q:Ext w V) (O:Option Addr) (N:Nat) (X:Option Addr) (W:Nat) (d Y:Wd) (hf:Q6 V (.slice O d.length N) d) (g:Q6 V (.slice X Y.length W) Y)=>Du (b2.ext q) b3 (b4.ext q) b5 c3 d2 hf g;obtain⟨f,t⟩:=zE (Zy ps ol qs);have Q:f.length=m:=by rw [<-t];unfold Zy;rw [List.length_map,y]
 have a5:∀ c (k:c<qs.length),∃ h:c<f.length,f[c]=Gr ps ol qs[c].1.1 qs[c].1.2:=fun c k=>by subst t;exact⟨by unfold Zy;rw [List.length_map];exact k,by unfold Zy;rw [List.getElem_map]⟩
 have a9:Jk ps ol qs=f.findIdx fun b=>!b:=by unfold Jk;rw [t]
 rw [a9];obtain⟨s,u⟩:=zE (f.findIdx fun b=>!b);rw [u];have i:∀ c (k:c<f.length),Mq f c->f[c]=false->s=c:=fun c k h P=>by rw [<-u];exact Qa1 k h P
 have a7:Mq f m->s=m:=fun h=>by rw [<-u,Q7d oz h,Q]
 obtain⟨E,G,c4,e2,F,B,D⟩:=Zh7 a8 R y Q a5 i a7;clear a8 b2 b3 b4 b5 c3 R y t Q a5 a9 u i a7;go_enter Tryz.func96,Tryz.ntmps96;go_wp2
 refine wp_loop (fun a I=>∃(c:Nat),c<=m/\a.defers=[]/\(a.tmps.size=25/\a.tmps.getD 0 undef=.slice lo n lc/\a.tmps.getD 1 undef=.slice oo l oc/\a.tmps.getD 2 undef=.slice U m T/\a.tmps.getD 7 undef=.int .i64 c)/\Mq f c/\Ext w I)
  (fun a _=>((m:Int) - intOf (a.tmps.getD 7 undef)).toNat) ?_ ?_
 ·exact⟨0,by omega,rfl,⟨rfl,rfl,rfl,rfl,rfl⟩,fun j _ h=>by omega,Q0.refl _ _⟩
 rintro⟨d7,_⟩ I ⟨c,k,c7,⟨b8,J,K,L,M⟩,c0,q⟩;subst c7;obtain⟨d8,A⟩:=Qv b8;obtain⟨d,rfl⟩:∃ x,x=d8:=⟨_,rfl⟩;have d3:d7=#[d 0,d 1,d 2,d 3,d 4,d 5,d 6,d 7,d 8,d 9,d 10,d 11,d 12,d 13,d 14,d 15,d 16,d 17,d 18,d 19,d 20,d 21,d 22,d 23,d 24]:=A;clear A;subst d3;change d 0=_ at J;change d 1=_ at K;change d 2=_ at L;change d 7=_ at M;rw [J,K,L,M];clear J K L M b8;have p:=Zh c0;have o:=Zh q;clear c0 q;by_cases d0:c<m;case neg=>
  obtain rfl:c=m:=by omega
  have P:¬ (c:Int)<(c:Int):=by omega
  have S:=D.out p.out;subst S;clear E F B D G;go_wp2;go_ret;exact⟨rfl,o.out⟩
 have P:(c:Int)<(m:Int):=by omega
 have e5:(0:Int)<=(c:Int):=by omega
 have b1:c<qs.length:=by rw [c4.out];exact d0
 obtain⟨c9,a4⟩:=F.out c b1;obtain⟨c6,d6,e3,g,z,⟨d,Y,a6,A,d4⟩,d9⟩:=U9.at (Qg G.out o.out) b1;replace g:=g zd;obtain⟨g,c8⟩:=g;simp only [zV] at g;obtain⟨rfl,d5,rfl⟩:=g;rw [a6] at z;obtain⟨O,N,rfl,c1,e0⟩:=A;obtain⟨X,W,rfl,c2,e1⟩:=d4;have r:=E.out I o.out O N X W _ _ c1 c2;rw [<-a4] at r;obtain⟨a2,v⟩:=zE (f[c]);rw [v] at r;have i:=B.out c c9 p.out
 have b7:a2=true->Mq f (c+1):=fun h j hj hjk=>by
  by_cases e:j=c
  ·subst e;rw [v,h]
  ·exact p.out j hj oz
 rw [v] at i;obtain⟨e4,b0⟩:=zE (qs[c].1.1.length);obtain⟨e6,b9⟩:=zE (qs[c].1.2.length);rw [b0,b9] at r z;obtain⟨Z,a1,C,H⟩:=Zh4 r z i b7;clear r z i b7 v a4 d5 a6 c1 c2 d9 e0 e1 c8 b0 b9 E F B D G
 go_wp2_with (refine Y5 (by rfl) 105 (.tmp 18) rfl c6 (d6+c*2) zr _ _ a1.out Tryz.underlying105 rfl kz ?_)
 refine Z.out.mono ?_;rintro e e7 ⟨rfl,a3⟩;have a0:=Zh (o.out.trans a3);clear a3 Z a1 o;cases a2 with
 | true=>
  have b6:=H.out rfl;have c5:=Zh b6;clear b6 H C p;go_wp2;exact⟨⟨c+1,by omega,tz,⟨rfl,rfl,rfl,rfl,rfl⟩,c5.out,a0.out⟩,mz⟩
 | false=>
  have S:=C.out uz;subst S;clear H C p;go_wp2;go_ret;exact⟨rfl,a0.out⟩
def U3(ol:List Nat)(x:Nat):Int:=if ol.findIdx (· == x)<ol.length then(ol.findIdx (· == x):Nat) else -1
def Rw(ol:List Nat)(x k:Nat):Prop:=∀ j (h:j<ol.length),j<k->ol[j]≠x
theorem Qbb{ol:List Nat}{x k:Nat}(a:k<ol.length)(h:Rw ol x k)(b:ol[k]=x):U3 ol x=k:=by
 have:ol.findIdx (· == x)=k:=by
  rw [List.findIdx_eq a];exact⟨by simp [b],fun j hj=>by simp [h j oz hj]⟩
 unfold U3;rw [this,if_pos a]
theorem Q72{ol:List Nat}{x:Nat}(h:Rw ol x ol.length):U3 ol x=-1:=by
 have:ol.findIdx (· == x)=ol.length:=by
  apply List.findIdx_eq_length_of_false;intro d b;obtain⟨c,a,rfl⟩:=List.getElem_of_mem b;simp [h c a a]
 unfold U3;rw [this,if_neg oz]
theorem Tz{w:World}{oo:Option Addr}{c oc:Nat}{ol:List Nat}{x:Nat}(t:Rd w (.slice oo c oc) c 1 (Qc ol)) (u:ol.length=c) :
  Calls Tryz.prog 103 #[.slice oo c oc,.int .i64 (x:Int)] w fun e w'=>e=.returned (.int .i64 (U3 ol x))/\w'=w:=by
 have P:c<=maxLen:=t.2.1;unfold maxLen at P;obtain⟨i,k⟩:=zE (U3 ol x);rw [k];have d:∀ b (s:b<ol.length),Rw ol x b->ol[b]=x->i=b:=fun b s h r=>by rw [<-k];exact Qbb s h r
 have B:Rw ol x c->i=-1:=fun h=>by rw [<-k];exact Q72 (by rwa [u])
 obtain⟨p,K,m,o⟩:=Zh4 t u d B;clear t u k d B;go_enter Tryz.func103,Tryz.ntmps103;go_wp2
 refine wp_loop (fun a z=>∃(b:Nat),b<=c/\a.defers=[]/\gS a [0,1,5]=(19,[.slice oo c oc,.int .i64 (x:Int),.int .i64 b])/\Rw ol x b/\z=w)
  (fun a _=>((c:Int) - intOf (a.tmps.getD 5 undef)).toNat) ?_ ?_
 ·exact⟨0,by omega,rfl,rfl,fun j _ h=>by omega,rfl⟩
 rintro⟨W,_⟩ z ⟨b,s,N,I,J,M⟩;subst N;obtain⟨X,rfl⟩:=Qj I;clear I;have g:=Zh J;subst M;clear J;by_cases D:b<c;case neg=>
  obtain rfl:b=c:=by omega
  have r:¬ (b:Int)<(b:Int):=by omega
  have v:=o.out g.out;subst v;clear m o p;go_wp2;go_ret;exact⟨rfl,rfl⟩
 have r:(b:Int)<(c:Int):=by omega
 have U:(0:Int)<=(b:Int):=by omega
 have C:b<ol.length:=by rw [K.out];exact D
 obtain⟨T,V,S,F,O,A⟩:=Js (p.out) D;simp only [zV] at F;obtain⟨rfl,Q,rfl⟩:=F;have E:(Qc ol).getD b undef=.int .i64 (ol[b]:Int):=by unfold Qc;rw [List.getD_eq_getElem?_getD,List.getElem?_map,List.getElem?_eq_getElem C];rfl
 rw [E] at A;obtain⟨f,y⟩:=zE (ol[b]);have d:=m.out b C g.out
 have H:f≠x->Rw ol x (b+1):=fun h j hj hjk=>by
  by_cases e:j=b
  ·subst e;rw [y];exact h
  ·exact g.out j hj oz
 rw [y] at A d;have n:=Zh d;have q:=Zh H;clear d H y Q E O m o p g;by_cases l:f=x
 ·have v:=n.out l;subst v;have R:((f:Int) ==(x:Int))=true:=by rw [beq_iff_eq];omega
  clear n q l;go_wp2;go_ret;exact⟨rfl,rfl⟩
 ·have G:=q.out l;have R:((f:Int) ==(x:Int))=false:=by rw [beq_eq_false_iff_ne];omega
  have L:=Zh G;clear G q n l;go_wp2;exact⟨⟨b+1,by omega,tz,rfl,L.out,by first | trivial | rfl⟩,mz⟩
end Go.Proofs.YtfdlhlghcbeblaaGreatDoor
