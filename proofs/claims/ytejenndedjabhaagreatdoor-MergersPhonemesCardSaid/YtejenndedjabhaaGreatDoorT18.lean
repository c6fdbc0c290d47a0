/- ablautref08.Hit (printed by genrefhit.py). -/
import Derived.Test.YtejenndedjabhaaGreatDoorT14
import Derived.Test.YtejenndedjabhaaGreatDoorT17
import Derived.Test.YtejenndedjabhaaGreatDoorT13
set_option maxRecDepth 100000
set_option maxHeartbeats 16000000
namespace Go.Proofs.YtejenndedjabhaaGreatDoor
open Go.RowKit Go.Ab
attribute [local go_sem] Oper.semAt_some Y5 Z9
theorem Q0v{w:World}{cs:List Value}{l:Qg}{vo:Option Addr}{vn vc:Nat}{ws:Wd}(f9:Ye w l cs)(T:Qd w (.slice vo vn vc) ws) (R:ws.length=vn) (b:Nat) (k4:b<=ws.length+1) (g3:l.ifs.length+ws.length<=100000) :
  Calls Tryz.prog 192 #[.agg cs.toArray,.slice vo vn vc,.int .i64 b] w fun e w'=>e=.returned (.bool (Yh l ws b))/\Ext w w':=by
 rw [R] at k4 g3;obtain⟨g7,c9,d7,d1,d3,a6,a9,d5,a4,b2,d0,d8,d2,d4,a7,b0,d6,a5,b3,g5,f,U,g9,e8,g8,g6,rfl,j2,e5,e6,e2,k1,j9,j6,j7,u,j8,j5,m8,i0,W,i1,m9⟩:=Yf f9;rw [u.out] at g3
 have Z:Hid (∀ g,Ext w g->Calls Tryz.prog 202 #[.agg #[.int .i64 c9,.int .u32 (d7:Int),.int .u32 (d1:Int),.bool d3,.int .i64 a6,.int .i64 a9,.slice d5 a4 b2],.slice vo vn vc,.int .i64 b] g fun e w'=>∃ E,e=.returned (.tuple #[E,.int .i64 (Xr l.left ws b)])/\w'.ownsRow g.heap.size 3 1 E (Gk l.left ws b).length (Yn (Gk l.left ws b))/\Ext g w'):=
  Zh fun g hE=>Q5a (e5.out.ext hE) (T.ext hE) _
 have a1:Hid (∀ g,Ext w g->Calls Tryz.prog 203 #[.agg #[.int .i64 d0,.int .u32 (d8:Int),.int .u32 (d2:Int),.bool d4,.int .i64 a7,.int .i64 b0,.slice d6 a5 b3],.slice vo vn vc,.int .i64 ((b:Int)+(f:Int))] g fun e w'=>∃ E,e=.returned (.tuple #[E,.int .i64 (Xr l.right ws ((b:Int)+(f:Int)))])/\w'.ownsRow g.heap.size 3 1 E (Kz l.right ws ((b:Int)+(f:Int))).length (Yn (Kz l.right ws ((b:Int)+(f:Int))))/\Ext g w'):=
  Zh fun g hE=>Qab (e6.out.ext hE) (T.ext hE) _
 have e7:=Zh T;have e4:=Zh R;have c3:=fun(m:Yh l ws b=true)=>Ge m;rw [u.out,R] at c3;have f4:=fun(d:Nat) (f8:d<l.ifs.length) (m:Uv (ws.getD (b+d) (0,0)) (l.ifs.getD d (0,0))=false)=>Q86 f8 m;have I:=fun(J:b+l.ifs.length<=ws.length) (m:∀ d,d<l.ifs.length->Uv (ws.getD (b+d) (0,0)) (l.ifs.getD d (0,0))=true)=>Qaj (l:=l) (ws:=ws) J m;obtain⟨j3,i8,i6⟩:=Zh3 c3 f4 I;have i9:Hid (Nd l ws b=(!(Gk l.left ws (b:Int)).isEmpty && !(Kz l.right ws ((b:Int)+(f:Int))).isEmpty)):=Zh (by unfold Nd;rw [u.out,Int.natCast_add]);clear f9 T R j2 e5 e6 j9 j6 j7 j5 k1 j8 c3 f4 I;go_enter Tryz.func192,Tryz.ntmps192;go_upto_region 1 with (fail)
 obtain⟨d9,t⟩:=zE (w.alloc (.cells #[.string g7,.int .i64 c9,.int .u32 (d7:Int),.int .u32 (d1:Int),.bool d3,.int .i64 a6,.int .i64 a9,.slice d5 a4 b2,.int .i64 d0,.int .u32 (d8:Int),.int .u32 (d2:Int),.bool d4,.int .i64 a7,.int .i64 b0,.slice d6 a5 b3,.slice g5 f U,.slice g9 e8 g8,.int .i64 g6] 50));have f1:Ext w d9:=by rw [<-t];exact(Qa.refl _ w).alloc _
 have c2:d9.heap[w.heap.size]?=some (.cells #[.string g7,.int .i64 c9,.int .u32 (d7:Int),.int .u32 (d1:Int),.bool d3,.int .i64 a6,.int .i64 a9,.slice d5 a4 b2,.int .i64 d0,.int .u32 (d8:Int),.int .u32 (d2:Int),.bool d4,.int .i64 a7,.int .i64 b0,.slice d6 a5 b3,.slice g5 f U,.slice g9 e8 g8,.int .i64 g6] 50 (0,0)):=by rw [<-t];exact new_at rfl
 rw [t];obtain⟨Y,f0⟩:=zE w.heap.size;rw [f0] at c2 ⊢;have e3:=Zh c2;have z:=fun d=>cell_of_row _ _ d _ _ _ e3.out;clear t f0 c2;have l7:¬ (b:Int)<0:=by omega
 by_cases m3:vn<b+f
 ·have e9:(vn:Int)<(b:Int)+(f:Int):=by omega
  have f7:Yh l ws b=false:=by
   cases hh:Yh l ws b with
   | false=>rfl
   | true=>exact absurd (j3.out hh) oz
  have a2:=Zh f7;clear f7;go_wp2;go_ret;exact⟨by rw [a2.out];rfl,f1⟩
 have e9:¬ (vn:Int)<(b:Int)+(f:Int):=by omega
 go_wp2;clear z
 refine wp_loop (fun a g=>∃(d:Nat),d<=f/\a.defers=[]/\gS a [1,2,3,7,8]=(70,[.slice vo vn vc,.int .i64 b,.pointer (some ⟨Y,0,none⟩),.int .i64 f,.int .i64 d])/\(∀ k,k<d->Uv (ws.getD (b+k) (0,0)) (l.ifs.getD k (0,0))=true)/\Ext d9 g)
  (fun a _=>f - (intOf (a.tmps.getD 8 undef)).toNat) ?_ ?_
 ·exact⟨0,by omega,rfl,rfl,fun k J=>absurd J oz,Qa.refl _ _⟩
 rintro⟨X,_⟩ g ⟨d,f8,k7,g4,I,b6⟩;subst k7;obtain⟨E,rfl⟩:=Qo g4;clear g4;have e0:=Zh I;clear I;have C:=b6.keep e3.out;have H:=f1.trans b6;by_cases k8:d<f;case neg=>
  obtain rfl:f=d:=by omega
  have e9:¬ (f:Int)<(f:Int):=by omega
  have z:=fun d=>cell_of_row _ _ d _ _ _ C;have F:Hid (Yh l ws b=(!(Gk l.left ws (b:Int)).isEmpty && !(Kz l.right ws ((b:Int)+(f:Int))).isEmpty)):=Zh (by rw [i6.out (by rw [u.out,e4.out];omega) (by rw [u.out];exact e0.out),i9.out]);have j4:=Zh C;clear C;obtain⟨b1,f3⟩:=zE (Gk l.left ws (b:Int));obtain⟨b5,f6⟩:=zE (Kz l.right ws ((b:Int)+(f:Int)));rw [f3] at Z F;rw [f6] at a1 F;clear f3 f6;go_wp2_with fail;refine(Z.out g H).mono ?_;rintro e l2 ⟨k9,rfl,g1,n⟩;obtain⟨m6,l5,rfl,k5⟩:∃ p c,k9=.slice p b1.length c/\b1.length<=maxLen:=by
   obtain⟨i0,W,a8,b4,o,i1⟩:=Rd.of_own g1;exact⟨a8,b4,o,W⟩
  unfold maxLen at k5;clear g1;have f2:=H.trans n;have j1:=Zh (n.keep j4.out);have z:=fun d=>cell_of_row _ _ d _ _ _ j1.out;clear n;go_wp2_with fail;refine(a1.out l2 f2).mono ?_;rintro e n0 ⟨l0,rfl,g2,n⟩;obtain⟨m7,l6,rfl,k6⟩:∃ p c,l0=.slice p b5.length c/\b5.length<=maxLen:=by
   obtain⟨i0,W,a8,b4,o,i1⟩:=Rd.of_own g2;exact⟨a8,b4,o,W⟩
  unfold maxLen at k6;clear g2;have P:=f2.trans n;clear n z;have a0:=Zh P;clear Z a1 P;cases b1 with
  | nil=>
   have k2:¬ (0:Int)<(([]:List Nat).length:Int):=by simp
   go_wp2;go_ret;exact⟨by rw [F.out];simp,a0.out⟩
  | cons x r=>
   have k2:(0:Int)<((x::r).length:Int):=by rw [List.length_cons];omega
   cases b5 with
   | nil=>
    have B:¬ (0:Int)<(([]:List Nat).length:Int):=by simp
    go_wp2;go_ret;exact⟨by rw [F.out];simp,a0.out⟩
   | cons y q=>
    have B:(0:Int)<((y::q).length:Int):=by rw [List.length_cons];omega
    go_wp2;go_ret;exact⟨by rw [F.out];simp,a0.out⟩
 have l8:(d:Int)<(f:Int):=by omega
 have Q:d<l.ifs.length:=by rw [u.out];exact k8
 have c1:b+d<ws.length:=by rw [e4.out];omega
 obtain⟨A,D,l3,o,m1,L,M⟩:=(e2.out.ext H).at Q;simp only [zV] at o;obtain⟨rfl,c8,rfl⟩:=o;clear c8;obtain⟨B,V,l4,o,m2,N,O⟩:=(e7.out.ext H).at c1;simp only [zV] at o;obtain⟨rfl,c8,rfl⟩:=o;clear c8;obtain⟨b9,c0⟩:=e2.out.2.get d Q;obtain⟨t,c6⟩:=e7.out.2.get (b+d) c1;obtain⟨s,c4⟩:=zE (ws.getD (b+d) (0,0));obtain⟨X,c5⟩:=zE (l.ifs.getD d (0,0));obtain⟨v,b7⟩:=zE (Uv s X);have e1:Hid (Uv (ws.getD (b+d) (0,0)) (l.ifs.getD d (0,0))=v):=Zh (by rw [c4,c5];exact b7);rw [c4] at N O t c6;rw [c5] at L M b9 c0;have b8:=fun(i:World)=>Qhz (s:=s) (c:=X) ⟨t,c6⟩ ⟨b9,c0⟩ i;simp only [b7] at b8;obtain⟨i2,i3⟩:=s;obtain⟨i4,i5⟩:=X;dsimp only at L M N O;have f5:∀(i:World),Ext g i->i.cell? ⟨Y,15,none⟩=some (.slice (some ⟨A,D,none⟩) f U)/\i.cell? ⟨B,V+(b+d)*2,none⟩=some (.int .u32 (i2:Int))/\i.cell? ⟨B,V+(b+d)*2+1,none⟩=some (.int .u32 (i3:Int))/\i.cell? ⟨A,D+d*2,none⟩=some (.int .u32 (i4:Int))/\i.cell? ⟨A,D+d*2+1,none⟩=some (.int .u32 (i5:Int)):=by
  intro i G;exact⟨cell_of_row _ _ 15 _ _ _ (G.keep C),G.cell_some N id,G.cell_some O id,G.cell_some L id,G.cell_some M id⟩
 obtain⟨i7,a3,j0⟩:=Zh3 b8 f5 Q;have z:=cell_of_row _ _ 15 _ _ _ C;have l9:(b:Int)+(d:Int)<(vn:Int):=by omega
 have m0:(0:Int)<=(b:Int)+(d:Int):=by omega
 have m5:IntKind.i64.wrap ((b:Int)+(d:Int))=(b:Int)+(d:Int):=IntWalk.i64_in _ oz;have m4:((b:Int)+(d:Int)).toNat=b+d:=by omega
 clear b8 c4 c5 b7 b9 c0 t c6 L M N O f5 C Q c1;go_upto_region 7 with (fail)
 clear z;refine wp_region_held_drew (S:=fun i=>i.cell? ⟨Y,15,none⟩=some (.slice (some ⟨A,D,none⟩) f U)/\i.cell? ⟨B,V+(b+d)*2,none⟩=some (.int .u32 (i2:Int))/\i.cell? ⟨B,V+(b+d)*2+1,none⟩=some (.int .u32 (i3:Int))/\i.cell? ⟨A,D+d*2,none⟩=some (.int .u32 (i4:Int))/\i.cell? ⟨A,D+d*2+1,none⟩=some (.int .u32 (i5:Int))) kz (a3.out _ (Qa.drew (Qa.refl _ g))) ?_;intro j;refine tH 0 31 j ?_;refine tH 1 32 j ?_;refine tH 2 33 j ?_;refine tH 3 34 j ?_;refine tH 4 35 j ?_;refine tH 5 36 j ?_;refine tH 6 37 j ?_;refine tH 7 38 j ?_;refine tH 8 39 j ?_;refine tH 9 40 j ?_;refine tH 10 41 j ?_;refine rH [11] ?_;refine AllReadyH.cons rfl (fun K hK=>?_) AllReadyH.nil;refine iw rfl ?_;go_simp;refine(i7.out _).mono ?_;rintro e l1 ⟨rfl,n⟩;have c7:Ext g l1:=Qa.trans (Qa.drew (Qa.refl _ g)) n;refine hK.out _ _ (a3.out _ c7) (fun hS1=>?_);clear hK K n;refine tH 12 43 hS1 ?_;refine wpAnyH_done kz ?_ _;clear j hS1 a3;have P:=b6.trans c7;have k3:=H.trans c7;cases v
 ·have a2:=Zh (i8.out d j0.out e1.out);go_wp2;go_ret;exact⟨by rw [a2.out];rfl,k3⟩
 ·have g0:∀ k,k<d+1->Uv (ws.getD (b+k) (0,0)) (l.ifs.getD k (0,0))=true:=by
   intro k J;rcases Nat.lt_succ_iff_lt_or_eq.1 J with m | m
   ·exact e0.out k m
   ·rw [m];exact e1.out
  have k0:=Zh g0;clear g0;go_wp2;exact⟨⟨d+1,by omega,tz,rfl,k0.out,P⟩,nz⟩
def Pn(t:List (Nat × Wd)):Int:=if Xy t=true then 11 else 0
def Sm(t:List (Nat × Wd)):List (Nat × Wd):=if Xy t=true then [] else t
theorem Q2u{a:List (Nat × Wd)} (h:Xy a=false):Pn a=0/\Sm a=a:=by unfold Pn Sm;rw [h];exact⟨rfl,rfl⟩
theorem Q13{t b rest:List (Nat × Wd)} {x:Nat × Wd} (h:t=b++x::rest) (a:32<x.2.length):Pn t=11/\Sm t=[]:=by
 have:Xy t=true:=by
  rw [h];unfold Xy;rw [List.any_append,List.any_cons,decide_eq_true a];simp
 unfold Pn Sm;rw [this];exact⟨rfl,rfl⟩
theorem Tj{a:List (Nat × Wd)} {x:Nat × Wd} (h:Xy a=false) (b:x.2.length<=32):Xy (a++[x])=false:=by
 unfold Xy at h ⊢;rw [List.any_append,h];simp;omega
theorem Tryz.infoW2:(Tryz.prog.info? 23).map (fun i=>(i.zero,i.size,i.bytes))=some (some (.slice none 0 0),1,24):=by kernel_rfl
theorem Qb6{w:World}{vo:Option Addr}{vc:Nat}{ws:Wd}(hv:Qd w (.slice vo ws.length vc) ws):Zy (fun g=>g<w.heap.size) (.slice vo ws.length vc):=fun g o n c e h0=>by
 obtain⟨_,_,ao,cap,q,h3⟩:=hv.1;rw [q] at e;cases e;cases q;obtain⟨g',o',q1,q2,_⟩:=h3 h0;cases q1;exact q2
def Qdi(v:Value):Nat:=match v with | .slice _ n _=>n | _=>0
theorem Qc6{w:World}{l:Qg}{cs:List Value}{vo:Option Addr}{vc:Nat}{ws:Wd}(a0:Ye w l cs)(b8:Qd w (.slice vo ws.length vc) ws) (Z:ws.length<=vc) (n1:Yd l=true) (n5:l.mode=2) (b9:ws.length<=32) :
  Calls Tryz.prog 179 #[.agg cs.toArray,.slice vo ws.length vc] w fun e w'=>∃ u v,e=.returned (.tuple #[u,v,.int .i64 (Pn (Z2 l ws))])/\Ub w.heap.size w' u v (Sm (Z2 l ws))/\Ext w w':=by
 obtain⟨s0,s2,m9,_,m7,_,_,_⟩:=Ki n1;have m8:=fun(I:World) (J:Ext w I) (f:Wd) (p:Option Addr) (d j:Nat) (t:f.length=d) (r:Qd I (.slice p d j) f) (Y:d<=32) (i:Nat) (hi:i<=d)=>Q0v (a0.ext J) r t i oz oz;have o0:=fun(I:World) (J:Ext w I) (f:Wd) (p:Option Addr) (d j:Nat) (t:f.length=d) (r:Qd I (.slice p d j) f) (Z:d<=j) (Y:d<=32) (i:Nat) (hi:Yh l f i=true)=>Cf (a0.ext J) r t Z i (by rw [<-t];exact Ge hi) m7 oz oz;have f3:=Qb6 b8
 have n6:∀(f:Wd) (i:Nat),Zs f->Zs (Yq l f i):=fun f i r=>by
  obtain⟨_,_,_,_,_,_,_,_,_,s3⟩:=a0;unfold Yq Wj;intro a4 s;rw [List.mem_append,List.mem_append] at s;rcases s with (s | s) | s
  ·exact r a4 (List.mem_of_mem_take s)
  ·exact Ll (fun a4 s=>r a4 (List.mem_of_mem_drop (List.mem_of_mem_take s))) s3.2 a4 s
  ·exact r a4 (List.mem_of_mem_drop s)
 obtain⟨p7,p0,q2,p2,p5,k1,k3,p8,j9,k5,p1,q3,p3,p6,k2,k4,p9,k0,c2,o9,E,o8,q1,b0,q0,p4,rfl,q8,r3,r4,q6,L,t0,s8,s9,T,d6,s7,u2,u3,u4,u5,u6⟩:=Yf a0;obtain⟨t1,f0⟩:=zE (Z2 l ws);rw [f0];have o1:Uw l ws [] ws 0:=Uw.start n5;rw [T.out] at s0 m9;rw [d6.out] at s2 m9;obtain⟨s6,g3⟩:=zE ws.length;rw [g3] at b8 Z f3 b9 ⊢;have s5:=b9;obtain⟨q5,r5,i4,r2,j2,j1,j5,j8⟩:=Zh8 m8 o0 f3 n6 f0 o1 b8 g3;clear a0 b8 m8 o0 f3 n6 f0 o1 m7 n1 n5 q6 L r3 r4 q8 g3;go_enter Tryz.func179,Tryz.ntmps179;go_upto_region 1 with (fail)
 obtain⟨a5,a1⟩:=zE (w.alloc (.cells #[.string p7,.int .i64 p0,.int .u32 (q2:Int),.int .u32 (p2:Int),.bool p5,.int .i64 k1,.int .i64 k3,.slice p8 j9 k5,.int .i64 p1,.int .u32 (q3:Int),.int .u32 (p3:Int),.bool p6,.int .i64 k2,.int .i64 k4,.slice p9 k0 c2,.slice o9 E o8,.slice q1 b0 q0,.int .i64 p4] 50));have l0:Ext w a5:=by rw [<-a1];exact(Qa.refl _ w).alloc _
 have b4:a5.heap[w.heap.size]?=some (.cells #[.string p7,.int .i64 p0,.int .u32 (q2:Int),.int .u32 (p2:Int),.bool p5,.int .i64 k1,.int .i64 k3,.slice p8 j9 k5,.int .i64 p1,.int .u32 (q3:Int),.int .u32 (p3:Int),.bool p6,.int .i64 k2,.int .i64 k4,.slice p9 k0 c2,.slice o9 E o8,.slice q1 b0 q0,.int .i64 p4] 50 (0,0)):=by rw [<-a1];exact new_at rfl
 have g1:a5.heap.size=w.heap.size+1:=by rw [<-a1];simp
 rw [a1];obtain⟨C,e5⟩:=zE w.heap.size;rw [e5] at b4 g1 ⊢;obtain⟨q7,i1,e0⟩:=Zh3 b4 e5 g1;have l9:=j5.out.ext l0;have j6:=Zh l9;have r7:=cell_of_row _ _ 15 _ _ _ b4;clear a1 e5 b4 g1 l9 j5;go_wp2
 refine wp_loop (fun a P=>∃(i:Nat) (G:List (Nat × Wd)) (f:Wd) (d:Nat) (p:Option Addr) (j:Nat) (c:Nat) (z B:Option Addr) (y A:Nat) (g6:List Value),a.defers=[]/\gS a [1,2,7,8,9,10]=(53,[.slice p d j,.pointer (some ⟨C,0,none⟩),.slice z c y,.slice B c A,.int .i64 E,.int .i64 i]) /\
   (Uw l ws G f i)/\Xy G=false/\f.length=d/\d<=32/\G.length=c/\Qd P (.slice p d j) f/\d<=j/\Jf P (.slice z c y) (.slice B c A) (.slice p d j)/\TrP (C+1) P (.slice z c y) (.slice B c A) g6 G/\Ext a5 P)
  (fun a _=>Qdi (a.tmps.getD 1 undef)+2 - (intOf (a.tmps.getD 10 undef)).toNat) ?_ ?_
 ·exact⟨0,[],ws,s6,vo,vc,0,none,none,0,0,[],rfl,rfl,j1.out,rfl,j8.out,b9,rfl,j6.out,Z,i4.out.mono fun g hg=>⟨by have:=e0.out;have:=i1.out;omega,(fun e=>by cases e),(fun e=>by cases e)⟩,TrP.nil _ _,Qa.refl _ _⟩
 clear j1 j6 i4 r7 Z b9;rintro⟨u8,_⟩ I ⟨i,G,f,d,p,j,c,z,B,y,A,g6,r9,o2,b3,n3,o5,Y,o3,o7,r,m0,l3,J⟩;subst r9;obtain⟨u,rfl⟩:=Qo o2;clear o2;have d0:=Zh (J.keep q7.out);have e8:=l0.trans J;have t7:c<=33:=by obtain⟨_,t5,_,_⟩:=b3;have:=j8.out;have:=s5;omega
 have t8:i<=33:=by obtain⟨_,_,_,t6⟩:=b3;omega
 obtain⟨S,a6,O,U,e3,g7,d8⟩:=Zh7 b3 n3 o5 o3 o7 m0 l3;clear b3 n3 o5 o3 o7 m0 l3;by_cases m6:i+E<=d;case neg=>
  have k6:¬ ((i:Int)+(E:Int)<=(d:Int)):=by omega
  have m5:=S.out.done (by rw [O.out,T.out];omega);rw [j2.out] at m5;subst m5;obtain⟨W,X⟩:=Q2u a6.out;have F:=d8.out.out;rw [<-X] at F;have c8:=Zh W;have r1:=Zh F;clear W X F m6;go_wp2;exact bodyPost_ret (Uo rfl _ _ _) rfl ⟨_,_,by rw [c8.out];rfl,r1.out.base (by have:=i1.out;omega),e8⟩
 have k6:(i:Int)+(E:Int)<=(d:Int):=by omega
 have f2:=q5.out I e8 f p d j O.out e3.out Y i oz;obtain⟨g4,f7⟩:=zE (Yh l f i);rw [f7] at f2;have i3:=Zh f2;have a8:=Zh f7;clear f2 f7
 go_wp2_with (refine wpList_load_row rfl 50 (.tmp 2) rfl C rfl _ _ _ _ d0.out Tryz.underlying50 rfl Tryz.lawInfo ?_)
 refine i3.out.mono ?_;rintro e P ⟨rfl,m⟩;have e9:=e8.trans m;have e6:=J.trans m;obtain⟨d1,a9,g9,d9⟩:=Zh4 (m.keep d0.out) (e3.out.ext m) (g7.out.ext m) (d8.out.ext m);clear m d0 e3 g7 d8 i3;cases g4
 ·have n4:=S.out.miss (by rw [O.out,T.out];exact m6) a8.out;have r0:=Zh n4;clear n4 S;go_wp2;exact⟨⟨i+1,G,f,d,p,j,c,z,B,y,A,g6,tz,rfl,r0.out,a6.out,O.out,Y,U.out,a9.out,r,g9.out,d9.out,e6⟩,by simp [intOf,Qdi];omega⟩
 obtain⟨b5,u7,b7⟩:=S.out.hit a8.out;have f8:=Ga (Ge a8.out);have b6:=r5.out P e9 f p d j O.out a9.out r Y i a8.out;have g0:=r2.out f i a9.out.2;rw [O.out,T.out,d6.out] at f8;rw [T.out,d6.out] at b5;obtain⟨o,n9⟩:=zE (Yq l f i);rw [n9] at b5 b7 f8 b6 g0;obtain⟨H,f9⟩:=zE o.length;rw [f9] at f8 b6;rw [j2.out] at b7;obtain⟨i6,j0,i9,r6,N⟩:=Zh5 b5 b7 b6 g0 f9;clear b5 b7 b6 g0 n9 f9 S
 go_wp2_with (refine wpList_load_row rfl 50 (.tmp 2) rfl C rfl _ _ _ _ d1.out Tryz.underlying50 rfl Tryz.lawInfo ?_)
 refine i9.out.mono ?_;rintro e q ⟨x,rfl,F,m⟩;have l2:=e9.trans m;have e7:=e6.trans m;have q9:=Zh (m.keep d1.out);have M:=Zh (d9.out.ext m);obtain⟨a3,a2,rfl⟩:=Zg F;have t9:=(Ho F).1;have n7:Qy q (.slice a3 H a2) o:=by
  have k7:=F;rw [<-N.out] at k7 ⊢;exact Qy.own k7 r6.out
 have m1:Jf q (.slice z c y) (.slice B c A) (.slice a3 H a2):=Jf.own M.out.ou M.out.ov F zd zd;have i7:=Zh n7;have g8:=Zh m1;clear n7 m1 F m d1 d9 g9 a9 i9 e9 e6;by_cases r8:32<H
 ·have k6:(32:Int)<(H:Int):=by omega
  obtain⟨W,X⟩:=Q13 j0.out (show 32<o.length by rw [N.out];exact r8);have c8:=Zh W;have q4:=Zh X;clear W X;go_wp2;exact bodyPost_ret (Uo rfl _ _ _) rfl ⟨_,_,by rw [c8.out];rfl,by rw [q4.out];exact Ub.nil _ _,l2⟩
 have t4:¬ ((32:Int)<(H:Int)):=by omega
 have n2:=Tj a6.out (x:=(i,o)) (by show o.length<=32;rw [N.out];omega);have i5:=Zh n2;have f5:=M.out.ou;have f6:=M.out.ov;rw [U.out] at f5 f6;have L:=Zh f5;have a7:=Zh f6;have u0:C+1<=q.heap.size:=by have:=e7.size;have:=e0.out;omega
 clear n2 f5 f6 a6 j0
 go_wp2_with (at_builtin;refine Ze rfl (.tmp 34) (.tmp 36) 36 rfl (C+1) 3 _ 1 8 Tryz.underlying36 Tryz.infoI rfl zd _ _ _ rfl (Qe L.out ((Qa.refl _ q).alloc _)) ⟨q.heap.size,0,none⟩ 1 1 [.int .i64 i] rfl rfl (Zf rfl) ?c2 ?c3 ?c4 ?c5 ?_)
 case c2=>first | rfl | (intro u t;simp at t;rcases t with rfl;rfl)
 case c3=>unfold maxLen;omega
 case c4=>omega
 case c5=>first | omega | (simp;omega)
 intro b1 c6 V l7 l5 k8;have c1:Qa (fun b=>(Value.slice z c y).ownBlock=some b) q V:=Qa.trans ((Qa.refl _ q).alloc _) l5;have o6:=Qs a7.out c1 (fun g hg e=>Ur L.out a7.out zd g e hg);have m3:(Value.slice b1 (c+1) c6).ownBlock=(Value.slice z c y).ownBlock\/∃ k,q.heap.size<=k/\(Value.slice b1 (c+1) c6).ownBlock=some k:=k8.imp id fun e=>⟨_,by first | omega | simp | (simp;omega),e⟩;obtain⟨e1,e2,j3,i2⟩:=Zh4 l7 o6 c1 m3;have u1:=c1.size;clear l7 l5 k8 c1 o6 m3
 go_wp2_with (at_builtin;refine Ze rfl (.tmp 38) (.tmp 40) 74 rfl (C+1) 23 _ 1 24 Tryz.underlying74 Tryz.infoW2 rfl zd _ _ _ rfl (Qe e2.out ((Qa.refl _ V).alloc _)) ⟨V.heap.size,0,none⟩ 1 1 [.slice a3 H a2] rfl rfl (Zf rfl) ?d2 ?d3 ?d4 ?d5 ?_)
 case d2=>first | rfl | (intro u t;simp at t;rcases t with rfl;rfl)
 case d3=>unfold maxLen;omega
 case d4=>omega
 case d5=>first | omega | (simp;omega)
 intro b2 c7 e4 l8 l6 k9;have g5:Qa (fun b=>(Value.slice B c A).ownBlock=some b) V e4:=Qa.trans ((Qa.refl _ V).alloc _) l6;have c0:Qa (fun b=>(Value.slice z c y).ownBlock=some b\/(Value.slice B c A).ownBlock=some b) q e4:=(j3.out.mono fun b _ e=>.inl e).trans (g5.mono fun b _ e=>.inr e);have m4:(Value.slice b2 (c+1) c7).ownBlock=(Value.slice B c A).ownBlock\/∃ k,q.heap.size<=k/\(Value.slice b2 (c+1) c7).ownBlock=some k:=k9.imp id fun e=>⟨_,by first | omega | (simp;omega),e⟩;have o4:=Qs e1.out g5 (fun g hg e=>Ur e1.out e2.out zd g hg e);obtain⟨l4,s4,m2⟩:=M.out.push (i:=i) i7.out g8.out (by rw [U.out];exact o4) (by rw [U.out];exact l8) c0 i2.out m4
 have f4:∀ b,b<C+1->¬ ((Value.slice z c y).ownBlock=some b\/(Value.slice B c A).ownBlock=some b):=fun b hb e=>by
  rcases e with e | e
  ·have:=(L.out.lt _ e).1;omega
  ·have:=(a7.out.lt _ e).1;omega
 have l1:Ext a5 e4:=e7.after c0 (fun b hb e=>f4 b (by have:=e0.out;omega) e);have n0:=c0.heap q9.out (f4 C oz);have t3:=cell_of_row _ _ 16 _ _ _ n0;obtain⟨t2,c5,n8,g2,f1⟩:=s4;rw [N.out] at n8 g2 f1;cases n8;obtain⟨i8,j7,i0⟩:=Zh3 l4 g2 m2;have j4:Hid ((G++[(i,o)]).length=c+1):=Zh (by rw [List.length_append,U.out];rfl);clear l4 g2 m2 n0 l8 l6 k9 g5 c0 m4 o4 f4 e1 e2 j3 i2 M g8 i7 L a7 e7 l2;by_cases Q:E=0
 ·have K:=i6.out;rw [if_pos Q] at K;have d7:=Zh K;have s1:((E:Int) == 0)=true:=by simp;omega
  have c9:=Zh Q;clear K Q;go_wp2;exact⟨⟨i+b0+1,G++[(i,o)],o,H,a3,a2,c+1,b1,b2,c6,c7,_,tz,(Prod.ext rfl (lE rfl (lE rfl (lE rfl (lE rfl (lE rfl (lE (by first | rfl | (simp;done) | (push_cast;rfl)) rfl))))))),d7.out,i5.out,N.out,by omega,j4.out,j7.out,f1,i0.out,i8.out,l1⟩,by have:=c9.out;simp [intOf,Qdi];omega⟩
 ·have K:=i6.out;rw [if_neg Q,Nat.add_zero] at K;have d7:=Zh K;have s1:((E:Int) == 0)=false:=by simp;omega
  have c9:=Zh Q;clear K Q;go_wp2;exact⟨⟨i+b0,G++[(i,o)],o,H,a3,a2,c+1,b1,b2,c6,c7,_,tz,(Prod.ext rfl (lE rfl (lE rfl (lE rfl (lE rfl (lE rfl (lE (by first | rfl | (simp;done) | (push_cast;rfl)) rfl))))))),d7.out,i5.out,N.out,by omega,j4.out,j7.out,f1,i0.out,i8.out,l1⟩,by have:=c9.out;simp [intOf,Qdi];omega⟩
def Off(dv:Value)(vals:List Value):Prop:=∀ x∈vals,Zy (fun g=>dv.ownBlock≠some g) x
theorem Off.same{dv dv':Value}{vals:List Value}{W:World}(h:Off dv vals)(hk:∀ x∈vals,Zy (fun g=>g<W.heap.size) x) (hb:dv'.ownBlock=dv.ownBlock\/∃ k,W.heap.size<=k/\dv'.ownBlock=some k):Off dv' vals:=fun x hx g o n c e h0=>by
 rcases hb with hb | ⟨k,h1,h2⟩
 ·rw [hb];exact h x hx g o n c e h0
 ·rw [h2];intro q;cases q;have:=hk x hx g o n c e h0;omega
theorem TrP.low{b:Nat}{W:World}{u v:Value}{vals:List Value}{tr:List (Nat × Wd)} (h:TrP b W u v vals tr):∀ x∈vals,Zy (fun g=>g<W.heap.size) x:=fun x hx=>(h.wk x hx).mono fun _ hg=>hg.1
theorem TrP.turn{b:Nat}{A B:World}{u v dv:Value}{vals:List Value}{tr:List (Nat × Wd)} {b3 n3:Nat} {x3:List Value} (h:TrP b A u v vals tr) (hd:A.ownsRow b3 26 2 dv n3 x3) (ht:Qa (fun g=>dv.ownBlock=some g) A B) (ho:Off dv vals):TrP b B u v vals tr:=
 ⟨Qs h.ou ht (fun g hg e=>Ur h.ou hd zd g hg e),Qs h.ov ht (fun g hg e=>Ur h.ov hd zd g hg e),h.wd.keepS (S:=fun g=>dv.ownBlock≠some g) (ht.mono fun _ _ e hn=>hn e) ho,fun x hx=>(h.wk x hx).mono fun g hg=>⟨Nat.lt_of_lt_of_le hg.1 ht.size,hg.2⟩⟩
theorem Q8j{ws:Wd}{i:Nat}(h:i<ws.length):(ws.drop i).take 1=[ws.getD i (0,0)]:=by
 rw [List.drop_eq_getElem_cons h,List.getD_eq_getElem?_getD,List.getElem?_eq_getElem h];rfl
theorem Q4u{ws:Wd}{i:Nat}(h:ws.length<=i):(ws.drop i).take 1=[]:=by rw [List.drop_of_length_le h];rfl
theorem Qi1{w:World}{l:Qg}{cs:List Value}{vo:Option Addr}{vc:Nat}{ws:Wd}(i6:Ye w l cs)(j0:Qd w (.slice vo ws.length vc) ws) (z5:ws.length<=vc) (A7:Yd l=true) (B4:l.mode=1) (H7:ws.length<=32) :
  Calls Tryz.prog 178 #[.agg cs.toArray,.slice vo ws.length vc] w fun e w'=>∃ u v,e=.returned (.tuple #[u,v,.int .i64 (Pn (Z2 l ws))])/\Ub w.heap.size w' u v (Sm (Z2 l ws))/\Ext w w':=by
 obtain⟨G9,B2,A6,_,A3,_,_,_⟩:=Ki A7;have q0:=fun(e8:World) (a0:Ext w e8) (i:Nat) (hi:i<=ws.length)=>Q0v (i6.ext a0) (j0.ext a0) rfl i oz oz;have l3:=fun(e8:World) (a0:Ext w e8) (v:Value) (cut:Wd) (hc:Qd e8 v cut) (Q:cut.length=l.ifs.length)=>Q54 (i6.ext a0) hc (by rw [Q];exact A3) oz
 have B9:∀(cut:Wd),Zs cut->Zs (Xn l cut):=fun cut hc=>by
  obtain⟨_,_,_,_,_,_,_,_,_,H1⟩:=i6;exact Ll hc H1.2
 have C6:Lb l ws [] [] 0:=Lb.start B4;have q7:=Xm l;obtain⟨s5,r8,t0,s0,s3,n0,n2,s6,m7,U,r9,t1,s1,s4,n1,n3,s7,m8,c2,r7,f,r6,s9,o,s8,s2,rfl,E1,F1,F3,D9,e2,J1,I9,J0,g0,u3,I8,K8,K9,L0,L1,L2⟩:=Yf i6;obtain⟨J4,p0⟩:=zE (Z2 l ws);rw [p0];rw [g0.out] at G9 A6 l3;rw [u3.out] at B2 A6 q7 l3;obtain⟨F,r3⟩:=zE ws.length;have e7:=Zh j0;have j4:=Zh z5;rw [r3] at j0 z5 H7 q0 ⊢;obtain⟨D8,F4,E9,v1,v0,J3,B,F2⟩:=Zh8 q0 l3 B9 p0 C6 j0 r3 q7;clear i6 j0 q0 l3 B9 p0 C6 A3 A7 B4 D9 e2 F1 F3 E1 r3 q7;go_enter Tryz.func178,Tryz.ntmps178;go_upto_region 1 with (fail)
 obtain⟨a6,j1⟩:=zE (w.alloc (.cells #[.string s5,.int .i64 r8,.int .u32 (t0:Int),.int .u32 (s0:Int),.bool s3,.int .i64 n0,.int .i64 n2,.slice s6 m7 U,.int .i64 r9,.int .u32 (t1:Int),.int .u32 (s1:Int),.bool s4,.int .i64 n1,.int .i64 n3,.slice s7 m8 c2,.slice r7 f r6,.slice s9 o s8,.int .i64 s2] 50));have g8:Ext w a6:=by rw [<-j1];exact(Qa.refl _ w).alloc _
 have q1:a6.heap[w.heap.size]?=some (.cells #[.string s5,.int .i64 r8,.int .u32 (t0:Int),.int .u32 (s0:Int),.bool s3,.int .i64 n0,.int .i64 n2,.slice s6 m7 U,.int .i64 r9,.int .u32 (t1:Int),.int .u32 (s1:Int),.bool s4,.int .i64 n1,.int .i64 n3,.slice s7 m8 c2,.slice r7 f r6,.slice s9 o s8,.int .i64 s2] 50 (0,0)):=by rw [<-j1];exact new_at rfl
 have q9:a6.heap.size=w.heap.size+1:=by rw [<-j1];simp
 rw [j1];obtain⟨r,o0⟩:=zE w.heap.size;rw [o0] at q1 q9 ⊢;obtain⟨E0,D6,e6⟩:=Zh3 q1 o0 q9;clear j1 o0 q1 q9;go_wp2
 refine wp_loop (fun a C=>∃(i:Nat) (N:List (Nat × Wd)) (d:Wd) (g p:Nat) (a2 W Z:Option Addr) (a1 V Y:Nat) (d6:List Value),a.defers=[]/\(a.tmps.size=88/\a.tmps.getD 1 undef=.slice vo F vc/\a.tmps.getD 2 undef=.pointer (some ⟨r,0,none⟩)/\a.tmps.getD 7 undef=.slice a2 p a1/\a.tmps.getD 8 undef=.slice W p V/\a.tmps.getD 9 undef=.slice Z g Y/\a.tmps.getD 10 undef=.int .i64 i)/\Lb l ws N d i/\Xy N=false/\d.length=g/\N.length=p/\C.ownsRow (r+1) 26 2 (.slice Z g Y) g (Z3 d)/\Zs d/\Off (.slice Z g Y) d6/\TrP (r+1) C (.slice a2 p a1) (.slice W p V) d6 N/\Ext a6 C)
  (fun a _=>F+1 - (intOf (a.tmps.getD 10 undef)).toNat) ?_ ?_
 ·exact⟨0,[],[],0,0,none,none,none,0,0,0,[],rfl,⟨rfl,rfl,rfl,rfl,rfl,rfl,rfl⟩,v0.out,rfl,rfl,rfl,World.ownsRow_nil _ _ _ _,(by simp [Zs]),(fun x hx=>by cases hx),TrP.nil _ _,Qa.refl _ _⟩
 clear v0;rintro⟨t,_⟩ e8 ⟨i,N,d,g,p,a2,W,Z,a1,V,Y,d6,G8,⟨C7,n4,n6,n7,n8,n9,n5⟩,i3,A9,p6,r1,z7,A2,B8,x8,a0⟩;subst G8;obtain⟨I3,b1⟩:=Qq C7;obtain⟨u,rfl⟩:∃ x,x=I3:=⟨_,rfl⟩;have H6:t=#[u 0,u 1,u 2,u 3,u 4,u 5,u 6,u 7,u 8,u 9,u 10,u 11,u 12,u 13,u 14,u 15,u 16,u 17,u 18,u 19,u 20,u 21,u 22,u 23,u 24,u 25,u 26,u 27,u 28,u 29,u 30,u 31,u 32,u 33,u 34,u 35,u 36,u 37,u 38,u 39,u 40,u 41,u 42,u 43,u 44,u 45,u 46,u 47,u 48,u 49,u 50,u 51,u 52,u 53,u 54,u 55,u 56,u 57,u 58,u 59,u 60,u 61,u 62,u 63,u 64,u 65,u 66,u 67,u 68,u 69,u 70,u 71,u 72,u 73,u 74,u 75,u 76,u 77,u 78,u 79,u 80,u 81,u 82,u 83,u 84,u 85,u 86,u 87]:=b1;clear b1;subst H6;change u 1=_ at n4;change u 2=_ at n6;change u 7=_ at n7;change u 8=_ at n8;change u 9=_ at n9;change u 10=_ at n5;rw [n4,n6,n7,n8,n9,n5];clear n4 n6 n7 n8 n9 n5 C7;have m0:=Zh (a0.keep E0.out);have k8:=g8.trans a0;have G6:p<=33:=by obtain⟨_,_,a9,_⟩:=i3;have:=B.out;omega
 have K2:i<=F+1:=by obtain⟨_,_,_,J8⟩:=i3;have:=B.out;omega
 have p7:i<=F->g<=232:=fun hi=>by
  obtain⟨_,a9,w1,_⟩:=i3;have a9:=a9 (by rw [B.out];exact hi);rw [p6,g0.out,u3.out] at a9;have:=few (t:=N.length) (n:=33) (m:=o) (by rw [r1];exact G6) B2 oz;omega
 obtain⟨u1,f7,f9,j6,b7,t9,j7,e1⟩:=Zh8 p7 i3 A9 p6 r1 z7 A2 B8;have m3:=Zh x8;clear p7 i3 A9 p6 r1 z7 A2 B8 x8;by_cases l1:i<=F;case neg=>
  have G2:¬ ((i:Int)<=(F:Int)):=by omega
  have A1:=f7.out.done (by rw [B.out];omega);rw [v1.out] at A1;subst A1;obtain⟨g3,g4⟩:=Q2u f9.out;have o7:=m3.out.out;rw [<-g4] at o7;have l5:=Zh g3;have E7:=Zh o7;clear g3 g4 o7 l1;go_wp2;exact bodyPost_ret (Uo rfl _ _ _) rfl ⟨_,_,by rw [l5.out];rfl,E7.out.base (by have:=D6.out;omega),k8⟩
 have G2:(i:Int)<=(F:Int):=by omega
 have p7:=u1.out l1;have p9:=D8.out e8 k8 i l1;obtain⟨t2,i9⟩:=zE (Yh l ws i);rw [i9] at p9;have u2:=Zh p9;have u6:=Zh i9;clear p9 i9 u1
 go_wp2_with (refine wpList_load_row rfl 50 (.tmp 2) rfl r rfl _ _ _ _ m0.out Tryz.underlying50 rfl Tryz.lawInfo ?_)
 refine u2.out.mono ?_;rintro e C ⟨rfl,f0⟩;have i0:=k8.trans f0;have g9:=a0.trans f0;obtain⟨k0,a7,e4⟩:=Zh3 (f0.keep m0.out) (Qe t9.out f0) (m3.out.ext f0);have K5:r+1<=C.heap.size:=by have:=g9.size;have:=e6.out;omega
 clear f0 m0 t9 m3 u2 k8 a0
 have z6:∀(D:World),Ext w D->i<F->∃ j c8 a4 a5,vo=some ⟨j,c8,none⟩/\(ws.getD i (0,0))=(a4,a5)/\D.cell? ⟨j,c8+i*2,none⟩=some (.int .u32 (a4:Int))/\D.cell? ⟨j,c8+i*2+1,none⟩=some (.int .u32 (a5:Int))/\Qm (a4,a5):=fun D hD hi=>by
  obtain⟨j,c8,J5,H3,q,e9,U⟩:=(e7.out.ext hD).at (i:=i) (by rw [B.out];exact hi);cases H3;exact⟨j,c8,_,_,rfl,rfl,e9,U,e7.out.2.get i (by rw [B.out];exact hi)⟩
 have t8:=Zh z6;clear z6;cases t2
 ·have B1:=f7.out.miss (by rw [B.out];exact l1) u6.out;have k1:=Zh B1;clear B1 f7;by_cases i5:i<F
  ·have a9:(i:Int)<(F:Int):=by omega
   obtain⟨j,c8,a4,a5,rfl,f2,e9,U,q2⟩:=t8.out C i0 i5;have c7:=k1.out;rw [Q8j (by rw [B.out];exact i5),f2] at c7;have m2:=Zh c7;have I6:=Zh f2;clear c7 f2 k1
   go_wp2_with (at_builtin;refine Ze rfl (.tmp 26) (.tmp 31) 23 rfl (r+1) 26 _ 2 8 Tryz.underlying23 @Xu rfl zd _ _ _ rfl (Qe a7.out ((Qa.refl _ C).alloc _)) ⟨C.heap.size,0,none⟩ 1 1 [.int .u32 (a4:Int),.int .u32 (a5:Int)] rfl rfl (Zf rfl) (Ku _ _) ?b3 ?b4 ?b5 ?_)
   case b3=>unfold maxLen;omega
   case b4=>omega
   case b5=>first | omega | (simp;omega)
   intro L J E g7 c6 g5;have c9:Qa (fun b=>(Value.slice Z g Y).ownBlock=some b) C E:=Qa.trans ((Qa.refl _ C).alloc _) c6;have g6:(Value.slice L (g+1) J).ownBlock=(Value.slice Z g Y).ownBlock\/∃ k,C.heap.size<=k/\(Value.slice L (g+1) J).ownBlock=some k:=g5.imp id fun e=>⟨_,by first | omega | simp | (simp;omega),e⟩;have i2:=e4.out.turn a7.out c9 e1.out;have i1:=e1.out.same e4.out.low g6;have G5:Ext a6 E:=g9.after c9 (fun b hb e=>by have:=(a7.out.lt _ e).1;have:=e6.out;omega);have i4:E.ownsRow (r+1) 26 2 (.slice L (g+1) J) (g+1) (Z3 (d++[(a4,a5)])):=by rw [Ya];exact g7
   obtain⟨b6,b2,a8⟩:=Zh3 i2 i1 i4;clear i2 i1 i4 g7 c9 c6 g5 g6 e9 U;go_wp2;exact⟨⟨i+1,N,_,g+1,p,a2,W,L,a1,V,J,d6,tz,⟨rfl,rfl,rfl,rfl,rfl,rfl,rfl⟩,m2.out,f9.out,(by rw [List.length_append,j6.out];rfl),b7.out,a8.out,(fun a3 s=>by rcases List.mem_append.1 s with s | s;exact j7.out a3 s;simp only [List.mem_singleton] at s;subst s;exact q2),b2.out,b6.out,G5⟩,nz⟩
  ·have a9:¬ ((i:Int)<(F:Int)):=by omega
   have c7:=k1.out;rw [Q4u (by rw [B.out];omega),List.append_nil] at c7;have m2:=Zh c7;clear c7 k1;go_wp2;exact⟨⟨i+1,N,d,g,p,a2,W,Z,a1,V,Y,d6,tz,⟨rfl,rfl,rfl,rfl,rfl,rfl,rfl⟩,m2.out,f9.out,j6.out,b7.out,a7.out,j7.out,e1.out,e4.out,g9⟩,nz⟩
 obtain⟨i7,i8,⟨L3,l4⟩,G7,f3⟩:=f7.out.hit u6.out;rw [g0.out] at i7 i8 f3;rw [B.out] at f3
 -- the slices
 have j2:Qd C _ _:=Qd.cut (e7.out.ext i0) (a:=i) (b:=i+f) oz (by rw [B.out];exact f3) j4.out;have T:Qd C _ _:=Qd.cut (e7.out.ext i0) (a:=i+f) (b:=ws.length) (by rw [B.out];exact f3) oz j4.out;rw [show i+f - i=f by omega] at j2;rw [Lj rfl,B.out] at T;have t3:=fun D=>Tw (A:=vo) (n:=F) (c:=vc) Jv Va i (i+f) oz oz D;have t4:=fun D=>Ei (A:=vo) (n:=F) (c:=vc) Jv Va (i+f) oz D;simp only [Int.natCast_add] at t3 t4;obtain⟨L5,L6,J6,C9⟩:∃ y z e,sliced vo i (i+f) vc 2=.slice y z e:=⟨_,_,_,rfl⟩;obtain⟨D1,H,v9,r5⟩:∃ y z e,sliced vo (i+f) F vc 2=.slice y z e:=⟨_,_,_,rfl⟩;rw [C9] at j2 t3;rw [r5] at T t4;clear C9;have B3:((ws.drop i).take f).length=f:=by rw [List.length_take,List.length_drop,B.out];omega
 have q6:=fun(D:World) (hD:Ext C D)=>F4.out D (i0.trans hD) _ _ (j2.ext hD) B3;have q8:=E9.out _ j2.2;have l2:=F2.out ((ws.drop i).take f);have p3:Rz l ws d i=d++Xn l ((ws.drop i).take f):=by unfold Rz;rw [g0.out]
 have f1:Dy l ws d i=Rz l ws d i++ws.drop (i+f):=by unfold Dy;rw [g0.out]
 obtain⟨P,x3⟩:=zE (Xn l ((ws.drop i).take f));rw [x3] at q6 q8 l2 p3;rw [p3] at f1 i7 i8;obtain⟨G0,K1⟩:=zE (F - (i+f));obtain⟨rfl,C3⟩:=Sc T (show (ws.drop (i+f)).length=G0 by rw [List.length_drop,B.out];omega);have J2:=Zh C3;have F7:Hid (Zs (ws.drop (i+f))):=Zh T.2;obtain⟨M,B7⟩:=zE (Dy l ws d i);rw [B7] at i7 i8 l4 f1;rw [v1.out] at l4;have m1:Hid (M.length=g+o+H):=Zh (by rw [f1,List.length_append,List.length_append,j6.out,l2,List.length_drop,B.out];omega);have E4:Hid (Z3 M=Z3 d++Z3 P++Z3 (ws.drop (i+f))):=Zh (by rw [f1,Ya,Ya]);have j5:Hid ((d++P).length=g+o):=Zh (by rw [List.length_append,j6.out,l2]);have f8:Hid (Zs (d++P)):=Zh (fun a3 s=>by rcases List.mem_append.1 s with s | s;exact j7.out a3 s;exact q8 a3 s);have E3:Hid (Zs M):=Zh (by rw [f1];intro a3 s;rcases List.mem_append.1 s with s | s;exact f8.out a3 s;exact F7.out a3 s);obtain⟨E5,E6,u9,v6⟩:=Zh4 i7 i8 l4 r5;have C2:=q6 C.drew (Qa.drew (Qa.refl _ C));have u5:=Zh C2;clear C2 q6 r5 j2 T q8 l2 p3 f1 x3 C3 B7 i7 i8 l4 G7 B3 j7 f7;have F9:=cell_of_row _ _ 15 _ _ _ k0.out;go_upto_region 11 with (fail)
 clear F9;have r0:IntKind.i64.wrap ((i:Int)+(f:Int))=(i:Int)+(f:Int):=IntWalk.i64_in _ oz;refine Z7 (S:=fun D=>D.heap[r]?=some (.cells #[.string s5,.int .i64 r8,.int .u32 (t0:Int),.int .u32 (s0:Int),.bool s3,.int .i64 n0,.int .i64 n2,.slice s6 m7 U,.int .i64 r9,.int .u32 (t1:Int),.int .u32 (s1:Int),.bool s4,.int .i64 n1,.int .i64 n3,.slice s7 m8 c2,.slice r7 f r6,.slice s9 o s8,.int .i64 s2] 50 (0,0))) [] kz (Jw k0.out) ?_;intro G;refine tE 0 38 G ?_;refine tkE (i:=1) (d:=39) (v:=?_) rfl (Or.inl ⟨by rfl,?_⟩) G ?_;rotate_left
 ·intro w y2;(try dsimp only at y2);have H4:=y2;refine Ym (x:=.tmp 2) ?_ r ?_ _ _ _ H4 Tryz.underlying50 Tryz.lawInfo <;> rfl
 try simp only [Act.put,pq]
 refine tE 2 40 G ?_;refine tE 3 41 G ?_;refine tE 4 42 G ?_;refine tE 5 43 G ?_;refine tE 6 44 G ?_;refine tE 7 45 G ?_;refine rE [8] ?_;refine Qb.cons rfl (fun K hK=>?_) Qb.nil;refine iw rfl ?_;go_simp;refine(u5.out).mono ?_;rintro e v7 ⟨L4,rfl,o8,x4⟩;have g1:Ext C v7:=(Qa.drew (Qa.refl (fun _=>False) C)).trans x4;have o5:=g1.keep k0.out;obtain⟨I5,I4,rfl⟩:=Zg o8;have y1:Rd v7 (.slice I5 o I4) o 2 (Z3 P):=Rd.of_own o8;have p5:=Qe a7.out g1;have D4:=g1.size;refine hK.out _ _ o5 (fun hS5=>?_);clear hK K;try simp only [Act.put,pq]
 refine rE [9] ?_;refine Qb.cons rfl (fun K hK=>?_) Qb.nil;refine iw rfl ?_;refine Nf (.tmp 38) (.tmp 46) 23 rfl (r+1) 26 _ 2 8 Tryz.underlying23 @Xu rfl zd _ _ _ rfl p5 _ _ _ _ rfl y1 (Vp _) (by unfold maxLen;omega) oz oz ?_;intro L J E g7 c6 g5;have o6:=c6.heap o5 (fun e=>by have:=(p5.lt _ e).1;omega);have L7:=c6.size;refine hK.out _ _ o6 (fun hS6=>?_);clear hK K;try simp only [Act.put,List.setIfInBounds_toArray]
 refine tE 10 9 hS6 ?_;try simp only [Act.put]
 refine Z1 kz ?_ _;have c9:Qa (fun b=>(Value.slice Z g Y).ownBlock=some b) C E:=(Ext.of g1).trans c6;have g6:(Value.slice L (g+o) J).ownBlock=(Value.slice Z g Y).ownBlock\/∃ k,C.heap.size<=k/\(Value.slice L (g+o) J).ownBlock=some k:=g5.imp id fun e=>⟨_,D4,e⟩;have y0:=e4.out.turn a7.out c9 e1.out;have x6:=e1.out.same e4.out.low g6;have o2:Ext a6 E:=g9.after c9 (fun b hb e=>by have:=(a7.out.lt _ e).1;have:=e6.out;omega);have x2:Ext w E:=g8.trans o2;have z9:E.ownsRow (r+1) 26 2 (.slice L (g+o) J) (g+o) (Z3 (d++P)):=by rw [Ya];exact g7
 have C4:Rd E (.slice D1 H v9) H 2 (Z3 (ws.drop (i+f))):=by
  have r4:=e7.out.ext x2;have T:Qd E _ _:=Qd.cut r4 (a:=i+f) (b:=ws.length) (by rw [B.out];exact f3) oz j4.out;rw [Lj rfl,B.out,v6.out] at T;exact(Sc T (show (ws.drop (i+f)).length=H by rw [List.length_drop,B.out];omega)).2
 obtain⟨e5,u4,l6,F5,I7⟩:=Zh5 y0 x6 z9 C4 o6;have H8:r+1<=E.heap.size:=by omega
 clear y0 x6 z9 C4 g7 c6 g5 g6 c9 o5 o6 p5 y1 o8 hS5 hS6 G a7 e4 e1 k0 u5 r0 g1 x4 D4 t3 i0 g9;have q5:=e5.out.ou;rw [b7.out] at q5;have e2:=Zh q5;clear q5
 go_wp2_with (at_builtin;refine Ze rfl (.tmp 48) (.tmp 50) 36 rfl (r+1) 3 _ 1 8 Tryz.underlying36 Tryz.infoI rfl zd _ _ _ rfl (Qe e2.out ((Qa.refl _ E).alloc _)) ⟨E.heap.size,0,none⟩ 1 1 [.int .i64 i] rfl rfl (Zf rfl) ?c2 ?c3 ?c4 ?c5 ?_)
 case c2=>first | rfl | (intro u b1;simp at b1;rcases b1 with rfl;rfl)
 case c3=>unfold maxLen;omega
 case c4=>omega
 case c5=>first | omega | (simp;omega)
 intro b9 d7 I y9 y3 w5;have d0:Qa (fun b=>(Value.slice a2 p a1).ownBlock=some b) E I:=Qa.trans ((Qa.refl _ E).alloc _) y3;have z3:(Value.slice b9 (p+1) d7).ownBlock=(Value.slice a2 p a1).ownBlock\/∃ k,E.heap.size<=k/\(Value.slice b9 (p+1) d7).ownBlock=some k:=w5.imp id fun e=>⟨_,by first | omega | simp | (simp;omega),e⟩;have p4:=Qs l6.out d0 (fun j q e=>Ur e2.out l6.out zd j e q);have C8:=Qs e5.out.ov d0 (fun j q e=>Ur e5.out.ou e5.out.ov zd j e q);have o3:Ext a6 I:=o2.after d0 (fun b hb e=>by have:=(e2.out.lt _ e).1;have:=e6.out;omega);have C5:Rd I (.slice D1 H v9) H 2 (Z3 (ws.drop (i+f))):=by
  have r4:=e7.out.ext (g8.trans o3);have T:Qd I _ _:=Qd.cut r4 (a:=i+f) (b:=ws.length) (by rw [B.out];exact f3) oz j4.out;rw [Lj rfl,B.out,v6.out] at T;exact(Sc T (show (ws.drop (i+f)).length=H by rw [List.length_drop,B.out];omega)).2
 have H9:r+1<=I.heap.size:=Nat.le_trans H8 d0.size;obtain⟨v3,l7,v4,m4,v2,t7⟩:=Zh6 y9 p4 C8 C5 d0 z3;have K3:=d0.size;have A0:∀ j,(Value.slice L (g+o) J).ownBlock=some j->j<I.heap.size:=fun j q=>(p4.lt j q).2;have u0:=Zh A0;clear A0 y9 y3 w5 d0 z3 p4 C8 C5 F5 l6 o2 x2;go_upto_region 13 with (fail)
 have r0:IntKind.i64.wrap ((i:Int)+(f:Int))=(i:Int)+(f:Int):=IntWalk.i64_in _ oz;obtain⟨b8,p2⟩:=zE I.drew;have j8:Hid (Ext I b8):=Zh (by rw [<-p2];exact Qa.drew (Qa.refl _ I));refine Z7 (S:=fun _=>True) [] kz trivial ?_;intro G;rw [p2];clear p2;refine tE 1 53 G ?_;refine tE 3 55 G ?_;refine tE 4 56 G ?_;refine tE 5 57 G ?_;refine tE 6 58 G ?_;refine tE 7 59 G ?_;refine rE [0] ?_;refine Qb.cons rfl (fun K hK=>?_) Qb.nil;refine iw rfl ?_;go_simp;obtain⟨v8,l0⟩:=zE (b8.alloc (.cells #[] 26));have g2:Ext I v8:=by rw [<-l0];exact j8.out.trans ((Qa.refl _ b8).alloc _)
 have o9:v8.ownsRow (r+1) 26 2 (.slice (some ⟨b8.heap.size,0,none⟩) 0 0) 0 []:=by rw [<-l0];exact World.ownsRow_made (base:=r+1) (e:=26) (size:=2) b8 #[] 0 (by have:=j8.out.size;omega) zd rfl
 rw [l0];have u8:=Zh (Rd.of_own (Qe l7.out g2));have F6:=Zh (m4.out.ext g2);have A5:I.heap.size<=b8.heap.size:=j8.out.size;obtain⟨w0,q⟩:=zE b8.heap.size;rw [q] at o9 A5 ⊢;have D2:=g2.size;clear l0 q;refine hK.out _ _ trivial (fun _=>?_);clear hK K;try simp only [Act.put,pq]
 refine rE [2] ?_;refine Qb.cons rfl (fun K hK=>?_) Qb.nil;refine iw rfl ?_;refine Nf (.tmp 52) (.tmp 53) 23 rfl (r+1) 26 _ 2 8 Tryz.underlying23 @Xu rfl zd _ 0 [] rfl o9 _ _ _ _ rfl u8.out (Vp _) (by unfold maxLen;omega) oz oz ?_;intro I2 I1 F8 k9 y7 o1;try rw [Nat.zero_add] at k9
 try rw [List.nil_append] at k9
 try rw [Nat.zero_add] at o1
 try rw [Nat.zero_add]
 have k4:Ext I F8:=g2.after y7 (fun b hb e=>by have G1:w0=b:=(by first | (simpa [Value.ownBlock] using e) | exact e | (cases e;rfl));omega);have D3:=k4.size;have u7:=Zh (m4.out.ext k4);have t6:=Zh o1;clear o1;refine hK.out _ _ trivial (fun _=>?_);clear hK K;try simp only [Act.put,List.setIfInBounds_toArray]
 refine rE [8] ?_;refine Qb.cons rfl (fun K hK=>?_) Qb.nil;refine iw rfl ?_;refine Nf (.tmp 54) (.tmp 59) 23 rfl (r+1) 26 _ 2 8 Tryz.underlying23 @Xu rfl zd _ _ _ rfl k9 _ _ _ _ rfl u7.out (Vp _) (by unfold maxLen;omega) oz oz ?_;intro f6 f5 X x7 y8 w9
 have p8:∀ j,(Value.slice I2 (g+o) I1).ownBlock=some j->I.heap.size<=j:=fun j q=>by
  rcases t6.out with e | e
  ·rw [e] at q;have G1:w0=j:=(by first | (simpa [Value.ownBlock] using q) | exact q | (cases q;rfl));omega
  ·rw [e] at q;cases q;exact D2
 have A4:∀ j,(Value.slice f6 (g+o+H) f5).ownBlock=some j->I.heap.size<=j:=fun j q=>by
  rcases w9 with e | e
  ·rw [e] at q;exact p8 j q
  ·rw [e] at q;cases q;exact D3
 have c1:Ext I X:=k4.after y8 (fun b hb e=>by have:=p8 b e;omega);have l9:=Zh A4;refine hK.out _ _ trivial (fun _=>?_);clear hK K p8 A4 w9;try simp only [Act.put]
 refine tE 9 12 trivial ?_;try simp only [Act.put]
 refine Z1 kz ?_ _;have q3:X.ownsRow (r+1) 26 2 (.slice f6 (g+o+H) f5) (g+o+H) (Z3 M):=by rw [E4.out,<-Ya];exact x7
 have B5:=(Ho q3).1;have k2:=Zh q3;have z0:=Qe v3.out c1;have z1:=Qe v4.out c1;have x1:=Qe l7.out c1;have o4:=o3.trans c1;have y6:Qa (fun b=>(Value.slice a2 p a1).ownBlock=some b) E X:=v2.out.trans (Ext.of c1);have I0:r+1<=X.heap.size:=Nat.le_trans H9 c1.size;obtain⟨m6,v5,l8,m5⟩:=Zh4 z0 z1 x1 y6;clear q3 z0 z1 x1 y6 x7 y8 k9 y7 o9 g2 k4 c1 j8 u8 F6 u7 t6 m4 v3 v4 l7 v2 D2 D3 A5 r0 t4 o3;by_cases w3:32<g+o+H
 ·have w1:(32:Int)<((g:Int)+(o:Int)+(H:Int)):=by omega
  have w2:(32:Int)<((g+o+H:Nat):Int):=by omega
  obtain⟨g3,g4⟩:=Q13 u9.out (show 32<M.length by rw [m1.out];exact w3);have l5:=Zh g3;have D5:=Zh g4;clear g3 g4;go_wp2;exact bodyPost_ret (Uo rfl _ _ _) rfl ⟨_,_,by rw [l5.out];rfl,by rw [D5.out];exact Ub.nil _ _,g8.trans o4⟩
 have w1:¬ ((32:Int)<((g:Int)+(o:Int)+(H:Int))):=by omega
 have w2:¬ ((32:Int)<((g+o+H:Nat):Int)):=by omega
 have A8:=Tj f9.out (x:=(i,M)) (by show M.length<=32;rw [m1.out];omega);have j9:=Zh A8;have C1:X.ownsRow (r+1) 23 1 (.slice W p V) p d6:=by have:=v5.out;rw [b7.out] at this;exact this
 have e3:=Zh C1;obtain⟨j3,B6⟩:=zE (g+o+H);rw [B6] at B5 k2 w3 w2 l9 ⊢;have E2:=Zh B6;clear A8 C1 f9 u9 v5
 go_wp2_with (at_builtin;refine Ze rfl (.tmp 64) (.tmp 66) 74 rfl (r+1) 23 _ 1 24 Tryz.underlying74 Tryz.infoW2 rfl zd _ _ _ rfl (Qe e3.out ((Qa.refl _ X).alloc _)) ⟨X.heap.size,0,none⟩ 1 1 [.slice f6 j3 f5] rfl rfl (Zf rfl) ?d2 ?d3 ?d4 ?d5 ?_)
 case d2=>first | rfl | (intro u b1;simp at b1;rcases b1 with rfl;rfl)
 case d3=>unfold maxLen;omega
 case d4=>omega
 case d5=>first | omega | (simp;omega)
 intro c0 d8 O p1 y5 w8;have d1:Qa (fun b=>(Value.slice W p V).ownBlock=some b) X O:=Qa.trans ((Qa.refl _ X).alloc _) y5;have D0:Qa (fun b=>(Value.slice a2 p a1).ownBlock=some b\/(Value.slice W p V).ownBlock=some b) E O:=(m5.out.mono fun b _ e=>.inl e).trans (d1.mono fun b _ e=>.inr e);have q4:=Qs k2.out d1 (fun j q e=>Ur e3.out k2.out zd j e q);have C0:Qy O (.slice f6 j3 f5) M:=by
  have w4:=q4;have G3:=B5;rw [show j3=M.length by rw [m1.out,E2.out]] at w4 G3 ⊢;exact Qy.own w4 E3.out
 have r2:=Qs m6.out d1 (fun j q e=>Ur m6.out e3.out zd j q e);have z4:(Value.slice c0 (p+1) d8).ownBlock=(Value.slice W p V).ownBlock\/∃ k,E.heap.size<=k/\(Value.slice c0 (p+1) d8).ownBlock=some k:=w8.imp id fun e=>⟨_,by have:=m5.out.size;first | omega | (simp;omega),e⟩;have z2:Jf O (.slice b9 (p+1) d7) (.slice c0 (p+1) d8) (.slice f6 j3 f5):=Jf.own r2 p1 q4 zd zd;have i2:=e5.out.push2 (i:=i) C0 z2 (by rw [b7.out];exact r2) (by rw [b7.out];exact p1) D0 t7.out z4;have i4:=Qs l8.out d1 (fun j q e=>Ur e3.out l8.out zd j e q)
 have i1:Off (.slice L (g+o) J) (d6++[.slice f6 j3 f5]):=fun y f4=>by
  rcases List.mem_append.1 f4 with f4 | f4
  ·exact u4.out y f4
  ·simp only [List.mem_singleton] at f4;subst f4;intro j K7 K6 c e J7 i9;cases e;have J9:=l9.out j rfl;have K0:=u0.out j i9;omega
 have B0:∀ b,b<r+1->¬ ((Value.slice W p V).ownBlock=some b):=fun b hb e=>by have:=(e3.out.lt _ e).1;omega
 have k7:Ext a6 O:=o4.after d1 (fun b hb e=>B0 b (by have:=e6.out;omega) e);obtain⟨b6,a8,b2⟩:=Zh3 i2 i4 i1;have k3:Hid ((N++[(i,M)]).length=p+1):=Zh (by rw [List.length_append,b7.out];rfl);have K4:r+1<=O.heap.size:=Nat.le_trans I0 d1.size;clear q4 C0 r2 z4 z2 i2 i4 i1 B0 p1 y5 w8 d1 D0 m6 l8 e3 e2 m5 k2 e5 u4 t7 l9 u0 o4;by_cases b0:f=0;case neg=>
  have H0:((f:Int) == 0)=false:=by simp;omega
  have Q:=E6.out b0;have e0:=Zh Q;have d9:=Zh b0;clear Q b0;go_wp2;exact⟨⟨i+f,N++[(i,M)],d++P,g+o,p+1,b9,c0,L,d7,d8,J,_,tz,⟨rfl,rfl,rfl,rfl,rfl,rfl,by first | rfl | (simp;done)⟩,e0.out,j9.out,j5.out,k3.out,a8.out,f8.out,b2.out,b6.out,k7⟩,by have:=d9.out;simp [intOf];omega⟩
 have H0:((f:Int) == 0)=true:=by simp;omega
 have Q:=E5.out b0;by_cases i5:i<F
 ·have a9:(i:Int)+(f:Int)<(F:Int):=by omega
  obtain⟨j,c8,a4,a5,rfl,f2,e9,U,q2⟩:=t8.out O (g8.trans k7) i5;rw [Q8j (by rw [B.out];exact i5),f2,show i+1=i+f+1 by omega] at Q;have e0:=Zh Q;rw [show i*2=(i+f)*2 by omega] at e9 U;have d9:=Zh b0;have H5:((i:Int)+(f:Int)).toNat=i+f:=by omega
  have H2:(0:Int)<=(i:Int)+(f:Int):=by omega
  clear Q f2 b0
  go_wp2_with (at_builtin;refine Ze rfl (.tmp 77) (.tmp 82) 23 rfl (r+1) 26 _ 2 8 Tryz.underlying23 @Xu rfl zd _ _ _ rfl (Qe a8.out ((Qa.refl _ O).alloc _)) ⟨O.heap.size,0,none⟩ 1 1 [.int .u32 (a4:Int),.int .u32 (a5:Int)] rfl rfl (Zf rfl) (Ku _ _) ?b3 ?b4 ?b5 ?_)
  case b3=>unfold maxLen;omega
  case b4=>omega
  case b5=>first | omega | (simp;omega)
  intro k6 k5 m9 x0 y4 w6;have t5:Qa (fun b=>(Value.slice L (g+o) J).ownBlock=some b) O m9:=Qa.trans ((Qa.refl _ O).alloc _) y4;have w7:(Value.slice k6 (g+o+1) k5).ownBlock=(Value.slice L (g+o) J).ownBlock\/∃ k,O.heap.size<=k/\(Value.slice k6 (g+o+1) k5).ownBlock=some k:=w6.imp id fun e=>⟨_,by first | omega | simp | (simp;omega),e⟩;have x9:=b6.out.turn a8.out t5 b2.out;have x5:=b2.out.same b6.out.low w7;have G4:Ext a6 m9:=k7.after t5 (fun b hb e=>by have:=(a8.out.lt _ e).1;have:=e6.out;omega);have z8:m9.ownsRow (r+1) 26 2 (.slice k6 (g+o+1) k5) (g+o+1) (Z3 (d++P++[(a4,a5)])):=by rw [Ya];exact x0
  obtain⟨F0,E8,D7⟩:=Zh3 x9 x5 z8;clear x9 x5 z8 x0 t5 y4 w6 w7 e9 U H5 H2;go_wp2;exact⟨⟨i+f+1,N++[(i,M)],_,g+o+1,p+1,b9,c0,k6,d7,d8,k5,_,tz,⟨rfl,rfl,rfl,rfl,rfl,rfl,by first | rfl | (simp;done)⟩,e0.out,j9.out,(by rw [List.length_append,j5.out];rfl),k3.out,D7.out,(fun a3 s=>by rcases List.mem_append.1 s with s | s;exact f8.out a3 s;simp only [List.mem_singleton] at s;subst s;exact q2),E8.out,F0.out,G4⟩,by have:=d9.out;simp [intOf];omega⟩
 ·have a9:¬ ((i:Int)+(f:Int)<(F:Int)):=by omega
  rw [Q4u (by rw [B.out];omega),List.append_nil,show i+1=i+f+1 by omega] at Q;have e0:=Zh Q;have d9:=Zh b0;clear Q b0;go_wp2
  first
   | exact⟨⟨i+f+1,N++[(i,M)],d++P,g+o,p+1,b9,c0,L,d7,d8,J,_,tz,⟨rfl,rfl,rfl,rfl,rfl,rfl,by first | rfl | (simp;done)⟩,e0.out,j9.out,j5.out,k3.out,a8.out,f8.out,b2.out,b6.out,k7⟩,by have:=d9.out;simp [intOf];omega⟩
   | exact⟨⟨i+f+1,N++[(i,M)],d++P,g+o,p+1,b9,c0,L,d7,d8,J,⟨⟨rfl,rfl,rfl⟩,⟨rfl,rfl,rfl⟩,⟨rfl,rfl,rfl⟩,by simp⟩,e0.out,j9.out,j5.out,k3.out,a8.out,f8.out,_,b2.out,b6.out⟩,by have:=d9.out;simp [intOf];omega⟩
theorem Qf4{w:World}{l:Qg}{cs:List Value}{vo:Option Addr}{vc:Nat}{ws:Wd}(a0:Ye w l cs)(c0:Qd w (.slice vo ws.length vc) ws) (Z:ws.length<=vc) (n2:Yd l=true) (s3:l.mode=3) (c1:ws.length<=32) :
  Calls Tryz.prog 180 #[.agg cs.toArray,.slice vo ws.length vc] w fun e w'=>∃ u v,e=.returned (.tuple #[u,v,.int .i64 (Pn (Z2 l ws))])/\Ub w.heap.size w' u v (Sm (Z2 l ws))/\Ext w w':=by
 obtain⟨s0,s2,n0,_,m7,_,_,_⟩:=Ki n2;have m8:=fun(I:World) (J:Ext w I) (d:Wd) (p:Option Addr) (f j:Nat) (t:d.length=f) (r:Qd I (.slice p f j) d) (Y:f<=32) (i:Nat) (hi:i<=f)=>Q0v (a0.ext J) r t i oz oz;have o0:=fun(I:World) (J:Ext w I) (d:Wd) (p:Option Addr) (f j:Nat) (t:d.length=f) (r:Qd I (.slice p f j) d) (Z:f<=j) (Y:f<=32) (i:Nat) (hi:Yh l d i=true)=>Cf (a0.ext J) r t Z i (by rw [<-t];exact Ge hi) m7 oz oz;have f3:=Qb6 c0
 have n6:∀(d:Wd) (i:Nat),Zs d->Zs (Yq l d i):=fun d i r=>by
  obtain⟨_,_,_,_,_,_,_,_,_,s4⟩:=a0;unfold Yq Wj;intro a4 s;rw [List.mem_append,List.mem_append] at s;rcases s with (s | s) | s
  ·exact r a4 (List.mem_of_mem_take s)
  ·exact Ll (fun a4 s=>r a4 (List.mem_of_mem_drop (List.mem_of_mem_take s))) s4.2 a4 s
  ·exact r a4 (List.mem_of_mem_drop s)
 obtain⟨p6,o9,q1,p1,p4,k3,k5,p7,k0,k7,p0,q2,p2,p5,k4,k6,p8,k1,c2,o8,G,o7,q0,k2,p9,p3,rfl,q7,r2,r3,q5,L,t3,t1,t2,a8,i6,t0,u5,u6,u7,u8,u9⟩:=Yf a0;obtain⟨t4,e9⟩:=zE (Z2 l ws);rw [e9];have b9:Uf l ws [] ws (ws.length+1 - l.ifs.length):=Uf.start oz oz;rw [a8.out] at s0 n0 b9;rw [i6.out] at s2 n0;obtain⟨s9,g3⟩:=zE ws.length;rw [g3] at c0 Z f3 c1 b9 ⊢;have s6:=c1;obtain⟨q4,r4,i4,r1,j3,j2,j6,j9⟩:=Zh8 m8 o0 f3 n6 e9 b9 c0 g3;clear a0 c0 m8 o0 f3 n6 e9 b9 m7 n2 s3 q5 L r2 r3 q7 g3;go_enter Tryz.func180,Tryz.ntmps180;go_upto_region 1 with (fail)
 obtain⟨a5,a1⟩:=zE (w.alloc (.cells #[.string p6,.int .i64 o9,.int .u32 (q1:Int),.int .u32 (p1:Int),.bool p4,.int .i64 k3,.int .i64 k5,.slice p7 k0 k7,.int .i64 p0,.int .u32 (q2:Int),.int .u32 (p2:Int),.bool p5,.int .i64 k4,.int .i64 k6,.slice p8 k1 c2,.slice o8 G o7,.slice q0 k2 p9,.int .i64 p3] 50));have l1:Ext w a5:=by rw [<-a1];exact(Qa.refl _ w).alloc _
 have b5:a5.heap[w.heap.size]?=some (.cells #[.string p6,.int .i64 o9,.int .u32 (q1:Int),.int .u32 (p1:Int),.bool p4,.int .i64 k3,.int .i64 k5,.slice p7 k0 k7,.int .i64 p0,.int .u32 (q2:Int),.int .u32 (p2:Int),.bool p5,.int .i64 k4,.int .i64 k6,.slice p8 k1 c2,.slice o8 G o7,.slice q0 k2 p9,.int .i64 p3] 50 (0,0)):=by rw [<-a1];exact new_at rfl
 have g1:a5.heap.size=w.heap.size+1:=by rw [<-a1];simp
 rw [a1];obtain⟨C,e4⟩:=zE w.heap.size;rw [e4] at b5 g1 ⊢;obtain⟨q6,i1,d9⟩:=Zh3 b5 e4 g1;have m0:=j6.out.ext l1;have j7:=Zh m0;have r6:=cell_of_row _ _ 15 _ _ _ b5;clear a1 e4 b5 g1 m0 j6;go_wp2
 refine wp_loop (fun a O=>∃(K:Int) (F:List (Nat × Wd)) (d:Wd) (f:Nat) (p:Option Addr) (j:Nat) (c:Nat) (z B:Option Addr) (y A:Nat) (g6:List Value),a.defers=[]/\gS a [1,2,7,8,9,10]=(51,[.slice p f j,.pointer (some ⟨C,0,none⟩),.slice z c y,.slice B c A,.int .i64 G,.int .i64 K]) /\
   ((∃ Q,Uf l ws F d Q/\((Q:Int)=K+1\/(Q=0/\K<0)))/\-10<=K/\K<=40)/\Xy F=false/\d.length=f/\f<=32/\F.length=c/\Qd O (.slice p f j) d/\f<=j/\Jf O (.slice z c y) (.slice B c A) (.slice p f j)/\TrP (C+1) O (.slice z c y) (.slice B c A) g6 F/\Ext a5 O)
  (fun a _=>(intOf (a.tmps.getD 10 undef)+1).toNat) ?_ ?_
 ·exact⟨_,[],ws,s9,vo,vc,0,none,none,0,0,[],rfl,rfl,⟨⟨_,j2.out,by omega⟩,by omega,by omega⟩,rfl,j9.out,c1,rfl,j7.out,Z,i4.out.mono fun g hg=>⟨by have:=d9.out;have:=i1.out;omega,(fun e=>by cases e),(fun e=>by cases e)⟩,TrP.nil _ _,Qa.refl _ _⟩
 clear j2 j7 i4 r6 Z c1;rintro⟨v1,_⟩ I ⟨K,F,d,f,p,j,c,z,B,y,A,g6,r8,o1,⟨⟨Q,P,m9⟩,s7,s8⟩,n4,o4,Y,o2,o6,r,m1,l4,J⟩;subst r8;obtain⟨u,rfl⟩:=Qo o1;clear o1;have d1:=Zh (J.keep q6.out);have e7:=l1.trans J;have u0:c<=33:=by obtain⟨_,t9,_,_⟩:=P;have:=j9.out;have:=s6;omega
 obtain⟨a7,U,T,e2,g7,d7⟩:=Zh6 n4 o4 o2 o6 m1 l4;clear n4 o4 o2 o6 m1 l4;by_cases f1:0<=K;case neg=>
  have r9:Q=0:=by omega
  subst r9;have m6:=P.done;rw [j3.out] at m6;subst m6;obtain⟨W,X⟩:=Q2u a7.out;have E:=d7.out.out;rw [<-X] at E;have d0:=Zh W;have r0:=Zh E;clear W X E m9 P;go_wp2;exact bodyPost_ret (Uo rfl _ _ _) rfl ⟨_,_,by rw [d0.out];rfl,r0.out.base (by have:=i1.out;omega),e7⟩
 obtain⟨i,rfl⟩:=Int.eq_ofNat_of_zero_le f1;obtain rfl:Q=i+1:=by omega
 have u1:i<=40:=by omega
 have f1:=P.le;rw [U.out,a8.out] at f1;have a6:=Zh P;clear P m9 s7 s8;have f2:=q4.out I e7 d p f j U.out e2.out Y i oz;obtain⟨g4,f7⟩:=zE (Yh l d i);rw [f7] at f2;have i3:=Zh f2;have b0:=Zh f7;clear f2 f7
 go_wp2_with (refine wpList_load_row rfl 50 (.tmp 2) rfl C rfl _ _ _ _ d1.out Tryz.underlying50 rfl Tryz.lawInfo ?_)
 refine i3.out.mono ?_;rintro e O ⟨rfl,m⟩;have e8:=e7.trans m;have e5:=J.trans m;obtain⟨d6,b1,g9,d8⟩:=Zh4 (m.keep d1.out) (e2.out.ext m) (g7.out.ext m) (d7.out.ext m);clear m d1 e2 g7 d7 i3;cases g4
 ·have n5:=a6.out.miss b0.out;have q9:=Zh n5;clear n5 a6;go_wp2;exact⟨⟨(i:Int) - 1,F,d,f,p,j,c,z,B,y,A,g6,tz,rfl,⟨⟨i,q9.out,by omega⟩,by omega,by omega⟩,a7.out,U.out,Y,T.out,b1.out,r,g9.out,d8.out,e5⟩,mz⟩
 obtain⟨b6,v0,b8⟩:=a6.out.hit b0.out;have f8:=Ga (Ge b0.out);have b7:=r4.out O e8 d p f j U.out b1.out r Y i b0.out;have g0:=r1.out d i b1.out.2;rw [U.out,a8.out,i6.out] at f8;rw [a8.out] at b6;obtain⟨o,n9⟩:=zE (Yq l d i);rw [n9] at b6 b8 f8 b7 g0;obtain⟨H,f9⟩:=zE o.length;rw [f9] at f8 b7;rw [j3.out] at b8;obtain⟨i7,j1,j0,r5,N⟩:=Zh5 b6 b8 b7 g0 f9;clear b6 b8 b7 g0 n9 f9 a6
 go_wp2_with (refine wpList_load_row rfl 50 (.tmp 2) rfl C rfl _ _ _ _ d6.out Tryz.underlying50 rfl Tryz.lawInfo ?_)
 refine j0.out.mono ?_;rintro e q ⟨x,rfl,E,m⟩;have l3:=e8.trans m;have e6:=e5.trans m;have q8:=Zh (m.keep d6.out);have M:=Zh (d8.out.ext m);obtain⟨a3,a2,rfl⟩:=Zg E;have u2:=(Ho E).1;have n7:Qy q (.slice a3 H a2) o:=by
  have k8:=E;rw [<-N.out] at k8 ⊢;exact Qy.own k8 r5.out
 have m2:Jf q (.slice z c y) (.slice B c A) (.slice a3 H a2):=Jf.own M.out.ou M.out.ov E zd zd;have i8:=Zh n7;have g8:=Zh m2;clear n7 m2 E m d6 d8 g9 b1 j0 e8 e5;by_cases r7:32<H
 ·have t7:(32:Int)<(H:Int):=by omega
  obtain⟨W,X⟩:=Q13 j1.out (show 32<o.length by rw [N.out];exact r7);have d0:=Zh W;have q3:=Zh X;clear W X;go_wp2;exact bodyPost_ret (Uo rfl _ _ _) rfl ⟨_,_,by rw [d0.out];rfl,by rw [q3.out];exact Ub.nil _ _,l3⟩
 have t8:¬ ((32:Int)<(H:Int)):=by omega
 have n3:=Tj a7.out (x:=(i,o)) (by show o.length<=32;rw [N.out];omega);have i5:=Zh n3;have f5:=M.out.ou;have f6:=M.out.ov;rw [T.out] at f5 f6;have L:=Zh f5;have a9:=Zh f6;have u3:C+1<=q.heap.size:=by have:=e6.size;have:=d9.out;omega
 clear n3 f5 f6 a7 j1
 go_wp2_with (at_builtin;refine Ze rfl (.tmp 34) (.tmp 36) 36 rfl (C+1) 3 _ 1 8 Tryz.underlying36 Tryz.infoI rfl zd _ _ _ rfl (Qe L.out ((Qa.refl _ q).alloc _)) ⟨q.heap.size,0,none⟩ 1 1 [.int .i64 i] rfl rfl (Zf rfl) ?c2 ?c3 ?c4 ?c5 ?_)
 case c2=>first | rfl | (intro u t;simp at t;rcases t with rfl;rfl)
 case c3=>unfold maxLen;omega
 case c4=>omega
 case c5=>first | omega | (simp;omega)
 intro b2 c8 V l8 l6 k9;have c7:Qa (fun b=>(Value.slice z c y).ownBlock=some b) q V:=Qa.trans ((Qa.refl _ q).alloc _) l6;have o5:=Qs a9.out c7 (fun g hg e=>Ur L.out a9.out zd g e hg);have m4:(Value.slice b2 (c+1) c8).ownBlock=(Value.slice z c y).ownBlock\/∃ k,q.heap.size<=k/\(Value.slice b2 (c+1) c8).ownBlock=some k:=k9.imp id fun e=>⟨_,by first | omega | simp | (simp;omega),e⟩;obtain⟨e0,e1,j4,i2⟩:=Zh4 l8 o5 c7 m4;have u4:=c7.size;clear l8 l6 k9 c7 o5 m4
 go_wp2_with (at_builtin;refine Ze rfl (.tmp 38) (.tmp 40) 74 rfl (C+1) 23 _ 1 24 Tryz.underlying74 Tryz.infoW2 rfl zd _ _ _ rfl (Qe e1.out ((Qa.refl _ V).alloc _)) ⟨V.heap.size,0,none⟩ 1 1 [.slice a3 H a2] rfl rfl (Zf rfl) ?d2 ?d3 ?d4 ?d5 ?_)
 case d2=>first | rfl | (intro u t;simp at t;rcases t with rfl;rfl)
 case d3=>unfold maxLen;omega
 case d4=>omega
 case d5=>first | omega | (simp;omega)
 intro b3 c9 e3 l9 l7 l0;have g5:Qa (fun b=>(Value.slice B c A).ownBlock=some b) V e3:=Qa.trans ((Qa.refl _ V).alloc _) l7;have c6:Qa (fun b=>(Value.slice z c y).ownBlock=some b\/(Value.slice B c A).ownBlock=some b) q e3:=(j4.out.mono fun b _ e=>.inl e).trans (g5.mono fun b _ e=>.inr e);have m5:(Value.slice b3 (c+1) c9).ownBlock=(Value.slice B c A).ownBlock\/∃ k,q.heap.size<=k/\(Value.slice b3 (c+1) c9).ownBlock=some k:=l0.imp id fun e=>⟨_,by first | omega | (simp;omega),e⟩;have o3:=Qs e0.out g5 (fun g hg e=>Ur e0.out e1.out zd g hg e);obtain⟨l5,s5,m3⟩:=M.out.push (i:=i) i8.out g8.out (by rw [T.out];exact o3) (by rw [T.out];exact l9) c6 i2.out m5
 have f4:∀ b,b<C+1->¬ ((Value.slice z c y).ownBlock=some b\/(Value.slice B c A).ownBlock=some b):=fun b hb e=>by
  rcases e with e | e
  ·have:=(L.out.lt _ e).1;omega
  ·have:=(a9.out.lt _ e).1;omega
 have l2:Ext a5 e3:=e6.after c6 (fun b hb e=>f4 b (by have:=d9.out;omega) e);have n1:=c6.heap q8.out (f4 C oz);have t6:=cell_of_row _ _ 16 _ _ _ n1;obtain⟨t5,c5,n8,g2,f0⟩:=s5;rw [N.out] at n8 g2 f0;cases n8;obtain⟨i9,j8,i0⟩:=Zh3 l5 g2 m3;have j5:Hid ((F++[(i,o)]).length=c+1):=Zh (by rw [List.length_append,T.out];rfl);clear l5 g2 m3 n1 l9 l7 l0 g5 c6 m5 o3 f4 e0 e1 j4 i2 M g8 i8 L a9 e6 l3;by_cases b4:G=0
 ·have s1:((G:Int) == 0)=true:=by simp;omega
  have S:=Zh b4;clear b4;go_wp2;exact⟨⟨(i:Int) - G - 1,F++[(i,o)],o,H,a3,a2,c+1,b2,b3,c8,c9,_,tz,(Prod.ext rfl (lE rfl (lE rfl (lE rfl (lE rfl (lE rfl (lE (by first | rfl | (simp;done)) rfl))))))),⟨⟨_,i7.out,by have:=S.out;omega⟩,by omega,by omega⟩,i5.out,N.out,by omega,j5.out,j8.out,f0,i0.out,i9.out,l2⟩,by have:=S.out;simp [intOf];omega⟩
 ·have s1:((G:Int) == 0)=false:=by simp;omega
  have S:=Zh b4;clear b4;go_wp2;exact⟨⟨(i:Int) - G,F++[(i,o)],o,H,a3,a2,c+1,b2,b3,c8,c9,_,tz,(Prod.ext rfl (lE rfl (lE rfl (lE rfl (lE rfl (lE rfl (lE (by first | rfl | (simp;done)) rfl))))))),⟨⟨_,i7.out,by have:=S.out;omega⟩,by omega,by omega⟩,i5.out,N.out,by omega,j5.out,j8.out,f0,i0.out,i9.out,l2⟩,by have:=S.out;simp [intOf];omega⟩
theorem Qll{l:Qg}{ws:Wd}(h:Xz l ws=0):trE l ws=Pn (Z2 l ws)/\trT l ws=Sm (Z2 l ws):=by
 have a:trE l ws=Pn (Z2 l ws):=by unfold trE Pn;rw [if_pos h]
 refine⟨a,?_⟩;unfold trT;rw [a];unfold Pn Sm;cases Xy (Z2 l ws) <;> simp
theorem Q9c{w:World}{l:Qg}{cs:List Value}{vo:Option Addr}{vc:Nat}{ws:Wd}(r:Ye w l cs)(E:Qd w (.slice vo ws.length vc) ws) (M:ws.length<=vc) :
  Calls Tryz.prog 167 #[.agg cs.toArray,.slice vo ws.length vc] w fun e w'=>∃ u v,e=.returned (.tuple #[u,v,.int .i64 (trE l ws)])/\Ub w.heap.size w' u v (trT l ws)/\Ext w w':=by
 have N:=fun(V:World) (a:Ext w V)=>Q6i (r.ext a) (E.ext a);have y:=fun(V:World) (a:Ext w V) (f:Yd l=true) (c:l.mode=1) (p:ws.length<=32)=>Qi1 (r.ext a) (E.ext a) M f c p;have B:=fun(V:World) (a:Ext w V) (f:Yd l=true) (c:l.mode=2) (p:ws.length<=32)=>Qc6 (r.ext a) (E.ext a) M f c p;have A:=fun(V:World) (a:Ext w V) (f:Yd l=true) (c:l.mode=3) (p:ws.length<=32)=>Qf4 (r.ext a) (E.ext a) M f c p;have C:=@Qll l ws
 have L:Xz l ws≠0->trE l ws=Xz l ws/\trT l ws=[]:=fun h=>by
  have:trE l ws=Xz l ws:=by unfold trE;rw [if_neg h]
  refine⟨this,?_⟩;unfold trT;rw [this,if_neg h]
 have z:Xz l ws=0->Yd l=true/\(1<=l.mode/\l.mode<=3)/\ws.length<=32:=fun h=>by
  obtain⟨f,c⟩:=Dw h;obtain⟨_,_,_,p,_⟩:=Ki f;exact⟨f,p,Vx c⟩
 obtain⟨g9,c2⟩:=zE ws.length;rw [c2] at N y B A z ⊢;obtain⟨d1,c5,d6,c7,c9,b3,b5,d2,a9,b7,c6,d7,c8,d0,b4,b6,d3,b0,b8,c4,b1,c3,d5,b2,d4,k,rfl,e7,f4,f5,e6,f3,f2,e8,e9,f0,f1,e3,g4,g5,g6,g7,g8⟩:=Yf r;rw [e3.out] at y B A z;obtain⟨i,q⟩:=zE (Xz l ws);obtain⟨f7,c0⟩:=zE (Z2 l ws);obtain⟨e4,a⟩:=zE (trE l ws);obtain⟨f8,W⟩:=zE (trT l ws);rw [q] at N C L z;rw [c0] at y B A C;rw [a,W] at C L;rw [a,W];obtain⟨a4,a2,a7,a6,a8,a3,a5⟩:=Zh7 N y B A C L z;clear r E M N y B A C L z q c0 a W c2;go_enter Tryz.func167,Tryz.ntmps167;go_upto_region 1 with (fail)
 obtain⟨a0,F⟩:=zE (w.alloc (.cells #[.string d1,.int .i64 c5,.int .u32 (d6:Int),.int .u32 (c7:Int),.bool c9,.int .i64 b3,.int .i64 b5,.slice d2 a9 b7,.int .i64 c6,.int .u32 (d7:Int),.int .u32 (c8:Int),.bool d0,.int .i64 b4,.int .i64 b6,.slice d3 b0 b8,.slice c4 b1 c3,.slice d5 b2 d4,.int .i64 k] 50));have T:Ext w a0:=by rw [<-F];exact(Qa.refl _ w).alloc _
 have X:a0.heap[w.heap.size]?=some (.cells #[.string d1,.int .i64 c5,.int .u32 (d6:Int),.int .u32 (c7:Int),.bool c9,.int .i64 b3,.int .i64 b5,.slice d2 a9 b7,.int .i64 c6,.int .u32 (d7:Int),.int .u32 (c8:Int),.bool d0,.int .i64 b4,.int .i64 b6,.slice d3 b0 b8,.slice c4 b1 c3,.slice d5 b2 d4,.int .i64 k] 50 (0,0)):=by rw [<-F];exact new_at rfl
 have Z:a0.heap.size=w.heap.size+1:=by rw [<-F];simp
 rw [F];obtain⟨G,S⟩:=zE w.heap.size;rw [S] at X Z ⊢;obtain⟨O,e5,f6⟩:=Zh3 X S Z;clear F X S Z
 go_wp2_with (refine wpList_load_row rfl 50 (.tmp 2) rfl G rfl _ _ _ _ O.out Tryz.underlying50 rfl Tryz.lawInfo ?_)
 refine(a4.out _ T).mono ?_;rintro e a1 ⟨rfl,d⟩;have j:=T.trans d;have J:=Zh (d.keep O.out);clear d T O a4;by_cases P:i=0;case neg=>
  have g2:(i != 0)=true:=by rw [bne_iff_ne];exact P
  obtain⟨rfl,rfl⟩:=a3.out P;go_wp2;exact bodyPost_ret (Uo rfl _ _ _) rfl ⟨_,_,rfl,Ub.nil _ _,j⟩
 subst P;obtain⟨b9,c1⟩:=a8.out rfl;obtain⟨Y,g3,Q⟩:=a5.out rfl;have R:=fun(V:World) (a:Ext w V) (c:k=1)=>a2.out V a Y c Q;have q:=fun(V:World) (a:Ext w V) (c:k=2)=>a7.out V a Y c Q;have U:=fun(V:World) (a:Ext w V) (c:k=3)=>a6.out V a Y c Q;rw [<-b9,<-c1] at R q U;obtain⟨H,K,I⟩:=Zh3 R q U;clear R q U a2 a7 a6 a8 a3 a5 b9 c1;have f9:=cell_of_row _ _ 17 _ _ _ J.out;by_cases f:k=1
 ·subst f;have s:=Zh (fun V a=>H.out V a rfl);clear H K I;have o:=s.out a1 j;have m:=Zh o;clear o
  go_wp2_with (refine wpList_load_row rfl 50 (.tmp 2) rfl G rfl _ _ _ _ J.out Tryz.underlying50 rfl Tryz.lawInfo ?_)
  refine m.out.mono ?_;rintro e e0 ⟨u,v,rfl,g,d⟩;have x:=j.trans d;obtain⟨d9,d8,e2,e1,rfl,rfl,_⟩:=g.slices;have t:=Zh (g.base (b':=w.heap.size) j.size);clear g d m;go_wp2;exact bodyPost_ret (Uo rfl _ _ _) rfl ⟨_,_,rfl,t.out,x⟩
 have g0:(k == 1)=false:=by rw [beq_eq_false_iff_ne];exact f
 by_cases c:k=2
 ·subst c;have s:=Zh (fun V a=>K.out V a rfl);clear H K I;have o:=s.out a1 j;have m:=Zh o;clear o
  go_wp2_with (refine wpList_load_row rfl 50 (.tmp 2) rfl G rfl _ _ _ _ J.out Tryz.underlying50 rfl Tryz.lawInfo ?_)
  refine m.out.mono ?_;rintro e e0 ⟨u,v,rfl,g,d⟩;have x:=j.trans d;obtain⟨d9,d8,e2,e1,rfl,rfl,_⟩:=g.slices;have t:=Zh (g.base (b':=w.heap.size) j.size);clear g d m;go_wp2;exact bodyPost_ret (Uo rfl _ _ _) rfl ⟨_,_,rfl,t.out,x⟩
 have g1:(k == 2)=false:=by rw [beq_eq_false_iff_ne];exact c
 ·obtain rfl:k=3:=by omega
  have s:=Zh (fun V a=>I.out V a rfl);clear H K I;have o:=s.out a1 j;have m:=Zh o;clear o
  go_wp2_with (refine wpList_load_row rfl 50 (.tmp 2) rfl G rfl _ _ _ _ J.out Tryz.underlying50 rfl Tryz.lawInfo ?_)
  refine m.out.mono ?_;rintro e e0 ⟨u,v,rfl,g,d⟩;have x:=j.trans d;obtain⟨d9,d8,e2,e1,rfl,rfl,_⟩:=g.slices;have t:=Zh (g.base (b':=w.heap.size) j.size);clear g d m;go_wp2;exact bodyPost_ret (Uo rfl _ _ _) rfl ⟨_,_,rfl,t.out,x⟩
theorem Qei{W:World}{b:Nat}(hb:b<=W.heap.size):(W.alloc (.cells #[] 26)).ownsRow b 26 2 (.slice (some ⟨W.heap.size,0,none⟩) 0 0) 0 []:=World.ownsRow_made (base:=b) (e:=26) (size:=2) W #[] 0 hb zd rfl
theorem Qcy{w:World}{l:Qg}{cs:List Value}{vo:Option Addr}{vc:Nat}{ws:Wd}(a5:Ye w l cs)(O:Qd w (.slice vo ws.length vc) ws) (g8:ws.length<=vc) :
  Calls Tryz.prog 147 #[.agg cs.toArray,.slice vo ws.length vc] w fun e w'=>∃ u,e=.returned (.tuple #[u,.int .i64 (trE l ws)])/\Qy w' u (Vc l ws)/\Zy (fun g=>w.heap.size<=g) u/\Ext w w':=by
 have G:=fun(V:World) (A:Ext w V)=>Q9c (a5.ext A) (O.ext A) g8;have e1:=O.2;have N:trE l ws=0->ws.length<=32:=fun f=>Vx (Dw (Em f)).2
 have L:trE l ws=0->∀ a (p:a<(trT l ws).length),(trT l ws)[a].2.length<=32:=fun f a p=>by
  have e:trT l ws=Z2 l ws:=by unfold trT;rw [if_pos f]
  have:=Q3h (Q3g f) (x:=(trT l ws)[a]) (by rw [<-e];exact List.getElem_mem _);exact this
 have v:=@Q89 l ws;have y:=@Q47 l ws;have K:=@Q6o l ws;obtain⟨g1,a8⟩:=zE ws.length;have b3:=Zh O;rw [a8] at G N b3 ⊢;obtain⟨f4,e7,f9,e9,f2,c0,c6,f5,b5,c8,e8,g0,f0,f3,c1,c7,f6,b6,c9,e6,b7,e5,f8,b8,f7,f1,rfl,i1,i9,j0,i0,i8,i7,i3,i4,i5,i6,i2,k1,k2,k3,k4,k5⟩:=Yf a5;obtain⟨b0,A⟩:=zE (trE l ws);obtain⟨b9,d7⟩:=zE (trT l ws);obtain⟨Q,d0⟩:=zE (Vc l ws);rw [A] at G N v y K L ⊢;rw [d7] at G v y L;rw [d0] at v y K ⊢;obtain⟨b2,g7,g5,S,T,U,b4,g3⟩:=Zh8 G N e1 v y K a8 L;clear a5 O G N e1 v y K L A d7 d0 a8;go_enter Tryz.func147,Tryz.ntmps147;go_upto_region 1 with (fail)
 obtain⟨a9,H⟩:=zE (w.alloc (.cells #[.string f4,.int .i64 e7,.int .u32 (f9:Int),.int .u32 (e9:Int),.bool f2,.int .i64 c0,.int .i64 c6,.slice f5 b5 c8,.int .i64 e8,.int .u32 (g0:Int),.int .u32 (f0:Int),.bool f3,.int .i64 c1,.int .i64 c7,.slice f6 b6 c9,.slice e6 b7 e5,.slice f8 b8 f7,.int .i64 f1] 50));have a1:Ext w a9:=by rw [<-H];exact(Qa.refl _ w).alloc _
 have a6:a9.heap[w.heap.size]?=some (.cells #[.string f4,.int .i64 e7,.int .u32 (f9:Int),.int .u32 (e9:Int),.bool f2,.int .i64 c0,.int .i64 c6,.slice f5 b5 c8,.int .i64 e8,.int .u32 (g0:Int),.int .u32 (f0:Int),.bool f3,.int .i64 c1,.int .i64 c7,.slice f6 b6 c9,.slice e6 b7 e5,.slice f8 b8 f7,.int .i64 f1] 50 (0,0)):=by rw [<-H];exact new_at rfl
 have a7:a9.heap.size=w.heap.size+1:=by rw [<-H];simp
 rw [H];obtain⟨g2,a0⟩:=zE w.heap.size;rw [a0] at a6 a7 ⊢;obtain⟨b1,g9,j1⟩:=Zh3 a6 a0 a7;clear H a6 a0 a7
 go_wp2_with (refine wpList_load_row rfl 50 (.tmp 2) rfl g2 rfl _ _ _ _ b1.out Tryz.underlying50 rfl Tryz.lawInfo ?_)
 refine(b2.out _ a1).mono ?_;rintro e i ⟨u,k8,rfl,B,d6⟩;have n:=a1.trans d6;obtain⟨k7,k6,l0,k9,rfl,rfl,e4⟩:=B.slices;clear d6 a1 b1 b2;by_cases f:b0=0;case neg=>
  have j4:(b0 != 0)=true:=by rw [bne_iff_ne];exact f
  have j:=U.out f;subst j;clear B;go_wp2;go_ret2;exact⟨_,rfl,Qy.nil _,(show Zy (fun g=>w.heap.size<=g) (.slice none 0 0) from fun g o c Z e h=>by cases e),n⟩
 subst f;have k0:=g7.out rfl;obtain⟨c,q⟩:=zE b9.length;rw [q] at e4 ⊢;unfold maxLen at e4;have d1:Ext i (i.alloc (.cells #[] 26)):=(Qa.refl _ i).alloc _;have d2:=Qei (W:=i) (b:=i.heap.size) (Nat.le_refl _);have J:=Zh d2;have k:=Zh d1;clear d2 d1;by_cases e0:c=0
 ·subst e0;have j:=S.out rfl q;have m:=(b3.out.ext (n.trans k.out)).1;rw [b4.out] at m;have r:=Zh m;have j9:((0:Nat):Int)=0:=rfl;clear B q S T U m
  go_wp2_with (at_builtin;refine Xi rfl (.tmp 22) (.tmp 23) 23 rfl i.heap.size 26 _ 2 8 Tryz.underlying23 @Xu rfl zd _ 0 [] rfl J.out _ _ _ _ rfl r.out (Vp _) ?c3 ?c4 ?c5 ?_)
  case c3=>unfold maxLen;omega
  case c4=>omega
  case c5=>exact k.out.size
  intro s t I d C _;try rw [Nat.zero_add] at d
  try rw [List.nil_append] at d
  try rw [Nat.zero_add]
  have a2:Ext i I:=k.out.after C (fun b hb e=>by have:=(J.out.lt b e).1;omega);have a3:=n.trans a2;have F:Qy I (.slice s g1 t) Q:=by
   rw [j];have z:=d;rw [<-b4.out] at z ⊢;exact Qy.own z g5.out
  have E:Zy (fun g=>w.heap.size<=g) (.slice s g1 t):=fun g o c Z e f=>by have:=(d.lt g (by rw [e];simp [Value.ownBlock])).1;have:=n.size;omega
  have Y:=Zh F;have X:=Zh E;clear d C j F r E;go_wp2;go_ret2;exact⟨_,rfl,Y.out,X.out,a3⟩
 ·obtain⟨a,rfl⟩:∃ a,c=a+1:=⟨c - 1,by omega⟩;have p:a<b9.length:=by omega
  obtain⟨g,j3,j2,Z,e3,M,P,d9⟩:=B.at p;have j:=T.out rfl q p;have d8:=g3.out rfl a p;rw [j] at M P d9 d8;rw [q] at e3;cases e3;have e2:=P.2;obtain⟨c2,a4⟩:=zE Q.length;have m:=(P.ext k.out).1;rw [a4] at M m d8;have j5:=k.out.cell_some M id;have j6:((a+1:Nat):Int) - 1=(a:Int):=by omega
  have j7:(((a+1:Nat):Int) == 0)=false:=by simp;omega
  have j8:(a:Int)<((a+1:Nat):Int):=by omega
  obtain⟨r,g4,g6⟩:=Zh3 m a4 e2;clear B q S T U P d9 j e0 m a4 e2 M p
  go_wp2_with (at_builtin;refine Xi rfl (.tmp 25) (.tmp 31) 23 rfl i.heap.size 26 _ 2 8 Tryz.underlying23 @Xu rfl zd _ 0 [] rfl J.out _ _ _ _ rfl r.out (Vp _) ?d3 ?d4 ?d5 ?_)
  case d3=>unfold maxLen;omega
  case d4=>omega
  case d5=>exact k.out.size
  intro s t I d C _;try rw [Nat.zero_add] at d
  try rw [List.nil_append] at d
  try rw [Nat.zero_add]
  have a2:Ext i I:=k.out.after C (fun b hb e=>by have:=(J.out.lt b e).1;omega);have a3:=n.trans a2;have F:Qy I (.slice s c2 t) Q:=by
   have z:=d;rw [<-g4.out] at z ⊢;exact Qy.own z g6.out
  have E:Zy (fun g=>w.heap.size<=g) (.slice s c2 t):=fun g o c Z e f=>by have:=(d.lt g (by rw [e];simp [Value.ownBlock])).1;have:=n.size;omega
  have Y:=Zh F;have X:=Zh E;clear d C F r E;go_wp2;go_ret2;exact⟨_,rfl,Y.out,X.out,a3⟩
theorem Qly:(Tryz.prog.info? 23).map (fun i=>(i.zero,i.size,i.bytes))=some (some (.slice none 0 0),1,24):=by kernel_rfl
theorem Qh8{w:World}{e:TypeId}{base:Nat}(hb:base<=w.heap.size)(u:Value):(w.alloc (.cells #[u] e)).ownsRow base e 1 (.slice (some ⟨w.heap.size,0,none⟩) 1 1) 1 [u]:=
 World.ownsRow_lit w #[u] 1 hb (by unfold maxLen;omega) rfl
theorem Qft{w:World}{v:Value}{ws:Wd}(k:Qd w v ws)(V:ws.length<=300) :
  Calls Tryz.prog 146 #[v] w fun e w'=>∃ u,e=.returned u/\Qy w' u ws/\Ext w w':=by
 obtain⟨r,s,rfl,W⟩:=k.slice;have M:=Zh k;have E:=k.2;clear k W;obtain⟨c,j⟩:=zE ws.length;have l:=Zh j;have K:=Zh E;rw [j] at V;show Calls Tryz.prog 146 #[.slice r ws.length s] w _;rw [j];clear j E;go_enter Tryz.func146,Tryz.ntmps146;go_wp2
 refine wp_loop (fun b d=>∃(a:Nat) (i:Value),a<=c/\b.defers=[]/\gS b [0,3,4]=(19,[.slice r c s,i,.int .i64 a])/\d.ownsRow w.heap.size 26 2 i a (Z3 (ws.take a))/\Ext w d)
  (fun b _=>c - (intOf (b.tmps.getD 4 undef)).toNat) ?_ ?_
 ·exact⟨0,_,by omega,rfl,rfl,World.ownsRow_nil _ _ _ _,Qa.refl _ _⟩
 rintro⟨a8,_⟩ d ⟨a,i,a6,S,F,z,g⟩;subst S;obtain⟨u,rfl⟩:=Qo F;clear F;have m:=Zh z;clear z;by_cases U:a<c
 ·have y:(a:Int)<(c:Int):=by omega
  have q:a<ws.length:=by rw [l.out];exact U
  obtain⟨a5,a7,a4,C,T,t,x⟩:=(M.out.ext g).at q;simp only [zV] at C;obtain⟨Q,X,R⟩:=C;clear X;subst Q;subst R;obtain⟨b,o⟩:=zE ((ws.getD a (0,0)).1);obtain⟨f,p⟩:=zE ((ws.getD a (0,0)).2);rw [o] at t;rw [p] at x;have G:Z3 (ws.take (a+1))=Z3 (ws.take a)++[.int .u32 (b:Int),.int .u32 (f:Int)]:=by
   rw [List.take_succ_eq_append_getElem q,Ya];have N:ws.getD a (0,0)=ws[a]:=by rw [List.getD_eq_getElem?_getD,List.getElem?_eq_getElem q];rfl
   have:ws[a]=(b,f):=by rw [<-N,<-o,<-p]
   rw [this];rfl
  have L:=Zh G;have Z:=g.size;clear o p G T
  go_wp2_with (at_builtin;refine Ze rfl (.tmp 11) (.tmp 16) 23 rfl w.heap.size 26 _ 2 8 Tryz.underlying23 @Xu rfl zd _ _ _ rfl (Qe m.out ((Qa.refl _ d).alloc (.cells #[.int .u32 (b:Int),.int .u32 (f:Int)] 26))) ⟨d.heap.size,0,none⟩ 1 1 [.int .u32 (b:Int),.int .u32 (f:Int)] rfl rfl (Zf rfl) ?c2 ?c3 ?c4 ?c5 ?_)
  case c2=>first | rfl | (intro u H;simp only [List.mem_cons,List.not_mem_nil,or_false] at H;rcases H with rfl | rfl <;> rfl)
  case c3=>unfold maxLen;omega
  case c4=>omega
  case c5=>first | omega | (simp;omega)
  intro a1 c5 a0 n A _;have B:Qa (fun b'=>i.ownBlock=some b') d a0:=Qa.trans (Qa.alloc (Qa.refl _ d) _) A;have P:=g.after B (fun b' y e=>by have:=(m.out.lt _ e).1;omega);rw [<-L.out] at n;have J:=Zh n;clear A B n g t x Z;go_wp2;exact⟨⟨a+1,_,by omega,tz,rfl,J.out,P⟩,nz⟩
 ·obtain rfl:a=c:=by omega
  have y:¬ (a:Int)<(a:Int):=by omega
  have D:Qy d i ws:=by
   have:=m.out;rw [List.take_of_length_le (by rw [l.out];exact Nat.le_refl _)] at this;obtain⟨a2,a3,Y⟩:=Zg this;subst Y;have O:=l.out;subst O;exact Qy.own this K.out
  have I:=Zh D;clear D;go_wp2;go_ret;exact⟨_,rfl,I.out,g⟩
theorem Qh2{LD:List Qg}{ws:Wd}(j:∀ l∈LD,∀ x∈l.outs,Uc x)(i:Zs ws)(h:Zw LD ws=0){k:Nat}(c:k<LD.length){u:Wd}(d:Y2 (LD.take k) ws=some u) :
  (trE LD[k] u=0/\Y2 (LD.take (k+1)) ws=some (Vc LD[k] u))\/(trE LD[k] u=11/\Yp LD ws=11):=by
 have e:Z4 LD=0/\wE ws=0:=by
  unfold Zw at h
  split at h
  ·rename_i a;exact⟨a,h⟩
  ·rename_i a;exact absurd h a
 have g:Yd LD[k]=true:=by
  have a:=e.1;unfold Z4 at a
  split at a
  ·cases a
  ·split at a
   ·rename_i _ f;exact List.all_eq_true.1 f _ (List.getElem_mem c)
   ·cases a
 have m:=Se (fun l hl=>j l (List.mem_of_mem_take hl)) i e.2 d;rcases Q7i g m.1 with b | b
 ·refine .inl ⟨b,?_⟩;rw [Bp c,d];simp [b]
 ·exact .inr ⟨b,(Uq h (Q4s c d (by rw [b];decide))).1⟩
theorem Qh3{w:World}{base:Nat}{e:TypeId}{v:Value}{n:Nat}{xs:List Value}(h:w.ownsRow base e 1 v n xs):xs.length=n:=by
 have:=(Rd.of_own h).1;omega
theorem Qay{w:World}{v:Value}{n:Nat}{xs:List Value}(h:Rd w v n 1 xs){k:Nat}(l:k<n):∃ g off cap,v=.slice (some ⟨g,off,none⟩) n cap/\g<w.heap.size/\w.cell? ⟨g,off+k,none⟩=some (xs.getD k undef):=by
 obtain⟨i,j,f,cap,e,a⟩:=h;obtain⟨g,off,b,d,c⟩:=a oz;exact⟨g,off,cap,by rw [e,b],d,c k oz⟩
def Qm6(E:Int)(n:Nat)(W:World)(v:Value)(u:Wd):Prop:=(E≠0->v=.slice none 0 0)/\(E=0->∃ ao c vs,v=.slice ao (n+1) c/\Rd W v (n+1) 1 vs/\Qy W (vs.getD n undef) u)
theorem Qdk{w:World}{ps:Zl}{lo:Option Addr}{n lc:Nat}{vo:Option Addr}{vc:Nat}{ws:Wd}(a0:Zk w (.slice lo n lc) ps) (a1:ps.length=n) (d1:Qd w (.slice vo ws.length vc) ws) :
  Calls Tryz.prog 108 #[.slice lo n lc,.slice vo ws.length vc] w fun e w'=>∃ v,e=.returned (.tuple #[v,.int .i64 (Yp (ps.map (·.1)) ws)])/\Qm6 (Yp (ps.map (·.1)) ws) n w' v (Yv (ps.map (·.1)) ws)/\Ext w w':=by
 have c6:=Q0i a0 a1;have d4:=fun(r:World) (p:Ext w r)=>Nc (d1.ext p);have f2:=fun(r:World) (p:Ext w r) (h:ws.length<=300)=>Qft (d1.ext p) h;obtain⟨c,Y⟩:=zE (ps.map (·.1));rw [Y] at c6 ⊢;have n5:c.length=n:=by rw [<-Y,List.length_map,a1]
 have G:∀ k (Z:k<ps.length),c[k]?=some ps[k].1:=fun k Z=>by rw [<-Y,List.getElem?_map,List.getElem?_eq_getElem Z];rfl
 have k1:∀ l∈c,∀ x∈l.outs,Uc x:=fun l hm=>by
  rw [<-Y] at hm;obtain⟨a3,n9,rfl⟩:=List.mem_map.1 hm;obtain⟨_,_,_,_,_,_,_,_,_,n7⟩:=a0.2 a3 n9;exact n7.2
 have P:Zw c ws=0->∀ k l g,c[k]?=some l->Y2 (c.take k) ws=some g->(trE l g=0/\Y2 (c.take (k+1)) ws=some (Vc l g))\/(trE l g=11/\Yp c ws=11):=fun h k l g b7 b9=>by
  obtain⟨Z,rfl⟩:=List.getElem?_eq_some_iff.1 b7;exact Qh2 k1 d1.2 h Z b9
 have F:Zw c ws=0->∀ g,Y2 (c.take n) ws=some g->Yp c ws=0/\Yv c ws=g:=fun h g b9=>Jy h (by rwa [Q78 oz] at b9);have E:Zw c ws≠0->Yp c ws=Zw c ws:=fun h=>(Sl h).1;have c8:Zw c ws=if Z4 c=0 then wE ws else Z4 c:=rfl
 have d2:wE ws=0->ws.length<=300:=fun h=>Nat.le_trans (Vx h) zd;have n6:n<=maxLen:=by rw [<-a1];exact a0.1.2.1
 have c9:Z4 c=0->n<=64:=fun h=>by
  unfold Z4 at h
  split at h
  ·cases h
  ·omega
 unfold maxLen at n6;obtain⟨B,i0⟩:=zE (Z4 c);obtain⟨M,D⟩:=zE (wE ws);obtain⟨C,i7⟩:=zE (Yp c ws);obtain⟨o6,i8⟩:=zE (Yv c ws);rw [i0] at c6 c8 c9;rw [D] at d2 c8;simp only [D] at d4;rw [i7] at E F P ⊢;rw [i8] at F ⊢;rw [c8] at P F E;have j1:B≠0->C=B:=fun h=>by rw [if_neg h] at E;exact E h
 have j2:B=0->M≠0->C=M:=fun h h'=>by rw [if_pos h] at E;exact E h'
 have P:=fun(h:B=0) (h':M=0)=>P (by rw [if_pos h];exact h');have F:=fun(h:B=0) (h':M=0)=>F (by rw [if_pos h];exact h');obtain⟨q2,f5⟩:=zE ws.length;rw [f5] at f2 d2 ⊢;simp only [f5] at d4;obtain⟨g0,e3,a8,T,U,R,b4,b2⟩:=Zh8 c6 d4 f2 a0 a1 G P F;obtain⟨a6,a7,b5,e0⟩:=Zh4 j1 j2 d2 c9;have f7:Hid (Y2 (c.take 0) ws=some ws):=Zh rfl;clear c6 d4 f2 a0 a1 G P F E j1 j2 d2 c9 c8 i0 D i7 i8 f5 Y n5 k1 d1;go_enter Tryz.func108,Tryz.ntmps108;go_wp2_with fail;refine g0.out.mono ?_;rintro e q0 ⟨rfl,i1⟩;have b0:=Zh i1;clear i1 g0;by_cases W:B=0;case neg=>
  have I:C=B:=a6.out W;subst I;have p4:(C == 0)=false:=by rw [beq_eq_false_iff_ne];exact W
  have m4:(C != 0)=true:=by rw [bne_iff_ne];exact W
  clear e3 a8 T U R b4 b2 a6 a7 b5 e0;go_wp2;go_ret2;exact⟨_,rfl,⟨fun _=>rfl,fun h=>absurd h W⟩,b0.out⟩
 subst W;have c9:=e0.out rfl;go_wp2_with fail;refine(e3.out _ b0.out).mono ?_;rintro e q1 ⟨rfl,X⟩;have b1:=Zh (b0.out.trans X);clear X b0 e3 e0;by_cases c0:M=0;case neg=>
  have I:C=M:=a7.out uz c0;subst I;have m4:(C != 0)=true:=by rw [bne_iff_ne];exact c0
  clear a8 T U R b4 b2 a6 a7 b5;go_wp2;go_ret2;exact⟨_,rfl,⟨fun _=>rfl,fun h=>absurd h c0⟩,b1.out⟩
 subst c0;have k6:=b4.out uz uz;have j5:=b2.out uz uz;have l1:=b5.out rfl;obtain⟨e1,g2,g9⟩:=Zh3 k6 j5 l1;clear k6 j5 l1 b4 b2 a6 a7 b5;go_wp2_with fail;refine(a8.out _ b1.out g9.out).mono ?_;rintro e J ⟨g,rfl,u,i2⟩;obtain⟨d6,d5,rfl,H⟩:=u;have u:Qy J (.slice d6 ws.length d5) ws:=⟨d6,d5,rfl,H⟩;obtain⟨l6,k9⟩:=zE ws.length;rw [k9] at u ⊢;have O:=Zh u;have d8:=Zh (b1.out.trans i2);clear H k9;clear u i2 b1 a8 g9;go_upto_region 7 with (fail)
 obtain⟨l7,d3⟩:=zE (J.alloc (.cells #[.slice d6 l6 d5] 23));have e7:Ext J l7:=by rw [<-d3];exact(Qa.refl _ J).alloc _
 have e8:l7.ownsRow J.heap.size 23 1 (.slice (some ⟨J.heap.size,0,none⟩) 1 1) 1 [.slice d6 l6 d5]:=by rw [<-d3];exact Qh8 (Nat.le_refl _) _
 rw [d3];obtain⟨a5,D⟩:=zE J.heap.size;rw [D] at e8 ⊢;have p7:w.heap.size<=a5:=by rw [<-D];exact d8.out.size
 obtain⟨g5,g1,g6⟩:=Zh3 e8 (d8.out.trans e7) (O.out.ext e7);clear d3 e7 e8 D d8 O;go_wp2
 refine wp_loop (fun a j=>∃(k:Nat) (e4:Option Addr) (b6:Nat) (a4:List Value) (x:Wd),k<=n/\a.defers=[]/\gS a [0,7,8]=(49,[.slice lo n lc,.slice e4 (k+1) b6,.int .i64 k])/\j.ownsRow a5 23 1 (.slice e4 (k+1) b6) (k+1) a4/\Qy j (a4.getD k undef) x/\Y2 (c.take k) ws=some x/\Ext w j)
  (fun a _=>((n:Int) - intOf (a.tmps.getD 8 undef)).toNat) ?_ ?_
 ·exact⟨0,_,_,_,_,by omega,rfl,rfl,g5.out,g6.out,f7.out,g1.out⟩
 clear g5 g6 f7 g1;rintro⟨p9,_⟩ j ⟨k,e4,b6,a4,x,Z,n0,k7,i4,u,j4,p⟩;subst n0;obtain⟨g,rfl⟩:=Qo k7;clear k7;obtain⟨q,O,a9,Q⟩:=Zh4 i4 u j4 p;clear i4 u j4 p;by_cases n3:k<n;case neg=>
  obtain rfl:k=n:=by omega
  have b7:¬ (k:Int)<(k:Int):=by omega
  obtain⟨I,o3⟩:=g2.out _ a9.out;subst I;subst o3;clear e1 g2 a9 T U R;go_wp2;go_ret2;exact⟨_,rfl,⟨fun h=>absurd rfl h,fun _=>⟨_,_,_,rfl,Rd.of_own q.out,O.out⟩⟩,Q.out⟩
 have b7:(k:Int)<(n:Int):=by omega
 have p3:(0:Int)<=(k:Int):=by omega
 have b9:(k:Int)<(k:Int)+1:=by omega
 have j8:k<ps.length:=by rw [U.out];exact n3
 obtain⟨m3,o4,p0,k3,n1,d0,c7,b8⟩:=(T.out.ext Q.out).at j8;simp only [zV] at k3;obtain⟨rfl,o1,rfl⟩:=k3;have G:=R.out k j8;obtain⟨a3,k2⟩:=zE (ps[k]);rw [k2] at d0 c7 b8 G;obtain⟨f6,o5⟩:=a3;dsimp only at d0 c7 b8 G;have f3:=e1.out k f6 x G a9.out;have m8:n=n:=rfl;obtain⟨e5,m7⟩:=Dh q.out;subst m7;obtain⟨q5,q3,l4,l5,l2⟩:=O.out;have k5:=(Rd.of_own q.out);obtain⟨p2,p8,p1,k4,o2,a2⟩:=Qay k5 (k:=k) oz;simp only [zV,Option.some.injEq,Addr.mk.injEq] at k4;obtain⟨⟨n2,n8,p6⟩,n4,m9⟩:=k4;subst n2;subst n8;subst m9;rw [l4] at a2;have c1:=fun(r:World) (p:Ext j r)=>Qcy (c7.ext p) (l5.ext p) l2;obtain⟨q4,l3⟩:=zE x.length;simp only [l3] at c1 a2;rw [Nat.zero_add] at a2;obtain⟨o7,e9⟩:=zE (trE f6 x);obtain⟨o,f1⟩:=zE (Vc f6 x);simp only [e9,f1] at c1;rw [e9,f1] at f3;obtain⟨f9,g8,f8,d7,g7⟩:=Zh5 c1 d0 b8 f3 a2;clear c1 d0 b8 f3 a2 o1 k2 c7 G l4 l5 l2 l3 e9 f1 m8 k5 o2 n1 n4 T U R a9 O e1;go_upto_region 10 with (fail)
 have f:Ext j j.drew:=(Qa.refl _ j).drew;refine Z7 (S:=fun N=>Ext j N) [] kz f ?_;intro _;refine tE 0 30 f ?_;refine tE 1 31 f ?_;refine tE 2 32 f ?_;refine tkE (i:=3) (d:=33) (v:=?_) rfl (Or.inl ⟨by rfl,?_⟩) f ?_;rotate_left
 ·intro N e6;refine Wg (x:=.tmp 32) ?_ m3 (o4+k*18) ?_ o5 _ (Pi e6 g8.out id) Tryz.underlying50 rfl (by rw [f8.out];kernel_rfl) <;> first | rfl | (simp;done)
 try simp only [Act.put,pq]
 refine tE 4 34 f ?_;refine tE 5 35 f ?_;refine tE 6 36 f ?_;refine tkE (i:=7) (d:=37) (v:=?_) rfl (Or.inl ⟨by rfl,?_⟩) f ?_;rotate_left
 ·intro N e6;have o9:=(show Ext _ N from e6).cell_some g7.out id;go_simp;try with_reducible rfl
 try simp only [Act.put,pq]
 obtain⟨r,j0⟩:=zE j.drew;rw [j0] at f ⊢;clear j0;refine rE [8] ?_;refine Qb.cons rfl (fun K hK=>?_) Qb.nil;refine iw rfl ?_;go_simp;refine(f9.out _ f).mono ?_;rintro e s ⟨q6,rfl,H,j9,X⟩;have t:Ext j s:=f.trans X;have d9:=Zh (Zy.mono j9 fun b hb=>Nat.le_trans f.size hb);obtain⟨A,y,rfl,k0⟩:=H;have H:Qy s (.slice A o.length y) o:=⟨A,y,rfl,k0⟩;have b3:=Zh H
 (try refine⟨_,rfl,?_⟩)
 clear j9 H k0 X f;refine hK _ _ t (fun _=>?_);clear hK K;try simp only [Act.put,pq]
 refine tE 9 29 t ?_;refine tE 10 39 t ?_;refine tE 11 40 t ?_;refine tE 12 9 t ?_;refine tE 13 10 t ?_;refine Z1 kz ?_ _;have V:=Zh t;clear t f9 g8 f8 g7;rcases d7.out with ⟨m5,j3⟩ | ⟨m6,I⟩
 case inr=>
  subst m6;subst I;clear d7 d9 b3 q;go_wp2;go_ret2;exact⟨_,rfl,⟨fun _=>rfl,fun h=>by cases h⟩,Q.out.trans V.out⟩
 subst m5;have l9:=Zh j3;clear j3 d7;have i5:=Qe q.out (V.out.trans ((Qa.refl _ s).alloc (.cells #[.slice A o.length y] 23)));have j6:=q.out.lt e5 (by simp [Value.ownBlock]);have p5:a5<=s.heap.size:=by have:=V.out.size;omega
 have l0:a4.length=k+1:=by have:=Qh3 q.out;omega
 have o0:Qy s (.slice A o.length y) o:=b3.out;obtain⟨e2,g3,g4⟩:=Zh3 l0 j6.2 i5;clear i5
 go_wp2_with (at_builtin;refine Ze rfl (.tmp 44) (.tmp 46) 74 rfl a5 23 _ 1 24 Tryz.underlying74 Qly rfl zd _ _ _ rfl g4.out ⟨s.heap.size,0,none⟩ 1 1 [.slice A o.length y] rfl rfl (Zf rfl) ?c2 ?c3 ?c4 ?c5 ?_)
 case c2=>first | rfl | (intro g k8;simp only [List.mem_cons,List.not_mem_nil,or_false] at k8;rcases k8 with rfl;rfl)
 case c3=>unfold maxLen;omega
 case c4=>omega
 case c5=>first | omega | (simp;omega)
 intro o8 c5 l8 i6 i9 _;have f0:Qa (fun b'=>(Value.slice (some ⟨e5,0,none⟩) (k+1) b6).ownBlock=some b') s l8:=Qa.trans (Qa.alloc (Qa.refl _ s) _) i9;have i3:=(Q.out.trans V.out).after f0 (fun b' b7 e=>by simp only [Value.ownBlock,Option.some.injEq] at e;omega);have f4:Qy l8 (.slice A o.length y) o:=b3.out.keepS (S:=fun b=>b≠e5) (Qa.mono f0 fun b _ hb=>by simp only [Value.ownBlock,Option.some.injEq] at hb;exact fun h=>h hb.symm) (Zy.mono d9.out fun b hb e=>by have:=g3.out;omega);have j7:(a4++[Value.slice A o.length y]).getD (k+1) undef=.slice A o.length y:=by rw [List.getD_eq_getElem?_getD,List.getElem?_append_right (by rw [e2.out];exact Nat.le_refl _),e2.out];simp
 rw [<-j7] at f4;obtain⟨m2,m1,m0⟩:=Zh3 f4 i6 i3;clear f4 i6 i3 i9 f0 j7 o0 g4 q b3 d9 Q V e2 j6 g3 l0;go_wp2;exact⟨⟨k+1,_,_,_,_,by omega,tz,rfl,m1.out,m2.out,l9.out,m0.out⟩,mz⟩
theorem Ey{w:World}{ps:Zl}{lo:Option Addr}{n lc:Nat}{vo:Option Addr}{vc:Nat}{ws:Wd}(l:Zk w (.slice lo n lc) ps) (o:ps.length=n) (D:Qd w (.slice vo ws.length vc) ws) :
  Calls Tryz.prog 66 #[.slice lo n lc,.slice vo ws.length vc] w fun e w'=>∃ ao c,e=.returned (.tuple #[.slice ao (Yv (ps.map (·.1)) ws).length c,.int .i64 (Yp (ps.map (·.1)) ws)])/\Qy w' (.slice ao (Yv (ps.map (·.1)) ws).length c) (Yv (ps.map (·.1)) ws)/\Ext w w':=by
 have a:=Qdk l o D;have L:n<=maxLen:=by rw [<-o];exact l.1.2.1
 unfold maxLen at L;have b:=@Qja (ps.map (·.1)) ws;obtain⟨t,v⟩:=zE (Yp (ps.map (·.1)) ws);obtain⟨f,y⟩:=zE (Yv (ps.map (·.1)) ws);rw [v] at a b ⊢;rw [y] at a b ⊢;obtain⟨Z,E⟩:=zE ws.length;rw [E] at a ⊢;obtain⟨K,j⟩:=zE f.length;rw [j];obtain⟨q,d,r⟩:=Zh3 a b j;clear a b l o D v y E j;go_enter Tryz.func66,Tryz.ntmps66;go_wp2_with fail;refine q.out.mono ?_;rintro e O ⟨X,rfl,i,u⟩;have p:=Zh u;clear u q;by_cases g:t=0;case neg=>
  have U:(t != 0)=true:=by rw [bne_iff_ne];exact g
  have N:=d.out g;subst N;obtain rfl:K=0:=by rw [<-r.out];rfl
  clear i d;go_wp2;go_ret2;exact⟨_,_,rfl,Qy.nil _,p.out⟩
 subst g;obtain⟨ao,c,Y,rfl,C,J,I,G,H,F⟩:=i.2 rfl;clear i d;obtain⟨Q,W,P,B,V,z⟩:=Qay C (k:=n) oz;simp only [zV] at B;obtain⟨rfl,M,rfl⟩:=B;clear M;rw [G] at z;have A:Qy O (.slice J f.length I) f:=⟨J,I,rfl,H,F⟩;have s:=Zh A;rw [r.out] at z s;have R:(n:Int)+1 - 1=(n:Int):=by omega
 have S:(n:Int)<(n:Int)+1:=by omega
 have T:(0:Int)<=(n:Int):=by omega
 clear A G H F C;go_wp2;go_ret2;exact⟨_,_,rfl,s.out,p.out⟩
def Zc(sh i:Nat):Nat × Nat:=((i+sh) % 64,63 - (i+sh) % 64)
def Qz(n sh:Nat):Wd:=(List.range n).map (Zc sh)
theorem Qes(n sh:Nat):Qz (n+1) sh=Qz n sh++[Zc sh n]:=by unfold Qz;rw [List.range_succ,List.map_append];rfl
theorem Y4(n sh:Nat):(Qz n sh).length=n:=by simp [Qz]
theorem Nv(sh i:Nat):Qm (Zc sh i):=by
 have:(i+sh) % 64<64:=Nat.mod_lt _ zd;unfold Zc Qm;dsimp only;omega
theorem Qka(n sh:Nat):Zs (Qz n sh):=fun s hs=>by
 obtain⟨i,_,rfl⟩:=List.mem_map.1 hs;exact Nv sh i
theorem Qmh:∀ q:Nat,q<64->63 &&& (4294967295 - q)=63 - q:=by decide
theorem Df(w:World){n sh:Nat}(a0:n<=64)(a2:sh<256) :
  Calls Tryz.prog 29 #[.int .i64 (n:Int),.int .u8 (sh:Int)] w fun e w'=>∃ ao c,e=.returned (.slice ao n c)/\Qy w' (.slice ao n c) (Qz n sh)/\Ext w w':=by
 obtain⟨i,E⟩:=zE w.heap.size;have x:=Zh E;clear E;go_enter Tryz.func29,Tryz.ntmps29;go_wp2
 refine wp_loop (fun a g=>∃(d:Nat) (ao:Option Addr) (m:Nat),d<=n/\a.defers=[]/\gS a [1,5,8,9]=(27,[.int .u8 (sh:Int),.slice ao d m,.int .i64 n,.int .i64 d])/\g.ownsRow i 26 2 (.slice ao d m) d (Z3 (Qz d sh))/\Ext w g)
  (fun a _=>n - (intOf (a.tmps.getD 9 undef)).toNat) ?_ ?_
 ·exact⟨0,none,0,by omega,rfl,rfl,World.ownsRow_nil _ _ _ _,Qa.refl _ _⟩
 rintro⟨a5,_⟩ g ⟨d,ao,m,Y,R,J,A,y⟩;subst R;obtain⟨u,rfl⟩:=Qo J;clear J;have p:=Zh A;have l:=Zh y;clear A y;by_cases Z:d<n;case neg=>
  obtain rfl:d=n:=by omega
  have Q:¬ (d:Int)<(d:Int):=by omega
  go_wp2;go_ret;refine⟨ao,m,rfl,?_,l.out⟩;have k:=Qy.own (u:=Qz d sh) (by rw [Y4];exact p.out) (Qka d sh);rw [Y4] at k;exact k
 have Q:(d:Int)<(n:Int):=by omega
 have W:(0:Int)<=(d:Int):=by omega
 have a3:IntKind.i64.wrap (sh:Int)=(sh:Int):=IntWalk.i64_in _ oz;have a4:IntKind.i64.wrap ((d:Int)+(sh:Int))=(d:Int)+(sh:Int):=IntWalk.i64_in _ oz;obtain⟨f,H⟩:=zE ((d+sh) % 64);have S:f<64:=by omega
 have a1:((d:Int)+(sh:Int)) % 64=(f:Int):=by omega
 obtain⟨j,r⟩:=zE (63 - f);have X:bits .andNot .u32 63 (f:Int)=(j:Int):=by
  have k:=u32_andNot_nat 63 f zd oz;rw [Qmh f S,r] at k;exact k
 have C:Qz (d+1) sh=Qz d sh++[(f,j)]:=by rw [Qes];unfold Zc;rw [H,r]
 have F:i<=g.heap.size:=by have:=l.out.size;rw [x.out] at this;exact this
 have o:Ext g (g.alloc (.cells #[.int .u32 (f:Int),.int .u32 (j:Int)] 26)):=(Qa.refl _ g).alloc _;have I:=Rd.of_own (World.ownsRow_lit (base:=i) (e:=26) (size:=2) g #[.int .u32 (f:Int),.int .u32 (j:Int)] 1 F zd rfl);have G:=Qe p.out o;have T:=o.size;obtain⟨O,t,q,s⟩:=Zh4 C I G (l.out.trans o);have K:i<=(g.alloc (.cells #[.int .u32 (f:Int),.int .u32 (j:Int)] 26)).heap.size:=by omega
 have v:=Zh K;clear C I G o T K F H r
 go_wp2_with (at_builtin;refine Xi rfl (.tmp 18) (.tmp 23) 23 rfl i 26 _ 2 8 Tryz.underlying23 @Xu rfl zd _ _ _ rfl q.out _ 1 _ _ rfl t.out (by intro u L;simp at L;rcases L with rfl | rfl <;> rfl) ?c3 ?c4 v.out ?_)
 case c3=>unfold maxLen;omega
 case c4=>omega
 intro V U P B D _;have z:Ext w P:=s.out.after D (fun b hb e=>by have:=(q.out.lt b e).1;have:=x.out;omega);have N:=Zh B;have M:=Zh z;clear B z D p q s t v l;go_wp2;exact⟨⟨d+1,V,U,by omega,by first | trivial | rfl,rfl,by have:=N.out;rw [O.out];simpa [Z3] using this,M.out⟩,nz⟩
attribute [local go_sem high] Fd
def u8V(l:List Nat):List Value:=l.map fun(x:Nat)=>Value.int .u8 (x:Int)
theorem Q8r(l:List Nat){k:Nat}(h:k<l.length):(u8V l).getD k undef=.int .u8 (l[k]:Nat):=by rw [List.getD_eq_getElem?_getD];simp [u8V,h]
def Vm(l:List Nat)(most:Nat):Wd:=(l.take most).map fun k=>Zc 0 (k % 8)
theorem Q9x{l:List Nat}{k:Nat}(h:k<l.length):(l.take (k+1)).map (fun k=>Zc 0 (k % 8))=(l.take k).map (fun k=>Zc 0 (k % 8))++[Zc 0 (l[k] % 8)]:=by
 rw [List.take_succ_eq_append_getElem h,List.map_append];rfl
theorem Qct(l:List Nat)(most:Nat):Zs (Vm l most):=fun s hs=>by
 obtain⟨i,_,rfl⟩:=List.mem_map.1 hs;exact Nv 0 _
theorem Qg2{w:World}{base:Nat}{e:TypeId}{ao:Option Addr}{n c:Nat}{u:Wd}(a:u.length=n)(h:w.ownsRow base e 2 (.slice ao n c) n (Z3 u)) (b:Zs u):Qy w (.slice ao n c) u:=by subst a;exact Qy.own h b
theorem Mw{w:World}{ao:Option Addr}{N cap:Nat}{l:List Nat}(C:Rd w (.slice ao N cap) N 1 (u8V l)) (A:l.length=N) (o:∀ x∈l,x<256) (e6:N<=cap) {mo:Nat} (e9:mo<=100) :
  Calls Tryz.prog 28 #[.slice ao N cap,.int .i64 (mo:Int)] w fun e w'=>∃ v,e=.returned v/\Qy w' v (Vm l mo)/\Ext w w':=by
 have d0:=C.2.1;unfold maxLen at d0;obtain⟨d,T⟩:=zE (min N mo);have d2:min (N:Int) (mo:Int)=(d:Int):=by omega
 have e5:d<=N:=by omega
 have e4:d<=100:=by omega
 have a0:Vm l mo=(l.take d).map (fun c=>Zc 0 (c % 8)):=by unfold Vm;congr 1;rw [<-T,<-A,Nat.min_comm];exact(List.take_eq_take_min)
 obtain⟨b8,L,c1,J⟩:=Zh4 C A o a0;clear C A o a0 T;go_enter Tryz.func28,Tryz.ntmps28;go_wp2_with fail;refine(Df w (n:=8) (sh:=0) zd zd).mono ?_;rintro e H ⟨d5,d4,rfl,c9,R⟩;obtain⟨_,_,j,a2,_⟩:=c9;cases j;obtain⟨i,X⟩:=zE H.heap.size;obtain⟨b7,b5,P⟩:=Zh3 a2 R X;clear a2 R X;go_wp2;clear d2
 refine wp_loop (fun a g=>∃(c:Nat) (E:Option Addr) (D:Nat),c<=d/\a.defers=[]/\gS a [5,6,15,16,17]=(31,[.slice d5 8 d4,.slice E c D,.slice ao d cap,.int .i64 d,.int .i64 c])/\g.ownsRow i 26 2 (.slice E c D) c (Z3 ((l.take c).map (fun c=>Zc 0 (c % 8))))/\Ext H g)
  (fun a _=>d - (intOf (a.tmps.getD 17 undef)).toNat) ?_ ?_
 ·exact⟨0,none,0,by omega,rfl,rfl,World.ownsRow_nil _ _ _ _,Qa.refl _ _⟩
 rintro⟨f5,_⟩ g ⟨c,E,D,e7,c6,a7,U,z⟩;subst c6;obtain⟨d8,rfl⟩:=Qo a7;clear a7;obtain⟨u,p,K⟩:=Zh3 U z (b5.out.trans z);clear U z;by_cases e8:c<d;case neg=>
  obtain rfl:c=d:=by omega
  have c5:¬ (c:Int)<(c:Int):=by omega
  go_wp2;go_ret;refine⟨_,rfl,?_,K.out⟩;have d1:(Vm l mo).length=c:=by rw [J.out,List.length_map,List.length_take,L.out];omega
  have Q:=u.out;rw [<-J.out] at Q;exact Qg2 d1 Q (Qct l mo)
 have c5:(c:Int)<(d:Int):=by omega
 have e3:(0:Int)<=(c:Int):=by omega
 have a3:c<N:=by omega
 have t:c<l.length:=by rw [L.out];exact a3
 obtain⟨e1,f3,d9,j,c7,B⟩:=Zb (b8.out.ext K.out) a3;simp only [zV,true_and] at j;obtain⟨rfl,rfl⟩:=j;rw [Q8r l t] at B;have a9:=c1.out _ (List.getElem_mem t);have m:=Q9x t;obtain⟨x,b0⟩:=zE (l[c]);rw [b0] at B a9 m;obtain⟨f,b1⟩:=zE (x % 8);rw [b1] at m;have b2:f<8:=by omega
 have f2:(x:Int) % 8=(f:Int):=by omega
 have f0:(0:Int)<=(f:Int):=by omega
 have f1:(f:Int)<8:=by omega
 have b3:f<(Qz 8 0).length:=by rw [Y4];exact b2
 have Z:=(b7.out.ext p.out).at b3;rw [Y4] at Z;obtain⟨e2,f4,e0,j,c8,q,r⟩:=Z;simp only [zV,true_and] at j;obtain⟨rfl,rfl⟩:=j;have a1:(Qz 8 0).getD f (0,0)=Zc 0 f:=by unfold Qz;rw [List.getD_eq_getElem?_getD];simp [b2]
 rw [a1] at q r;obtain⟨⟨F,G⟩,a5⟩:=zE (Zc 0 f);rw [a5] at q r m;dsimp only at q r;have Y:i<=g.heap.size:=by have:=p.out.size;rw [P.out] at this;exact this
 have k:Ext g (g.alloc (.cells #[.int .u32 (F:Int),.int .u32 (G:Int)] 26)):=(Qa.refl _ g).alloc _;have a6:=Rd.of_own (World.ownsRow_lit (base:=i) (e:=26) (size:=2) g #[.int .u32 (F:Int),.int .u32 (G:Int)] 1 Y zd rfl);have a4:=Qe u.out k;have d3:=k.size;obtain⟨c0,M,y,I,b4⟩:=Zh5 m a6 a4 (p.out.trans k) k;have a8:i<=(g.alloc (.cells #[.int .u32 (F:Int),.int .u32 (G:Int)] 26)).heap.size:=by omega
 have O:=Zh a8;clear m a6 a4 k d3 a8 Y b0 b1 a5 a1 b3 t a9 c7 c8
 go_wp2_with (at_builtin;refine Xi rfl (.tmp 21) (.tmp 27) 23 rfl i 26 _ 2 8 Tryz.underlying23 @Xu rfl zd _ _ _ rfl y.out _ 1 _ _ rfl M.out (by intro d8 o;simp at o;rcases o with rfl | rfl <;> rfl) ?c3 ?c4 O.out ?_)
 case c3=>unfold maxLen;omega
 case c4=>omega
 intro d7 d6 c2 V W _;have S:Ext H c2:=I.out.after W (fun b hb e=>by have:=(y.out.lt b e).1;have:=P.out;omega);have b9:=Zh V;have b6:=Zh S;clear V S W u y I M O p q r B b4;go_wp2;exact⟨⟨c+1,d7,d6,by omega,by first | trivial | rfl,rfl,by have:=b9.out;rw [c0.out];simpa [Z3] using this,b6.out⟩,nz⟩
theorem Qj0:(Tryz.prog.info? 23).map (fun i=>(i.zero,i.size,i.bytes))=some (some (.slice none 0 0),1,24):=by kernel_rfl
def Gc(w:World)(v:Value)(us:List Wd):Prop:=∃ vs,Rd w v us.length 1 vs/\Y1 w vs us
theorem Gc.ext{A B:World}{v:Value}{us:List Wd}(h:Gc A v us)(a:Ext A B):Gc B v us:=by
 obtain⟨d,b,c⟩:=h;exact⟨d,b.ext a,c.ext a⟩
theorem Y1.row{A B:World}{v:Value}{base:Nat}{e:TypeId}{sz n:Nat}{xs:List Value}(hr:Gz Q2r A v)(ho:A.ownsRow base e sz v n xs)(ht:Qa (fun b=>v.ownBlock=some b) A B):∀ {vs:List Value} {us:List Wd},Y1 A vs us->Y1 B vs us
 | [],[],_=>trivial
 | _::_,_::_,⟨h1,h2⟩=>⟨h1.row hr ho ht,Y1.row hr ho ht h2⟩
theorem Qal{ls:List Qg}{a b:Wd}{s:Nat × Nat}(c:Zt ls a b=0)(d:okS s=true):Wm ls a b s=Yp ls (Qp a b s)/\Dn ls a b s=Yv ls (Qp a b s):=by
 unfold Wm Dn;rw [if_pos c,if_pos c,d];exact⟨rfl,rfl⟩
def Qmq(DS:List Wd)(k:Nat):List Nat:=(List.range k).map (Zi DS)
theorem Gc.at{w:World}{vo:Option Addr}{N vc:Nat}{us:List Wd}(h:Gc w (.slice vo N vc) us) (j:us.length=N) {i:Nat} (l:i<N) :
  ∃ g off ao c,vo=some ⟨g,off,none⟩/\g<w.heap.size/\w.cell? ⟨g,off+i,none⟩=some (.slice ao (us.getD i []).length c)/\Qd w (.slice ao (us.getD i []).length c) (us.getD i []):=by
 obtain⟨o,a,f⟩:=h;rw [j] at a;obtain⟨g,off,n,d,k,b⟩:=Zb a l;simp only [zV,true_and] at d;obtain⟨rfl,rfl⟩:=d;obtain⟨ao,c,e,m,_⟩:=f.get i oz;rw [e] at b;exact⟨g,off,ao,c,rfl,k,b,m⟩
def Qn0(DS PL:List Wd)(k:Nat):List Int:=(List.range k).map fun i=>Xj PL (DS.getD i []) PL.length
theorem Qb4:Wm [v15] [(5,2)] [(5,2)] (2,5)=0/\Dn [v15] [(5,2)] [(5,2)] (2,5)=[(5,2),(3,4),(5,2)]:=by decide +kernel
theorem Q0r:Y3 [v15] [(5,2)] [(5,2)] [(2,5),(3,4),(5,2)]=0/\Yb [v15] [(5,2)] [(5,2)] [(2,5),(3,4),(5,2)]=[[(5,2),(3,4),(5,2)],[(5,2),(3,4),(5,2)],[(5,2),(5,2),(5,2)]]:=by decide +kernel
theorem Qcj:Xp [[(5,2),(3,4),(5,2)],[(5,2),(3,4),(5,2)],[(5,2),(5,2),(5,2)]]=[0,0,2]:=by decide +kernel
theorem Qfb:Vf [v15] [(5,2)] [(5,2)] [(2,5),(3,4),(5,2)]=[1,1,2]:=by decide +kernel
theorem Q1z:Jd [1,2,-1,3]=0/\Wt [1,2,-1,3]=[[0,1,2]]:=by decide +kernel
end Go.Proofs.YtejenndedjabhaaGreatDoor
