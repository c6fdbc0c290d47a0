/- ablautref06.Table, repeated patterns; all patterns (printed by gentable.py). -/
import Derived.Test.YtejenndedjabhaaGreatDoorS16
set_option maxRecDepth 100000
set_option maxHeartbeats 8000000
namespace Go.Proofs.YtejenndedjabhaaGreatDoor
open Go.RowKit Go.Ab
attribute [local go_sem] Oper.semAt_some Zm Qv
theorem Q5o{pl mi:Nat}{nt:Bool}{mn mx:Int}{l:List Pat}(h:Ys (.node 5 pl mi nt mn mx l)=0):(∃ q,l=[q])/\0<=mn/\mn<=32/\(mx=-1\/(mn<=mx/\mx<=32)):=by
 obtain⟨b,c,d⟩:=(Md h).2.2.2 rfl;refine⟨b,c,d,?_⟩;rw [Q45,Uz] at h;by_cases a:pl≠0\/mi≠0\/nt=true
 ·rw [if_pos a] at h;exact absurd h zd
 rw [if_neg a] at h;by_cases e:l.length≠1\/mn<0\/32<mn\/(mx≠-1/\(mx<mn\/32<mx))
 ·rw [if_pos e] at h;exact absurd h zd
 omega
theorem Qdf{n:Nat}(hn:n<=32){X:Qg}(h:Qm n X){lo k:Nat}:(∀ a,a<n+1->Q1 (Yy X n lo k) a=Q1 (Yy X n lo (k+1)) a)↔Yy X n lo k=Yy X n lo (k+1):=
 ⟨fun he=>Qc7 hn (Cc h lo k) (Cc h lo (k+1)) (fun a ha=>he a oz),fun he a _=>by rw [he]⟩
theorem Qd4(pl mi:Nat)(nt:Bool)(mn mx:Int)(l:List Pat)(j2:∀ p∈l,Ug p):Ug (.node 5 pl mi nt mn mx l):=by
 intro f3 e l1 o6 u d8 e0 d6 g7;have W:∀ V:World,Ext e V->Qj f3 V (.node 5 pl mi nt mn mx l) l1:=fun V m=>d8.ext m;unfold Qj at d8;obtain⟨c9,b2,rfl,o3,o1,i5,i1,i3⟩:=d8;obtain⟨f7,f6,rfl,i0⟩:=e0.slice;rw [Ka] at g7;obtain⟨d7,i2⟩:=g7;have d4:Xv l:=i2;rw [Kp] at d4;clear i2;have b9:=Kl u 5 pl mi nt mn mx l;obtain⟨⟨L,b4⟩,i6,m6,o2⟩:=Q5o d7;obtain⟨c,rfl⟩:=Int.eq_ofNat_of_zero_le i6;have n9:c<=32:=by omega
 have i7:=Kf u L;rw [if_neg zd,if_neg zd,if_neg zd,if_neg zd,if_pos rfl] at b9;have f9:P5 u l (c:Int) mx=Ur (Yo u L) u.length c (Ge u.length (c:Int) mx):=by rw [b4,P5,Qc4 d6 i7,Int.toNat_natCast]
 rw [f9] at b9;have g3:l.length=1:=by rw [b4];rfl
 have c3:=Zh b4;clear f9 i7 b4 i6 m6;unfold Qd;obtain⟨z,Z⟩:=zE l.length;obtain⟨b,b6⟩:=zE u.length;obtain⟨c4,e5,k2,j8,j7,k1,m9,k3⟩:=Zh8 b6 Z e0 i3 d4 b9 d7 j2;have l7:z=1:=by rw [<-Z];exact g3
 have n4:0<z:=by omega
 clear g3 l7;have m5:z<=maxLen:=by rw [<-Z];exact Nat.le_trans i5 i1
 have t:b<=32:=by rw [<-b6];exact d6
 unfold maxLen at m5 i0;show Calls Tryz.prog 216 #[.agg #[.int .i64 5,.int .u32 (pl:Int),.int .u32 (mi:Int),.bool nt,.int .i64 (c:Int),.int .i64 mx,.slice c9 l.length b2],.slice f7 u.length f6] e _;rw [Z,b6];clear j2 e0 i3 d4 b9 d7 i5 i1 Z b6 d6 i0 W;go_enter Tryz.func216,Tryz.ntmps216
 go_wp2_with (at_make;refine Yw rfl (.tmp 17) (.tmp 17) 238 rfl (e.heap.size+1) 162 _ 8 Tryz.underlying238 Tryz.infoU rfl .i64 .i64 _ _ (b+1) rfl rfl zq zq ?c1 ?c2 zy ?_)
 case c1=>omega
 case c2=>unfold maxLen;omega
 intro j5 q W;obtain⟨H,d0⟩:=zE e.heap.size;have e1:j5.heap[e.heap.size]?=some (.cells #[.int .i64 5,.int .u32 (pl:Int),.int .u32 (mi:Int),.bool nt,.int .i64 (c:Int),.int .i64 mx,.slice c9 z b2] 47 (0,0)):=W.keep (Q3 rfl);have g1:Ext e j5:=Q0.trans ((Q0.refl _ e).alloc _) W;rw [d0] at q e1 ⊢;rw [U6,show Zo (b+1) (fun _=>0)=Zo (b+1) (fun a=>if a<0 then Q1 (noB) a else 0) from Ql fun a _=>by simp] at q;have j6:=Zh d0;have f0:=Zh e1;clear d0 e1 W;go_wp2
 refine wp_loop (fun a n=>∃(k:Nat),k<=b+1/\a.defers=[]/\gS a [1,2,5,6,7]=(153,[.slice f7 b f6,.pointer (some ⟨H,0,none⟩),.int .i64 b,.slice (some ⟨H+1,0,none⟩) (b+1) (b+1),.int .i64 k])/\n.ownsRow (H+1) 162 1 (.slice (some ⟨H+1,0,none⟩) (b+1) (b+1)) (b+1) (Zo (b+1) (fun a=>if a<k then Q1 (noB) a else 0))/\n.heap[H]?=some (.cells #[.int .i64 5,.int .u32 (pl:Int),.int .u32 (mi:Int),.bool nt,.int .i64 (c:Int),.int .i64 mx,.slice c9 z b2] 47 (0,0))/\Ext e n)
  (fun a _=>b+1 - (intOf (a.tmps.getD 7 undef)).toNat) ?_ ?_
 ·exact⟨0,by omega,rfl,rfl,q,f0.out,g1⟩
 clear q g1 f0;rintro⟨m7,_⟩ n ⟨k,l9,d3,a3,q,B,m⟩;subst d3;obtain⟨m8,rfl⟩:=Qc a3;clear a3;have o:=zR B;by_cases n8:k<b+1
 ·have l6:(k:Int)<=(b:Int):=by omega
  have n2:(k:Int)<(b:Int)+1:=by omega
  have n3:(k:Int)<64:=by omega
  have j1:Q1 (noB) k=0:=Uh k
  rw [Ql (g:=fun a=>if a<k+1 then Q1 (noB) a else 0) (fun i _=>by
   by_cases D:i=k
   ·rw [if_neg oz,if_pos oz,D,j1]
   ·by_cases g0:i<k
    ·rw [if_pos g0,if_pos oz]
    ·rw [if_neg g0,if_neg oz])] at q
  have j9:=Zh q;clear q j1;go_wp2;exact⟨⟨k+1,by omega,tz,rfl,j9.out,B,m⟩,mz⟩
 ·obtain rfl:k=b+1:=by omega
  have l6:¬ (((b+1:Nat):Int)<=(b:Int)):=by omega
  rw [Ql (g:=Q1 noB) (fun a ha=>by rw [if_pos ha])] at q;replace q:=Z9 (base':=e.heap.size) q (by have:=j6.out;omega);clear o;have o:=zR B;obtain⟨g,j3,f8,l8,n5,n6,b8,b7⟩:=(j8.out.ext m).get 0 (by rw [e5.out];omega);subst l8;replace b8:n.rangeAt g j3 f8:=by simpa using b8
  have i4:l[0]'(by rw [e5.out];omega)=L:=by have:=c3.out;simp only [this];rfl
  rw [i4] at b7;obtain⟨o5,o4,d2,_,_,_⟩:=Zg b7;obtain⟨k6,c1,c2,k7,k8,k9,l0⟩:=Xj b8 d2;have a1:=k3.out L (by rw [c3.out];simp) f3 n f8 _ u b7 (k2.out.ext m) (by rw [c4.out];exact t) (j7.out L (by rw [c3.out];simp));rw [c4.out,d2] at a1;unfold Qd at a1;obtain⟨d,g6⟩:=zE (Yo u L);have c0:=k1.out;have b5:=Kf u L;rw [g6] at a1 c0 b5;rw [c4.out] at b5 c0;obtain⟨e3,x,e8,f1,e7⟩:=Zh5 a1 b5 c0 B q;have l2:(0:Int)<(z:Int):=by omega
  clear a1 b8 b7 d2 i4 g6 c0 b5 q B;go_wp2_with fail;refine e3.out.mono ?_;rintro D k5 ⟨G,rfl,g4,v⟩;have i8:=Yi.own g4;have e2:=v.keep f1.out;have a0:=Q6 e7.out v;have d1:=m.trans v;clear k6 c1 c2 k7 k8 k9 l0 e3 o g4 f1 e7 m v;have o:=zR e2;go_wp2_with fail;refine(Q2e b t _).mono ?_;rintro D n0 ⟨a4,rfl,K,X⟩;have K:=Z9 (base':=e.heap.size) K (by have:=d1.size;exact this);obtain⟨e6,C,f2⟩:=Zh3 K (i8.ext X) (X.keep e2);have g2:=d1.trans X;have y:=Zh (Q6 a0 X);clear X o e2 d1 K i8 a0 l2;go_wp2
  refine wp_loop (fun a n=>∃(k:Nat) (a5 G a4:Value),k<=c+b+1/\(mx=-1\/(k:Int)<=mx)/\a.defers=[]/\gS a [2,6,10,11,12]=(153,[.pointer (some ⟨H,0,none⟩),a5,G,a4,.int .i64 k])/\n.ownsRow e.heap.size 162 1 a5 (b+1) (Zo (b+1) (Q1 (Yy d b c k)))/\Yi n G (b+1) (Q1 d)/\n.ownsRow e.heap.size 162 1 a4 (b+1) (Zo (b+1) (Q1 (Qw d b k)))/\n.heap[H]?=some (.cells #[.int .i64 5,.int .u32 (pl:Int),.int .u32 (mi:Int),.bool nt,.int .i64 (c:Int),.int .i64 mx,.slice (some ⟨g,j3,none⟩) z b2] 47 (0,0))/\Ext e n)
   (fun a _=>c+b+2 - (intOf (a.tmps.getD 12 undef)).toNat) ?_ ?_
  ·exact⟨0,_,G,a4,by omega,by omega,rfl,rfl,by rw [Q79];exact y.out,C.out,e6.out,f2.out,g2⟩
  clear e6 C f2 g2 y;rintro⟨m7,_⟩ n ⟨k,a5,G,a4,l9,m2,d3,a3,a0,g5,K,B,m⟩;subst d3;obtain⟨m8,rfl⟩:=Qc a3;clear a3;obtain⟨Q,S,P,b1⟩:=Zh4 a0 g5 K B;have o:=zR B;clear a0 g5 K B;by_cases m0:k<c
  ·have l3:¬ ((c:Int)<=(k:Int)):=by omega
   have i9:=Q8o d b m0;have e9:=Zh i9;clear i9;go_wp2_with fail;refine(Dh t (Yi.own P.out) S.out (Qm.pow x.out k)).mono ?_;rintro D c7 ⟨a6,rfl,E,f⟩;have w:=Z9 (base':=e.heap.size) E (by have:=(m).size;exact this);have F:Q1 (comp (Qw d b k) d)=Q1 (Qw d b (k+1)):=by rw [<-S0 t x.out]
   rw [F] at w;obtain⟨N,y,C,O⟩:=Zh4 w (Q6 Q.out f) (Yi.ext S.out f) (Q0.heap f b1.out id);have Y:=Q0.trans m f;clear E w F f;have k0:Hid (c7.ownsRow e.heap.size 162 1 a5 (b+1) (Zo (b+1) (Q1 (Yy d b c (k+1))))):=Zh (by rw [e9.out];exact y.out);clear o m Q S P b1 y e9;go_wp2;exact⟨⟨k+1,a5,G,a6,by omega,by omega,tz,rfl,k0.out,C.out,N.out,O.out,Y⟩,nz⟩
  have l3:(c:Int)<=(k:Int):=by omega
  go_wp2_with fail;refine(Q10 t (Yi.own Q.out) (Yi.own P.out) (fun a=>Xd _ a) (fun a=>Xd _ a)).mono ?_;rintro D k5 ⟨j4,rfl,s,v⟩;have s:=Z9 (base':=e.heap.size) s (by have:=m.size;exact this);have j0:(fun a=>Q1 (Yy d b c k) a ||| Q1 (Qw d b k) a)=Q1 (Yy d b c (k+1)):=by
   funext a;rw [Bh,Q75 d b oz]
  rw [j0] at s;obtain⟨I,a9,T,a8,U⟩:=Zh5 s (Q6 Q.out v) (S.out.ext v) (Q6 P.out v) (v.keep b1.out);have M:=m.trans v;clear s j0 v m o Q S P b1;have o:=zR U.out;by_cases A:(k:Int)=mx
  ·have d5:=Qa5 d b (mn:=(c:Int)) (mx:=mx) (k:=k) oz oz A;rw [Int.toNat_natCast] at d5;have a2:Q1 (Yy d b c (k+1))=Q1 (Yo u (.node 5 pl mi nt c mx l)):=by rw [d5,e8.out]
   have s:=I.out;rw [a2] at s;have c5:=Zh s;have l4:((k:Int) == mx)=true:=by rw [beq_iff_eq];exact A
   have e4:=Zh A;clear d5 a2 s I A;go_wp2;go_ret;exact⟨_,rfl,c5.out,M⟩
  have l4:((k:Int) == mx)=false:=by rw [beq_eq_false_iff_ne];exact A
  by_cases n7:c<k
  ·have l5:(c:Int)<(k:Int):=by omega
   have m1:mx=-1\/(k:Int)+1<=mx:=by omega
   have m3:mx=-1\/(k:Int)<=mx:=m2;have e4:=Zh A;clear A;go_wp2_with fail;refine(Q7m t (Yi.own a9.out) (Yi.own I.out) (fun a=>Xd _ a) (fun a=>Xd _ a)).mono ?_;rintro D n1 ⟨⟨f5,rfl,g8⟩,J⟩;have g9:f5=true↔Yy d b c k=Yy d b c (k+1):=g8.trans (Qdf t x.out);obtain⟨k4,b0,c6,f4,c8⟩:=Zh5 (Q6 a9.out J) (Q6 I.out J) (T.out.ext J) (Q6 a8.out J) (J.keep U.out);have b3:=M.trans J;have a7:=Zh g9;clear g8 g9 J M o a9 I T a8 U;cases f5
   ·have o0:k<c+b+1:=by
     apply Nat.lt_of_not_le;intro m4;have:=a7.out.2 (Qbi t x.out m4);cases this
    have o:=zR c8.out;go_wp2_with fail;refine(Dh t (Yi.own f4.out) c6.out (Qm.pow x.out k)).mono ?_;rintro D c7 ⟨a6,rfl,E,f⟩;have w:=Z9 (base':=e.heap.size) E (by have:=(b3).size;exact this);have F:Q1 (comp (Qw d b k) d)=Q1 (Qw d b (k+1)):=by rw [<-S0 t x.out]
    rw [F] at w;obtain⟨N,y,C,O⟩:=Zh4 w (Q6 b0.out f) (Yi.ext c6.out f) (Q0.heap f c8.out id);have Y:=Q0.trans b3 f;clear E w F f;clear o b3 k4 b0 c6 f4 c8 a7;go_wp2;exact⟨⟨k+1,j4,G,a6,by omega,by omega,tz,rfl,y.out,C.out,N.out,O.out,Y⟩,nz⟩
   ·have d9:=Q3s t x.out (mn:=(c:Int)) (mx:=mx) (k:=k) oz oz oz m3 (by rw [Int.toNat_natCast];exact a7.out.1 rfl);rw [Int.toNat_natCast] at d9;have a2:Q1 (Yy d b c (k+1))=Q1 (Yo u (.node 5 pl mi nt c mx l)):=by rw [d9,e8.out]
    have s:=b0.out;rw [a2] at s;have c5:=Zh s;clear d9 a2 s b0 a7;go_wp2;go_ret;exact⟨_,rfl,c5.out,b3⟩
  ·have l5:¬ (c:Int)<(k:Int):=by omega
   have e4:=Zh A;have m1:mx=-1\/(k:Int)+1<=mx:=by omega
   clear A;go_wp2_with fail;refine(Dh t (Yi.own a8.out) T.out (Qm.pow x.out k)).mono ?_;rintro D c7 ⟨a6,rfl,E,f⟩;have w:=Z9 (base':=e.heap.size) E (by have:=(M).size;exact this);have F:Q1 (comp (Qw d b k) d)=Q1 (Qw d b (k+1)):=by rw [<-S0 t x.out]
   rw [F] at w;obtain⟨N,y,C,O⟩:=Zh4 w (Q6 I.out f) (Yi.ext T.out f) (Q0.heap f U.out id);have Y:=Q0.trans M f;clear E w F f;clear o M a9 I T a8 U;go_wp2;exact⟨⟨k+1,j4,G,a6,by omega,by omega,tz,rfl,y.out,C.out,N.out,O.out,Y⟩,nz⟩
mutual
theorem Nc:∀ p:Pat,Ug p
 | .node k pl mi nt mn mx l=>by
  intro K w cs v ws hp hv hn hall;have hk:=Md ((Ka _).1 hall).1;have h7:k=0\/k=1\/k=2\/k=3\/k=4\/k=5\/k=6:=by omega
  rcases h7 with rfl | rfl | rfl | rfl | rfl | rfl | rfl
  ·exact Qcy pl mi nt mn mx l K w cs v ws hp hv hn hall
  ·exact Qck pl mi nt mn mx l K w cs v ws hp hv hn hall
  ·exact Qcz pl mi nt mn mx l K w cs v ws hp hv hn hall
  ·exact Qdl pl mi nt mn mx l (Dn l) K w cs v ws hp hv hn hall
  ·exact Qcg pl mi nt mn mx l (Dn l) K w cs v ws hp hv hn hall
  ·exact Qd4 pl mi nt mn mx l (Dn l) K w cs v ws hp hv hn hall
  ·exact Qde pl mi nt mn mx l K w cs v ws hp hv hn hall
theorem Dn:∀ l:List Pat,∀ p∈l,Ug p
 | [],_,h=>by cases h
 | q::l,p,h=>(List.mem_cons.1 h).elim (fun e=>e ▸ Nc q) (fun h=>Dn l p h)
end
theorem Q3z{K:Nat->Prop}{w:World}{p:Pat}{cs:List Value}{v:Value}{ws:Wd}(I:Qj K w p cs)(L:Q4 w v ws)(i:Int) :
  Calls Tryz.prog 203 #[.agg cs.toArray,v,.int .i64 i] w fun e w'=>∃ u,e=.returned (.tuple #[u,.int .i64 (X0 p ws i)])/\w'.ownsRow w.heap.size 3 1 u (V4 p ws i).length (Y4 (V4 p ws i))/\Ext w w':=by
 have a9:=fun(V:World) (k:Ext w V)=>Rn (I.ext k) (L.ext k);have b6:=fun(V:World) (k:Ext w V) (h:Jc p ws=0)=>Nc p K V cs v ws (I.ext k) (L.ext k) (Wq.1 h).2.1 (Ej h);have b2:Jc p ws=0->Vl p ws=Yo ws p/\ws.length<=32:=fun h=>⟨Cb h,(Wq.1 h).2.1⟩;obtain⟨c8,d4,rfl,e3,d9,_⟩:=Zg I;obtain⟨d1,d0,rfl,a8⟩:=L.slice;obtain⟨G,D,z⟩:=Zh3 a9 b6 b2;clear I e3 d9 L a9 b6 b2;obtain⟨t,U⟩:=zE (Jc p ws);obtain⟨f,H⟩:=zE ws.length;obtain⟨g,a4⟩:=zE (Yo ws p);have m:Hid (X0 p ws i=if t=0 then exE f i else t):=Zh (by unfold X0;rw [U,H]);have A:Hid (V4 p ws i=if X0 p ws i=0 then(List.range (f+1)).filter (fun x=>Vl p ws i.toNat x) else []):=Zh (by unfold V4;rw [H]);rw [U] at G D z;rw [a4] at D z;rw [H] at G D z a8 ⊢;clear U H a4;unfold maxLen at a8;unfold Qd at G D ⊢;go_enter Tryz.func203,Tryz.ntmps203;go_wp2_with fail;refine(G.out _ ((Q0.refl _ w).alloc _)).mono ?_;rintro e b8 ⟨rfl,S⟩;have E:Ext w b8:=Q0.trans ((Q0.refl _ w).alloc _) S;have M:b8.heap[w.heap.size]?=some (.cells #[.int .i64 p.k,.int .u32 (p.pl:Int),.int .u32 (p.mi:Int),.bool p.nt,.int .i64 p.mn,.int .i64 p.mx,.slice c8 p.l.length d4] 47 (0,0)):=S.keep (Q3 rfl);have Q:=zR M;clear S;by_cases s:t=0;case neg=>
  have e6:(t == 0)=false:=by rw [beq_eq_false_iff_ne];exact s
  rw [if_neg s] at m;have B:Hid (V4 p ws i=[]):=Zh (by rw [A.out,m.out,if_neg s]);clear s Q M;go_wp2;refine bodyPost_ret (Y5 rfl _ _ _) rfl ⟨_,by rw [m.out];rfl,?_,E⟩;rw [B.out];exact World.ownsRow_nil _ _ _ _
 rw [if_pos s] at m;subst s;obtain⟨b3,f4⟩:=z.out rfl;rw [b3] at A;clear b3 z;by_cases T:i<0\/(f:Int)<i
 ·have F:exE f i=3:=by unfold exE;rw [if_pos T]
  rw [F] at m;have B:Hid (V4 p ws i=[]):=Zh (by rw [A.out,m.out,if_neg zd]);clear F Q M;go_wp2
  all_goals
   refine bodyPost_ret (Y5 rfl _ _ _) rfl ⟨_,by rw [m.out];rfl,?_,E⟩;rw [B.out];exact World.ownsRow_nil _ _ _ _
 have F:exE f i=0:=by unfold exE;rw [if_neg T]
 rw [F] at m;obtain⟨c,rfl⟩:∃ c:Nat,i=c:=⟨i.toNat,by omega⟩;have B:Hid (V4 p ws c=(List.range (f+1)).filter (fun x=>g c x)):=Zh (by rw [A.out,m.out];rfl);have f3:c<=f:=by omega
 have e4:¬ ((c:Int)<0):=by omega
 have e5:¬ ((f:Int)<(c:Int)):=by omega
 clear F A T;go_wp2_with fail;refine(D.out _ E tz).mono ?_;rintro e b9 ⟨f8,rfl,a3,a0⟩;obtain⟨d6,d5,rfl,e1,b0⟩:=Yi.own a3;have Z:=E.trans a0;have c1:=Zh b0;obtain⟨y,R⟩:=zE b9.heap.size;have X:=Zh R;have d7:w.heap.size<=y:=by rw [<-R];exact Z.size
 clear R;clear a3 a0 Q M E b0 e1;go_wp2
 refine wp_loop (fun a n=>∃(d:Nat) (N:Value),d<=f+1/\a.defers=[]/\gS a [1,2,9,10,11]=(48,[.slice d1 f d0,.int .i64 c,.slice (some ⟨d6,0,none⟩) (f+1) d5,N,.int .i64 d])/\n.ownsRow y 3 1 N ((List.range d).filter (fun x=>g c x)).length (Y4 ((List.range d).filter (fun x=>g c x)))/\Ext b9 n)
  (fun a _=>f+1 - (intOf (a.tmps.getD 11 undef)).toNat) ?_ ?_
 ·exact⟨0,_,by omega,rfl,rfl,World.ownsRow_nil _ _ _ _,Q0.refl _ _⟩
 rintro⟨f7,_⟩ n ⟨d,N,f0,e0,b5,o,k⟩;subst e0;obtain⟨u,rfl⟩:=Qc b5;clear b5;by_cases f1:d<f+1
 ·have Y:(d:Int)<=(f:Int):=by omega
  have e7:(c:Int)<(f:Int)+1:=by omega
  have e8:(d:Int)<64:=by omega
  have e9:(c:Int)<64:=by omega
  have d3:=k.cell_some (c1.out c oz) id;have e2:=Xd g c;have a7:=Q6i g c d oz;have b1:(List.range (d+1)).filter (fun x=>g c x)=(List.range d).filter (fun x=>g c x)++if g c d then [d] else []:=by
   rw [List.range_succ,List.filter_append];cases J:g c d <;> simp [J]
  have f2:((List.range d).filter (fun x=>g c x)).length<=33:=by
   have:=List.length_filter_le (fun x=>g c x) (List.range d);simp at this;omega
  have O:=Zh b1;obtain⟨f6,b4⟩:=zE (Q1 g c);rw [b4] at d3 e2 a7;clear b1 b4;obtain⟨W,J⟩:=zE (g c d);rw [J] at a7 O;have C:=Zh o;clear J o;cases W
  ·have q:=O.out;rw [if_neg zd,List.append_nil] at q;have P:=C.out;rw [<-q] at P;have c6:=Zh P;clear q P;go_wp2;exact⟨⟨d+1,_,by omega,tz,rfl,c6.out,k⟩,nz⟩
  ·have f5:y<=n.heap.size:=by have:=k.size;have:=X.out;omega
   go_wp2_with (at_builtin;refine Qo rfl (.tmp 43) (.tmp 45) 36 rfl y 3 _ 1 8 Tryz.underlying36 Tryz.infoI rfl zd _ _ _ rfl (Q6 C.out ((Q0.refl _ n).alloc _)) ⟨n.heap.size,0,none⟩ 1 1 [.int .i64 d] rfl rfl (Qn rfl) ?c2 ?c3 ?c4 ?c5 ?_)
   case c2=>first | rfl | (intro u b7;simp at b7;rcases b7 with rfl;rfl)
   case c3=>unfold maxLen;omega
   case c4=>omega
   case c5=>first | omega | (simp;omega)
   intro c9 d2 c0 a1 a5 _;have a6:Q0 (fun b'=>N.ownBlock=some b') n c0:=Q0.trans (Q0.alloc (Q0.refl _ n) _) a5;have d8:=k.after a6 (fun b' Y e=>by have:=(C.out.lt _ e).1;have:=X.out;omega);have q:=O.out;simp only [if_true] at q;have a2:c0.ownsRow y 3 1 (.slice c9 (((List.range d).filter (fun x=>g c x)).length+1) d2) ((List.range (d+1)).filter (fun x=>g c x)).length (Y4 ((List.range (d+1)).filter (fun x=>g c x))):=by
    rw [q,List.length_append,Uq];exact a1
   have c7:=Zh a2;clear a1 a2 a5 a6 q;go_wp2;exact⟨⟨d+1,_,by omega,tz,rfl,c7.out,d8⟩,nz⟩
 ·obtain rfl:d=f+1:=by omega
  have Y:¬ (((f+1:Nat):Int)<=(f:Int)):=by omega
  rw [<-B.out] at o;have o:=Z9 o d7;have C:=Zh o;clear o;go_wp2;exact bodyPost_ret (Y5 rfl _ _ _) rfl ⟨_,by rw [m.out];rfl,C.out,Z.trans k⟩
theorem Ew{K:Nat->Prop}{w:World}{p:Pat}{cs:List Value}{v:Value}{ws:Wd}(I:Qj K w p cs)(L:Q4 w v ws)(i:Int) :
  Calls Tryz.prog 202 #[.agg cs.toArray,v,.int .i64 i] w fun e w'=>∃ u,e=.returned (.tuple #[u,.int .i64 (X0 p ws i)])/\w'.ownsRow w.heap.size 3 1 u (Vd p ws i).length (Y4 (Vd p ws i))/\Ext w w':=by
 have a9:=fun(V:World) (k:Ext w V)=>Rn (I.ext k) (L.ext k);have b6:=fun(V:World) (k:Ext w V) (h:Jc p ws=0)=>Nc p K V cs v ws (I.ext k) (L.ext k) (Wq.1 h).2.1 (Ej h);have b2:Jc p ws=0->Vl p ws=Yo ws p/\ws.length<=32:=fun h=>⟨Cb h,(Wq.1 h).2.1⟩;obtain⟨c8,d4,rfl,e3,d9,_⟩:=Zg I;obtain⟨d1,d0,rfl,a8⟩:=L.slice;obtain⟨G,D,z⟩:=Zh3 a9 b6 b2;clear I e3 d9 L a9 b6 b2;obtain⟨t,U⟩:=zE (Jc p ws);obtain⟨f,H⟩:=zE ws.length;obtain⟨g,a4⟩:=zE (Yo ws p);have m:Hid (X0 p ws i=if t=0 then exE f i else t):=Zh (by unfold X0;rw [U,H]);have A:Hid (Vd p ws i=if X0 p ws i=0 then(List.range (f+1)).filter (fun x=>Vl p ws x i.toNat) else []):=Zh (by unfold Vd;rw [H]);rw [U] at G D z;rw [a4] at D z;rw [H] at G D z a8 ⊢;clear U H a4;unfold maxLen at a8;unfold Qd at G D ⊢;go_enter Tryz.func202,Tryz.ntmps202;go_wp2_with fail;refine(G.out _ ((Q0.refl _ w).alloc _)).mono ?_;rintro e b8 ⟨rfl,S⟩;have E:Ext w b8:=Q0.trans ((Q0.refl _ w).alloc _) S;have M:b8.heap[w.heap.size]?=some (.cells #[.int .i64 p.k,.int .u32 (p.pl:Int),.int .u32 (p.mi:Int),.bool p.nt,.int .i64 p.mn,.int .i64 p.mx,.slice c8 p.l.length d4] 47 (0,0)):=S.keep (Q3 rfl);have Q:=zR M;clear S;by_cases s:t=0;case neg=>
  have e6:(t == 0)=false:=by rw [beq_eq_false_iff_ne];exact s
  rw [if_neg s] at m;have B:Hid (Vd p ws i=[]):=Zh (by rw [A.out,m.out,if_neg s]);clear s Q M;go_wp2;refine bodyPost_ret (Y5 rfl _ _ _) rfl ⟨_,by rw [m.out];rfl,?_,E⟩;rw [B.out];exact World.ownsRow_nil _ _ _ _
 rw [if_pos s] at m;subst s;obtain⟨b3,f4⟩:=z.out rfl;rw [b3] at A;clear b3 z;by_cases T:i<0\/(f:Int)<i
 ·have F:exE f i=3:=by unfold exE;rw [if_pos T]
  rw [F] at m;have B:Hid (Vd p ws i=[]):=Zh (by rw [A.out,m.out,if_neg zd]);clear F Q M;go_wp2
  all_goals
   refine bodyPost_ret (Y5 rfl _ _ _) rfl ⟨_,by rw [m.out];rfl,?_,E⟩;rw [B.out];exact World.ownsRow_nil _ _ _ _
 have F:exE f i=0:=by unfold exE;rw [if_neg T]
 rw [F] at m;obtain⟨d,rfl⟩:∃ d:Nat,i=d:=⟨i.toNat,by omega⟩;have B:Hid (Vd p ws d=(List.range (f+1)).filter (fun x=>g x d)):=Zh (by rw [A.out,m.out];rfl);have f3:d<=f:=by omega
 have e4:¬ ((d:Int)<0):=by omega
 have e5:¬ ((f:Int)<(d:Int)):=by omega
 clear F A T;go_wp2_with fail;refine(D.out _ E tz).mono ?_;rintro e b9 ⟨f8,rfl,a3,a0⟩;obtain⟨d6,d5,rfl,e1,b0⟩:=Yi.own a3;have Z:=E.trans a0;have c1:=Zh b0;obtain⟨y,R⟩:=zE b9.heap.size;have X:=Zh R;have d7:w.heap.size<=y:=by rw [<-R];exact Z.size
 clear R;clear a3 a0 Q M E b0 e1;go_wp2
 refine wp_loop (fun a n=>∃(c:Nat) (N:Value),c<=f+1/\a.defers=[]/\gS a [1,2,9,10,11]=(48,[.slice d1 f d0,.int .i64 d,.slice (some ⟨d6,0,none⟩) (f+1) d5,N,.int .i64 c])/\n.ownsRow y 3 1 N ((List.range c).filter (fun x=>g x d)).length (Y4 ((List.range c).filter (fun x=>g x d)))/\Ext b9 n)
  (fun a _=>f+1 - (intOf (a.tmps.getD 11 undef)).toNat) ?_ ?_
 ·exact⟨0,_,by omega,rfl,rfl,World.ownsRow_nil _ _ _ _,Q0.refl _ _⟩
 rintro⟨f7,_⟩ n ⟨c,N,f0,e0,b5,o,k⟩;subst e0;obtain⟨u,rfl⟩:=Qc b5;clear b5;by_cases f1:c<f+1
 ·have Y:(c:Int)<=(f:Int):=by omega
  have e7:(c:Int)<(f:Int)+1:=by omega
  have e8:(c:Int)<64:=by omega
  have e9:(d:Int)<64:=by omega
  have d3:=k.cell_some (c1.out c oz) id;have e2:=Xd g c;have a7:=Q6i g c d oz;have b1:(List.range (c+1)).filter (fun x=>g x d)=(List.range c).filter (fun x=>g x d)++if g c d then [c] else []:=by
   rw [List.range_succ,List.filter_append];cases J:g c d <;> simp [J]
  have f2:((List.range c).filter (fun x=>g x d)).length<=33:=by
   have:=List.length_filter_le (fun x=>g x d) (List.range c);simp at this;omega
  have O:=Zh b1;obtain⟨f6,b4⟩:=zE (Q1 g c);rw [b4] at d3 e2 a7;clear b1 b4;obtain⟨W,J⟩:=zE (g c d);rw [J] at a7 O;have C:=Zh o;clear J o;cases W
  ·have q:=O.out;rw [if_neg zd,List.append_nil] at q;have P:=C.out;rw [<-q] at P;have c6:=Zh P;clear q P;go_wp2;exact⟨⟨c+1,_,by omega,tz,rfl,c6.out,k⟩,nz⟩
  ·have f5:y<=n.heap.size:=by have:=k.size;have:=X.out;omega
   go_wp2_with (at_builtin;refine Qo rfl (.tmp 43) (.tmp 45) 36 rfl y 3 _ 1 8 Tryz.underlying36 Tryz.infoI rfl zd _ _ _ rfl (Q6 C.out ((Q0.refl _ n).alloc _)) ⟨n.heap.size,0,none⟩ 1 1 [.int .i64 c] rfl rfl (Qn rfl) ?c2 ?c3 ?c4 ?c5 ?_)
   case c2=>first | rfl | (intro u b7;simp at b7;rcases b7 with rfl;rfl)
   case c3=>unfold maxLen;omega
   case c4=>omega
   case c5=>first | omega | (simp;omega)
   intro c9 d2 c0 a1 a5 _;have a6:Q0 (fun b'=>N.ownBlock=some b') n c0:=Q0.trans (Q0.alloc (Q0.refl _ n) _) a5;have d8:=k.after a6 (fun b' Y e=>by have:=(C.out.lt _ e).1;have:=X.out;omega);have q:=O.out;simp only [if_true] at q;have a2:c0.ownsRow y 3 1 (.slice c9 (((List.range c).filter (fun x=>g x d)).length+1) d2) ((List.range (c+1)).filter (fun x=>g x d)).length (Y4 ((List.range (c+1)).filter (fun x=>g x d))):=by
    rw [q,List.length_append,Uq];exact a1
   have c7:=Zh a2;clear a1 a2 a5 a6 q;go_wp2;exact⟨⟨c+1,_,by omega,tz,rfl,c7.out,d8⟩,nz⟩
 ·obtain rfl:c=f+1:=by omega
  have Y:¬ (((f+1:Nat):Int)<=(f:Int)):=by omega
  rw [<-B.out] at o;have o:=Z9 o d7;have C:=Zh o;clear o;go_wp2;exact bodyPost_ret (Y5 rfl _ _ _) rfl ⟨_,by rw [m.out];rfl,C.out,Z.trans k⟩
end Go.Proofs.YtejenndedjabhaaGreatDoor
