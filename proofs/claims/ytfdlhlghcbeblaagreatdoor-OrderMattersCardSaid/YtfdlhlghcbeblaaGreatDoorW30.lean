/- PLAIN: -/
import Derived.Test.YtfdlhlghcbeblaaGreatDoorW27
import Derived.Test.YtfdlhlghcbeblaaGreatDoorW29
set_option maxRecDepth 100000
set_option maxHeartbeats 16000000
namespace Go.Proofs.YtfdlhlghcbeblaaGreatDoor
open Go.RowKit Go.Ab
def Rf(F G:List Bool)(k:Nat):Bool:=(List.range k).any fun j=>F.getD j false && !G.getD j false
theorem Q49(F G:List Bool)(k:Nat):Rf F G (k+1)=(Rf F G k || (F.getD k false && !G.getD k false)):=by
 unfold Rf;rw [List.range_succ,List.any_append];simp
theorem Q8z{F G:List Bool}{k:Nat}(h:F.length=k):Rf F G k=exB F G:=by subst h;rfl
attribute [local go_sem] Oper.semAt_some Z1 Qk
theorem Q62{w:World}{A:Option Addr}{m c:Nat}{qs:Q8}(h:Z3 w (.slice A m c) qs) (k:qs.length=m) {j:Nat} (g:j<m) (t:m<=c):∃ ao c',sliced A j (j+1) c 2=.slice ao 1 c'/\Z3 w (.slice ao 1 c') [qs[j]'(by rw [k];exact g)]:=by
 have o:j<qs.length:=by rw [k];exact g
 obtain⟨b,e,s,a,r,q,d⟩:=J5.at h o;obtain⟨a,n⟩:=a zd;simp only [zV] at a;obtain⟨rfl,_,_⟩:=a;have l:sliced (some ⟨b,e,none⟩) j (j+1) c 2=.slice (some ⟨b,e+j*2,none⟩) 1 (c - j):=by
  unfold sliced;rw [if_neg oz];simp only [Option.map_some,Ck];rw [show j+1 - j=1 by omega]
 refine⟨_,_,l,⟨by simp [d],by unfold maxLen;simp,_,_,rfl,fun _=>⟨b,e+j*2,rfl,n,fun i hi=>?_⟩⟩,fun p hp=>?_⟩
 ·have f:i<qs[j].2.length:=by rw [d];simpa using hi
  have:=r i _ (List.getElem?_eq_getElem f);rw [this];simp [List.getD_eq_getElem?_getD,f]
 ·rw [List.mem_singleton] at hp;subst hp;exact⟨d,q⟩
theorem Qak(ps:Qg)(q:(Wd × Wd) × List Value) (x:List Nat):(V4 ps [q] x:Int)=if Gl ps x q.1.1 q.1.2=true then 1 else 0:=by
 rw [Qb1]
 split <;> rfl
theorem Tc{Q:Nat->Bool}{mx i:Nat}(a:i<mx)(h:Q i=true):((List.range mx).filter Q)[((List.range i).filter Q).length]?=some i:=by
 have:=St (p:=Q) (L:=List.range mx) (i:=i) (by simpa using a) (by simpa using h);rw [List.take_range] at this;rw [Nat.min_eq_left oz] at this
 simpa using this
def Qcp(lv pv rv mv:Value)(mx:Nat)(w2:World)(P:Nat->Nat)(a:Act)(W:World):Prop:=∃(i:Nat),i<=mx/\a.defers=[]/\gS a [0,1,8,9,11,12]=(130,[lv,pv,rv,mv,.int .i64 (P i:Nat),.int .i64 i])/\Ext w2 W
def Qcz(m i K:Nat)(lv pv rv mv yv:Value)(F G:List Bool)(V:World)(a:Act)(W:World):Prop:=∃(k:Nat),k<=m/\a.defers=[]/\gS a [0,1,8,9,11,12,13,14,15]=(130,[lv,pv,rv,mv,.int .i64 (K:Nat),.int .i64 i,yv,.bool (Rf F G k),.int .i64 k])/\Ext V W
theorem By{w:World}{ps:Qg}{qs:Q8}{lo:Option Addr}{n lc:Nat}{e0:Option Addr}{m pc:Nat}(g0:Qz w (.slice lo n lc) ps) (a4:ps.length=n) (g3:Z3 w (.slice e0 m pc) qs) (b8:qs.length=m) (x1:m<=pc) (e1:Nat) (A1:e1<256) (d4:Tab w) :
  Calls Tryz.prog 10 #[.slice lo n lc,.slice e0 m pc,.int .u8 (e1:Int)] w fun e w'=>e=.returned (.bool true)/\Ext w w':=by
 have t6:=Hn g0 a4 g3 b8 d4;have t9:=fun(k:World) (H:Ext w k)=>Hl k (d4.keep H id);have b7:=fun(k:World) (h:n<=4)=>Er (w:=k) h;have R:=Xw n;have k3:=Dm n;have k4:=Eu n;have r1:=fun(k:World) (H:Ext w k) (g:List Nat) (e2:Option Addr) (K:Nat) (a7:Rd k (.slice e2 n K) n 1 (Qd g)) (hyl:g.length=n) (R:∀ x∈g,x<n) (h4:n<=4) (ao:Option Addr) (c:Nat) (q:(Wd × Wd) × List Value) (hq:Z3 k (.slice ao 1 c) [q])=>Q1n (g0.ext H) a4 a7 hyl R oz hq rfl (d4.keep H id);have T:=fun(k:World) (H:Ext w k) (x:List Nat) (e2:Option Addr) (K:Nat) (a7:Rd k (.slice e2 n K) n 1 (Qd x)) (hyl:x.length=n)=>Mw (xs:=Xt x) (g0.ext H) a4 (by rw [S2];exact a7) (by unfold Xt;rw [List.length_map,hyl]) (Qj g3 H) b8 (d4.keep H id)
 have V:Qo (ps.map (·.1)) (qs.map (·.1))=0->∀ x∈Qa n,Y5 (ps.map (·.1)) (Xt x) (qs.map (·.1))=0/\Gp (ps.map (·.1)) (Xt x) qs=(List.range (n - 1)).filter (fun i=>exB (Z8 ps x qs) (Z8 ps (Yx x i) qs)):=fun h x hx=>by
  have t8:=W4 (LD:=ps.map (·.1)) h (x:=x) (by rw [List.length_map,a4];exact hx);have W:=(R x hx).1;have w1:=(Gz h).1;rw [List.length_map,a4] at w1;refine⟨t8,?_⟩;unfold Gp;rw [if_pos t8,Pk];unfold Xt;rw [List.length_map,W];apply List.filter_congr;intro i _;unfold Kh;rw [H5 h oz,H5 h (by rw [Wl];omega)]
 have l2:W8 (ps.map (·.1)) (qs.map (·.1))->n<=4/\m<=5/\Qo (ps.map (·.1)) (qs.map (·.1))=0:=fun h=>by
  obtain⟨j9,p5,N⟩:=h;rw [List.length_map,a4] at j9;rw [List.length_map,b8] at p5;exact⟨j9,p5,N⟩
 have b6:∀ l,(Z8 ps l qs).length=m:=fun l=>by unfold Z8;rw [List.length_map,b8]
 have b5:∀ l f (h:f<qs.length),(Z8 ps l qs).getD f false=Gl ps l qs[f].1.1 qs[f].1.2:=fun l f h=>by unfold Z8;rw [List.getD_eq_getElem?_getD,List.getElem?_map,List.getElem?_eq_getElem h];rfl
 have r2:=fun(q:(Wd × Wd) × List Value) (x:List Nat)=>Qak ps q x;obtain⟨X,q7⟩:=zE (Qa n);simp only [q7] at R k3 k4 V b7;obtain⟨y1,p9⟩:=zE (Qo (ps.map (·.1)) (qs.map (·.1)));rw [p9] at V l2;obtain⟨o7,o8,g9,j0,o9,c6,j1,j3⟩:=Zh8 t6 t9 b7 R k3 r1 T V;obtain⟨i8,e6,c8,o1,n5,m6⟩:=Zh6 l2 b6 b5 g3 b8 r2;clear t6 t9 b7 R k3 r1 T V l2 b6 b5 g0 a4 g3 b8 d4 q7 p9 r2;go_enter Tryz.func10,Tryz.ntmps10;go_wp2_with fail;refine o7.out.mono ?_;rintro e u6 ⟨F,rfl,r6,a3⟩;have e5:=Zh a3;have i7:=Zh r6;clear a3 o7 r6;cases F with
 | false=>
  clear g9 c6 j1 j3 i8 e6 c8 i7 j0 m6;go_wp2_with fail;refine(o8.out u6 e5.out).mono ?_;rintro e u7 ⟨rfl,d3⟩;have a9:=Zh (e5.out.trans d3);clear d3;go_wp2;go_ret;exact⟨rfl,a9.out⟩
 | true=>
  obtain⟨g1,z9,w3⟩:=i8.out (i7.out uz);have w6:=o9.out g1;have b7:=g9.out u6 g1;have m3:=Zh b7;clear b7 g9 i7 i8 o9;go_wp2_with fail;refine m3.out.mono ?_;rintro e u7 ⟨_,rfl,⟨A8,A7,rfl,r8⟩,p7⟩;have a9:=Zh (e5.out.trans p7);obtain⟨A9,t7,t3⟩:=r8;have d7:e1 % X.length<X.length:=Nat.mod_lt _ k4;obtain⟨s,a6⟩:=zE (e1 % X.length);rw [a6] at d7;obtain⟨p4,f4,p3,c9⟩:=t3 s d7;obtain⟨z1,A5,y4,t2,_,f8⟩:=Xk t7 d7;simp only [zV] at t2;obtain⟨rfl,y0,rfl⟩:=t2;rw [p3] at f8;have m0:X[s]∈X:=List.getElem_mem d7;have W:=j0.out _ m0;have V:=j3.out (by first | exact w3 | trivial | rfl) _ m0;obtain⟨g,s9⟩:=zE (X[s]);rw [s9] at f8 c9 W V;obtain⟨W,R⟩:=W;rw [W] at f8 c9;have g6:Int.tmod (e1:Int) (X.length:Int)=(s:Int):=by rw [Int.tmod_eq_emod_of_nonneg oz,<-a6];rfl
  have T:=j1.out u7 a9.out g p4 f4 c9 W;rw [V.1,V.2] at T;obtain⟨E,k1⟩:∃ q:Nat->Bool,(fun i=>exB (Z8 ps g qs) (Z8 ps (Yx g i) qs))=q:=⟨_,rfl⟩;have q4:∀ i,E i=exB (Z8 ps g qs) (Z8 ps (Yx g i) qs):=fun i=>by rw [<-k1]
  rw [k1] at T;obtain⟨J,s6⟩:=zE (n - 1);rw [s6] at T;have A0:(J=0/\n=0)\/J+1=n:=by omega
  have B:=fun(i:Nat) (s0:i<J) (h:E i=true)=>Tc s0 h;obtain⟨f3,d2⟩:=zE ((List.range J).filter E);rw [d2] at T;simp only [d2] at B;have w5:f3.length<=J:=by rw [<-d2];exact Nat.le_trans (List.length_filter_le _ _) zy
  obtain⟨v3,e3,j5,n6,e7,e8,e9,o5⟩:=Zh8 d2 B q4 T W R c9 g6;clear T t7 t3 p3 c9 m0 V s9 W R k1 q4 s6 y0 p7 m3 e5 j0 j3 j1 d2 B a6;obtain⟨p0,r0⟩:=zE X.length;have g6:=o5.out;rw [r0] at d7 w6 k4 g6 ⊢;have s2:(s:Int)<(p0:Int):=by omega
  have s1:(0:Int)<=(s:Int):=by omega
  have x5:¬ (p0:Int)=0:=by omega
  clear r0 o5;go_wp2_with fail;clear g6 x5 s2 s1;refine n6.out.mono ?_;rintro e x6 ⟨u3,u2,rfl,b9,d1⟩;have c7:=Zh d1;have f0:=Zh b9;obtain⟨d9,l3⟩:=zE f3.length;have j2:=Zh l3;rw [l3] at w5 ⊢;clear d1 b9 l3 n6 f8;go_wp2;refine wp_loop (Qcp (.slice lo n lc) (.slice e0 m pc) (.slice p4 n f4) (.slice u3 d9 u2) J x6 (fun i=>((List.range i).filter E).length)) (fun a _=>((J:Int) - intOf (a.tmps.getD 12 undef)).toNat) ?_ ?_
  ·exact⟨0,by omega,rfl,rfl,Q0.refl _ _⟩
  rintro⟨t,_⟩ u ⟨i,s0,l0,c0,H⟩;dsimp only at c0;subst l0;obtain⟨g7,rfl⟩:=Qq c0;clear c0;have b1:=Zh H;have a1:=Hf E i;have x0:((List.range i).filter E).length<=i:=Nat.le_trans (List.length_filter_le _ _) zy;have a5:((List.range (i+1)).filter E).length=((List.range i).filter E).length+if E i=true then 1 else 0:=by rw [a1,List.length_append];cases E i <;> rfl
  have B:=e3.out i;have l1:i=J->((List.range i).filter E).length=d9:=fun h=>by subst h;rw [v3.out];exact j2.out
  obtain⟨I,Z⟩:=zE (((List.range i).filter E).length);rw [Z] at x0 a5 B l1 ⊢;obtain⟨f1,e4,n4⟩:=Zh3 a5 B l1;clear H a1 a5 B Z l1;have A2:IntKind.i64.wrap ((i:Int)+1)=(i:Int)+1:=IntWalk.i64_in _ oz;by_cases w8:i<J;case neg=>
   obtain rfl:i=J:=by omega
   have j9:¬ (i:Int)+1<(n:Int):=by omega
   have w4:=n4.out rfl;subst w4;clear e9 e8 c6 e6 c8 o1 j5 e4 e3 f1 f0 n4;go_wp2_with fail;refine(o8.out u (a9.out.trans (c7.out.trans b1.out))).mono ?_;rintro e B0 ⟨rfl,d3⟩;have v0:=Zh ((a9.out.trans (c7.out.trans b1.out)).trans d3);clear d3;go_wp2;go_ret;exact⟨rfl,v0.out⟩
  have z3:(0:Int)<=(i:Int):=by omega
  have f9:i+1<n:=by omega
  have s2:(i:Int)+1<(n:Int):=by omega
  have s1:(0:Int)<=(i:Int)+1:=by omega
  have z5:(i:Int)<(n:Int):=by omega
  have z6:((i:Int)+1).toNat=i+1:=by omega
  obtain⟨a8,l9⟩:=zE (g.getD i 0);obtain⟨s,a6⟩:=zE (g.getD (i+1) 0)
  have g2:∀ j,j<n->(Qd g).getD j undef=.int .i64 (g.getD j 0:Nat):=fun j hj=>by
   unfold Qd;rw [List.getD_eq_getElem?_getD,List.getElem?_map,List.getD_eq_getElem?_getD,List.getElem?_eq_getElem (by rw [e7.out];exact hj)];rfl
  have g5:=e9.out.ext (c7.out.trans b1.out);obtain⟨M,a2,y5,d8,r8,k8⟩:=Xk g5 (show i<n by omega);simp only [zV] at d8;obtain⟨rfl,x7,rfl⟩:=d8;obtain⟨z2,A6,y6,d8,_,k9⟩:=Xk g5 f9;simp only [zV,Option.some.injEq,Addr.mk.injEq] at d8;obtain⟨⟨x2,x3,_⟩,x8,x4⟩:=d8;subst x2;subst x3;subst x4;rw [g2 i oz,l9] at k8;rw [g2 (i+1) f9,a6] at k9;obtain⟨n1,n2,j6,j7,o4,n8⟩:=Zh6 k8 k9 l9 a6 g5 g2;have t0:∀ g7∈Qd g,g7.oneCell'=true:=fun g7 hu=>by obtain⟨_,_,rfl⟩:=List.mem_map.1 hu;rfl
  have o0:=Zh t0;have p6:(u.alloc (.cells #[] 3)).ownsRow u.heap.size 3 1 (.slice (some ⟨u.heap.size,0,none⟩) 0 0) 0 []:=World.ownsRow_lit u #[] 0 (Nat.le_refl _) (by unfold maxLen;omega) rfl;have m2:=Zh p6;clear k8 k9 l9 a6 g5 g2 t0 p6 x7 x8
  go_wp2_with (at_builtin;refine Ut rfl (.tmp 52) (.tmp 53) 48 rfl u.heap.size 3 _ 1 8 Tryz.underlying48 Tryz.infoI rfl zd _ 0 [] rfl m2.out _ n _ (Qd g) rfl (o4.out.ext ((Q0.refl _ u).alloc _)) o0.out ?c3 ?c4 ?c5 ?_)
  case c3=>unfold maxLen;omega
  case c4=>omega
  case c5=>first | omega | (simp;done) | (simp;omega)
  intro e2 K b2 a0 q8 w2;have a3:Ext u b2:=Q0.after ((Q0.refl _ u).alloc (.cells #[] 3)) q8 (fun F hb e=>by simp only [Value.ownBlock,Option.some.injEq] at e;omega);try rw [Nat.zero_add,List.nil_append] at a0
  have a0:b2.ownsRow u.heap.size 3 1 (.slice e2 n K) n (Qd g):=a0;obtain⟨r,rfl⟩:=Vk (n:=n - 1) (cap:=K) (by rw [show n - 1+1=n by omega];exact a0)
  have k7:∀ j,j<n->∀ U,Ext b2 U->U.cell? ⟨r,j,none⟩=some (.int .i64 (g.getD j 0:Nat)):=fun j hj U hU=>by
   have:=(Qe a0 hU).cellAt j oz;rw [this];have d0:=n8.out j hj;rw [List.getD_eq_getElem?_getD] at d0;cases h7:(Qd g)[j]? with
   | none=>rw [h7] at d0;cases d0
   | some q=>rw [h7] at d0;exact congrArg some d0
  have d6:=k7 i oz;have f7:=k7 (i+1) f9;rw [j6.out] at d6;rw [j7.out] at f7;have z4:u.heap.size<=r:=(a0.lt r rfl).1;have r9:¬ r=M:=by omega
  have q5:=a3.cell_some n1.out id;have q6:=a3.cell_some n2.out id;obtain⟨m4,m5,n9,n7,o2,o3⟩:=Zh6 d6 f7 a0 a3 q5 q6;clear k7 d6 f7 a0 a3 q8 w2 q5 q6 m2 n1 n2 n8 o0 o4;go_upto_region 13 with (fail)
  go_cut [] from 55 to 71 (fun wx=>wx.ownsRow u.heap.size 3 1 (.slice (some ⟨r,0,none⟩) n K) n (Qd (Yx g i))/\Ext u wx)
  case first=>
   obtain⟨G,f5⟩:=zE b2.drew;have b4:Ext b2 G:=by rw [<-f5];exact(Q0.refl _ b2).drew
   have l4:=Qe n9.out b4;have p2:=b4.cell_some o3.out id;have p1:=b4.cell_some o2.out id;have f7:G.cell? ⟨r,i+1,none⟩=some (.int .i64 (s:Int)):=m5.out G b4;have d6:G.cell? ⟨r,i,none⟩=some (.int .i64 (a8:Int)):=m4.out G b4;have o:G.cell? ⟨M,a2+(i+1),none⟩=some (.int .i64 (s:Int))/\G.cell? ⟨M,a2+i,none⟩=some (.int .i64 (a8:Int)):=⟨p2,p1⟩;refine Qv (S:=fun D=>D.cell? ⟨M,a2+(i+1),none⟩=some (.int .i64 (s:Int))/\D.cell? ⟨M,a2+i,none⟩=some (.int .i64 (a8:Int))) [17] kz (by rw [f5];exact o) ?_;intro _;rw [f5];clear f5 p2 p1;refine tkE (i:=0) (d:=55) (v:=?_) rfl (Or.inl ⟨by rfl,?_⟩) o ?_;rotate_left
   ·intro w b;(try dsimp only at b);obtain⟨p,C⟩:=b;go_simp;try with_reducible rfl
   try simp only [Act.put,pq]
   refine tkE (i:=1) (d:=56) (v:=?_) rfl (Or.inl ⟨by rfl,?_⟩) o ?_;rotate_left
   ·intro w b;(try dsimp only at b);obtain⟨p,C⟩:=b;go_simp;try with_reducible rfl
   try simp only [Act.put,pq]
   refine tkE (i:=2) (d:=57) (v:=?_) rfl (Or.inl ⟨by rfl,?_⟩) o ?_;rotate_left
   ·intro w b;(try dsimp only at b);obtain⟨p,C⟩:=b;go_simp;try with_reducible rfl
   try simp only [Act.put,pq]
   refine tkE (i:=3) (d:=58) (v:=?_) rfl (Or.inl ⟨by rfl,?_⟩) o ?_;rotate_left
   ·intro w b;(try dsimp only at b);obtain⟨p,C⟩:=b;go_simp;try with_reducible rfl
   try simp only [Act.put,pq]
   refine tkE (i:=4) (d:=59) (v:=?_) rfl (Or.inl ⟨by rfl,?_⟩) o ?_;rotate_left
   ·intro w b;(try dsimp only at b);obtain⟨p,C⟩:=b;go_simp;try with_reducible rfl
   try simp only [Act.put,pq]
   refine tkE (i:=5) (d:=60) (v:=?_) rfl (Or.inl ⟨by rfl,?_⟩) o ?_;rotate_left
   ·intro w b;(try dsimp only at b);obtain⟨p,C⟩:=b;go_simp;try with_reducible rfl
   try simp only [Act.put,pq]
   refine tkE (i:=6) (d:=61) (v:=?_) rfl (Or.inl ⟨by rfl,?_⟩) o ?_;rotate_left
   ·intro w b;(try dsimp only at b);obtain⟨p,C⟩:=b;go_simp;try with_reducible rfl
   try simp only [Act.put,pq]
   refine tkE (i:=7) (d:=62) (v:=?_) rfl (Or.inl ⟨by rfl,?_⟩) o ?_;rotate_left
   ·intro w b;(try dsimp only at b);obtain⟨p,C⟩:=b;go_simp;try with_reducible rfl
   try simp only [Act.put,pq]
   refine tkE (i:=8) (d:=63) (v:=?_) rfl (Or.inl ⟨by rfl,?_⟩) o ?_;rotate_left
   ·intro w b;(try dsimp only at b);obtain⟨p,C⟩:=b;go_simp;try with_reducible rfl
   try simp only [Act.put,pq]
   refine tkE (i:=9) (d:=64) (v:=?_) rfl (Or.inl ⟨by rfl,?_⟩) o ?_;rotate_left
   ·intro w b;(try dsimp only at b);obtain⟨p,C⟩:=b;go_simp;try with_reducible rfl
   try simp only [Act.put,pq]
   refine tkE (i:=10) (d:=65) (v:=?_) rfl (Or.inl ⟨by rfl,?_⟩) o ?_;rotate_left
   ·intro w b;(try dsimp only at b);obtain⟨p,C⟩:=b;go_simp;try with_reducible rfl
   try simp only [Act.put,pq]
   refine tkE (i:=11) (d:=66) (v:=?_) rfl (Or.inl ⟨by rfl,?_⟩) o ?_;rotate_left
   ·intro w b;(try dsimp only at b);obtain⟨p,C⟩:=b;go_simp;try with_reducible rfl
   try simp only [Act.put,pq]
   refine tkE (i:=12) (d:=67) (v:=?_) rfl (Or.inl ⟨by rfl,?_⟩) o ?_;rotate_left
   ·intro w b;(try dsimp only at b);obtain⟨p,C⟩:=b;go_simp;try with_reducible rfl
   try simp only [Act.put,pq]
   refine tkE (i:=13) (d:=68) (v:=?_) rfl (Or.inl ⟨by rfl,?_⟩) o ?_;rotate_left
   ·intro w b;(try dsimp only at b);obtain⟨p,C⟩:=b;go_simp;try with_reducible rfl
   try simp only [Act.put,pq]
   refine tkE (i:=14) (d:=69) (v:=?_) rfl (Or.inl ⟨by rfl,?_⟩) o ?_;rotate_left
   ·intro w b;(try dsimp only at b);obtain⟨p,C⟩:=b;go_simp;try with_reducible rfl
   try simp only [Act.put,pq]
   refine rE [15] ?_;refine Q1.cons rfl (fun I Z=>?_) Q1.nil;refine iw rfl ?_;have v9:=Dy l4 (j:=i) oz;go_simp;have k2:(G.setCell ⟨r,i,none⟩ (.int .i64 (s:Int))).cell? ⟨M,a2+(i+1),none⟩=some (.int .i64 (s:Int))/\(G.setCell ⟨r,i,none⟩ (.int .i64 (s:Int))).cell? ⟨M,a2+i,none⟩=some (.int .i64 (a8:Int)):=by
    refine⟨?_,?_⟩
    ·rw [World.cell?_setCell_other (h:=by intro e;simp only [Addr.mk.injEq] at e;exact r9 e.1)];exact o.1
    ·rw [World.cell?_setCell_other (h:=by intro e;simp only [Addr.mk.injEq] at e;exact r9 e.1)];exact o.2
   refine Z.out _ _ k2 (fun _=>?_);clear Z I v9 d6
   (try change Qm _ _ _ _ _ _ _ _ (Act.put _ none _) _)
   (try simp only [Act.put])
   refine tkE (i:=16) (d:=70) (v:=?_) rfl (Or.inl ⟨by rfl,?_⟩) k2 ?_;rotate_left
   ·intro w b;(try dsimp only at b);obtain⟨p,C⟩:=b;go_simp;try with_reducible rfl
   try simp only [Act.put,pq]
   refine rE [17] ?_;refine Q1.late rfl rfl (fun I Z=>?_) Q1.nil;refine iw rfl ?_;have l5:=Jw l4 i (.int .i64 (s:Int));have w0:=Dy l5 (j:=i+1) oz;go_simp;refine Z.out _ _ ?_;clear Z I w0
   (try change Qm _ _ _ _ _ _ _ _ (Act.put _ none _) _)
   (try simp only [Act.put])
   refine Ql kz ?_ _;have l6:=Jw l5 (i+1) (.int .i64 (a8:Int));have m1:Q0 (fun F=>F=r) G ((G.setCell ⟨r,i,none⟩ (.int .i64 (s:Int))).setCell ⟨r,i+1,none⟩ (.int .i64 (a8:Int))):=(Q0.set1 _ _ _ _).trans (Q0.set1 _ _ _ _);obtain⟨b3,q9⟩:=zE ((G.setCell ⟨r,i,none⟩ (.int .i64 (s:Int))).setCell ⟨r,i+1,none⟩ (.int .i64 (a8:Int)));rw [q9] at l6 m1 ⊢;have s8:b3.ownsRow u.heap.size 3 1 (.slice (some ⟨r,0,none⟩) n K) n (Qd (Yx g i)):=by
    have e:=T1 g i;rw [j6.out,j7.out] at e;rw [<-e];exact l6
   have Y:Ext u b3:=(n7.out.trans b4).after m1 (fun F hb e=>by omega);have v4:=Zh s8;have v2:=Zh Y;clear q9 l6 m1 s8 Y l5 l4 o k2;go_wp2
   go_meet
   case rel=>exact⟨v4.out,v2.out⟩
  case rest=>
   obtain⟨a7,Y⟩:=hcut;generalize wc=b3 at a7 Y ⊢;have t4:=Rd.of_own a7;obtain⟨c1,q1⟩:=zE (Z8 ps g qs);obtain⟨c2,q2⟩:=zE (Z8 ps (Yx g i) qs);have b5:=c8.out g;have k0:=c8.out (Yx g i);have b6:=e6.out g;have g4:=j5.out i;rw [q1] at b5 b6 g4;rw [q2] at k0 g4;have f6:=a9.out.trans (c7.out.trans (b1.out.trans Y));have r3:=fun(k:World) (hV:Ext b3 k)=>c6.out k (f6.trans hV) g (some ⟨M,a2,none⟩) f4 (e9.out.ext (c7.out.trans (b1.out.trans (Y.trans hV)))) e7.out e8.out g1;have r4:=fun(k:World) (hV:Ext b3 k)=>c6.out k (f6.trans hV) (Yx g i) (some ⟨r,0,none⟩) K (t4.ext hV) (by rw [Wl,e7.out]) (Sp (by rw [e7.out];exact f9) e8.out) g1;obtain⟨i5,i9,i6,j4,i3,i4,n3,u9⟩:=Zh8 b5 k0 b6 g4 r3 r4 Y f6;clear b5 k0 b6 g4 r3 r4 q1 q2 t4 a7 Y f6 c6 c8 e6 j5 m4 m5 n9 n7 o2 o3 j6 j7;go_wp2;refine wp_loop (Qcz m i I (.slice lo n lc) (.slice e0 m pc) (.slice (some ⟨M,a2,none⟩) n f4) (.slice u3 d9 u2) (.slice (some ⟨r,0,none⟩) n K) c1 c2 b3) (fun a _=>((m:Int) - intOf (a.tmps.getD 15 undef)).toNat) ?_ ?_
   ·exact⟨0,by omega,rfl,rfl,Q0.refl _ _⟩
   rintro⟨t,_⟩ k ⟨f,z7,l0,c0,q0⟩;subst l0;obtain⟨g7,rfl⟩:=Qq c0;clear c0;have b0:=Zh q0;clear q0;by_cases s4:f<m;case pos=>
    have w9:(f:Int)<(m:Int):=by omega
    have z8:(0:Int)<=(f:Int):=by omega
    have s5:f<qs.length:=by rw [n5.out];exact s4
    have A3:IntKind.i64.wrap ((f:Int)+1)=(f:Int)+1:=IntWalk.i64_in _ oz;have a1:=Q49 c1 c2 f;have r5:=i5.out f s5;have r7:=i9.out f s5;rw [r5,r7] at a1;obtain⟨j8,d5⟩:=zE (Rf c1 c2 f);rw [d5] at a1 ⊢;obtain⟨u5,u4,t5,l8⟩:=Q62 (Qj o1.out (u9.out.trans b0.out)) n5.out s4 x1;have s3:((f:Int)+1)=((f+1:Nat):Int):=by omega
    have p:=fun D=>Nu (P:=Tryz.prog) (t:=61) (size:=2) (A:=e0) (n:=m) (c:=pc) kz (fun D=>by rfl) f (f+1) oz oz D;rw [t5,<-s3] at p;have O:=fun(D:World) (hD:Ext k D)=>i3.out D (b0.out.trans hD) u5 u4 _ (Qj l8 hD);have Q:=fun(D:World) (hD:Ext k D)=>i4.out D (b0.out.trans hD) u5 u4 _ (Qj l8 hD);simp only [m6.out] at O Q;obtain⟨v7,k5⟩:=zE (Gl ps g qs[f].1.1 qs[f].1.2);obtain⟨v8,k6⟩:=zE (Gl ps (Yx g i) qs[f].1.1 qs[f].1.2);rw [k5,k6] at a1;simp only [k5] at O;simp only [k6] at Q;obtain⟨B1,u0⟩:=zE (byI ps g [qs[f]]);obtain⟨B2,u1⟩:=zE (byI ps (Yx g i) [qs[f]]);simp only [u0] at O;simp only [u1] at Q;obtain⟨o6,m7,m9⟩:=Zh3 a1 O Q;clear a1 O Q k5 k6 u0 u1 r5 r7 d5 l8 t5 s3 i3 i4 i5 i9 i6 j4 e9 e8 e4 e3 f1 f0;cases j8 <;> cases v7 <;> cases v8
    all_goals
     have l7:=o6.out;have O:=m7.out;have Q:=m9.out;simp only [Bool.and_true,Bool.and_false,Bool.not_true,Bool.not_false,Bool.or_false,Bool.or_true] at l7;simp only [if_true,Bool.false_eq_true,if_false] at O Q;obtain⟨v5,m8,n0⟩:=Zh3 l7 O Q;clear l7 O Q o6 m7 m9;go_wp2_with fail;refine(m8.out k (Q0.refl _ k)).mono ?_;rintro e v6 ⟨rfl,d1⟩;have i2:=Zh d1;clear d1 m8;go_wp2_with fail;refine(n0.out v6 i2.out).mono ?_;rintro e y2 ⟨rfl,p8⟩;have v1:=Zh (b0.out.trans (i2.out.trans p8));clear p8 n0 i2 p;go_wp2;exact⟨⟨f+1,by omega,tz,(Prod.ext rfl (lE rfl (lE rfl (lE rfl (lE rfl (lE rfl (lE rfl (lE rfl (lE (by rw [v5.out];rfl) rfl))))))))),v1.out⟩,mz⟩
   obtain rfl:f=m:=by omega
   have w9:¬ (f:Int)<(f:Int):=by omega
   rw [Q8z i6.out,<-j4.out];have a5:=f1.out;have B:=e4.out w8;obtain⟨j8,d5⟩:=zE (E i);rw [d5] at a5 B ⊢;obtain⟨f2,i0,i1⟩:=Zh3 a5 B (b1.out.trans (n3.out.trans b0.out));clear a5 B d5 i3 i4 i5 i9 i6 j4 f1 e4 n3 b0 e3;cases j8 with
   | false=>
    have N:=f2.out;rw [if_neg zd,Nat.add_zero] at N;have g8:=Zh N;clear N f2 i0;go_wp2;exact⟨⟨i+1,by omega,tz,(Prod.ext rfl (lE rfl (lE rfl (lE rfl (lE rfl (lE (by dsimp only;rw [g8.out];rfl) rfl)))))),i1.out⟩,mz⟩
   | true=>
    have N:=f2.out;rw [if_pos uz] at N;have B:=i0.out uz;have q3:I<f3.length:=(List.getElem?_eq_some_iff.1 B).1;rw [j2.out] at q3;have b9:=f0.out.ext i1.out;rw [j2.out] at b9;obtain⟨z0,A4,y3,t1,_,w7⟩:=Xk b9 q3;simp only [zV] at t1;obtain⟨rfl,x9,rfl⟩:=t1;have s7:(Qd f3).getD I undef=.int .i64 (i:Int):=by unfold Qd;rw [List.getD_eq_getElem?_getD,List.getElem?_map,B];rfl
    rw [s7] at w7;have y8:¬ (I:Int)>=(d9:Int):=by omega
    have y9:(I:Int)<(d9:Int):=by omega
    have y7:(0:Int)<=(I:Int):=by omega
    have g8:=Zh N;clear N f2 i0 B s7 x9 b9 f0;go_wp2;exact⟨⟨i+1,by omega,tz,(Prod.ext rfl (lE rfl (lE rfl (lE rfl (lE rfl (lE (by dsimp only;rw [g8.out];rfl) rfl)))))),i1.out⟩,mz⟩
theorem Ci{w:World}{ps:Qg}{qs:Q8}{lo:Option Addr}{n lc:Nat}{a:Option Addr}{m pc:Nat}(d:Qz w (.slice lo n lc) ps) (g:ps.length=n) (i:Z3 w (.slice a m pc) qs) (f:qs.length=m) (j:m<=pc) (x:Int) (b:0<=x) (l:x<256) (c:Tab w) :
  Calls Tryz.prog 10 #[.slice lo n lc,.slice a m pc,.int .u8 x] w fun e w'=>e=.returned (.bool true)/\Ext w w':=by
 obtain⟨k,rfl⟩:=Int.eq_ofNat_of_zero_le b;exact By d g i f j k oz c
end Go.Proofs.YtfdlhlghcbeblaaGreatDoor
