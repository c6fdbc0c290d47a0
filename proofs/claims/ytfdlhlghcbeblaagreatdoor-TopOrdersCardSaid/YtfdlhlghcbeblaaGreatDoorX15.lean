/- derive.forms: -/
import Derived.Test.YtfdlhlghcbeblaaGreatDoorX12
set_option maxRecDepth 100000
set_option maxHeartbeats 16000000
namespace Go.Proofs.YtfdlhlghcbeblaaGreatDoor
open Go.RowKit Go.Ab
attribute [local go_sem] Oper.semAt_some Z8 Qp
def Xy:List Q2->Wd->Nat->List (Nat × Wd)
 | [],u,i=>[(i,u)]
 | l::ls,u,i=>(i,u)::(if trE l u=0 then Xy ls (X7 l u) (i+1) else [])
def Hs:List PanicEntry:=[{ v:=.iface 221 (.int .i64 11),recovered:=false }]
def Gj(ls:List Q2)(ws:Wd):Option (List PanicEntry):=if (Qq ls ws).isSome=true then none else some Hs
def Q8d(_:Nat)(x:Nat × Wd)(W:World)(ys:Array Value):Prop:=∃ v,ys=#[.int .i64 (x.1:Int),v]/\Qo W v x.2
theorem Fq:∀(ls:List Q2) (ws:Wd) (i:Nat) (u:Wd),Qq ls ws=some u->∃ pre,Xy ls ws i=pre++[(i+ls.length,u)]
 | [],ws,i,u,h=>by cases h;exact⟨[],rfl⟩
 | l::ls,ws,i,u,h=>by
  unfold Qq at h
  split at h
  ·rename_i h0
   obtain⟨pre,hp⟩:=Fq ls _ (i+1) u h;refine⟨(i,ws)::pre,?_⟩;unfold Xy;rw [if_pos h0,hp,List.length_cons,show i+(ls.length+1)=i+1+ls.length by omega];rfl
  ·cases h
theorem L5(ls:List Q2)(u:Wd)(i:Nat):Xy ls u i=(i,u)::(Xy ls u i).tail:=by cases ls <;> rfl
theorem Nd{A B:World}{v:Value}{u:Wd}{D l:Nat}{M:Option Addr}{L K:Nat}{t:TypeId}{fr:Nat × Nat}(h:Qo A v u)(g:Q0 (fun b=>b=D\/b=l) A B) (z:A.heap[D]?=some (.cells #[.slice M L K] t fr)) (F:∃ o,A.heap[l]?=some o/\o.isCells=false):Qo B v u:=by
 obtain⟨k,n,rfl,⟨⟨q,r,m,p,H,w⟩,x⟩,y⟩:=h;refine⟨k,n,rfl,⟨⟨q,r,m,p,H,fun hn=>?_⟩,x⟩,y⟩;obtain⟨c,e,C,E,d⟩:=w hn;have G:¬ (c=D\/c=l):=by
  rintro(rfl | rfl)
  ·have a:=d 0 oz;rw [Nat.add_zero] at a;unfold World.cell? at a;simp only [z] at a;cases e with
   | zero=>
    rw [List.getD_eq_getElem?_getD] at a;cases u with
    | nil=>simp at hn
    | cons s u=>simp [Zn] at a
   | succ e=>simp at a
  ·obtain⟨o,I,J⟩:=F;obtain⟨N,f,i⟩:=Kt (d 0 oz);simp only at f;rw [I] at f;cases f;rw [J] at i;cases i
 exact⟨c,e,C,Nat.lt_of_lt_of_le E g.size,fun j hj=>g.cell_some (d j hj) G⟩
theorem Q00{w0 w:World}{BL BW D n:Nat}{ps:Qk}{lo:Option Addr}{lc:Nat}{vo:Option Addr}{vn vc:Nat}{ws:Wd}(d1:Ext w0 w)(u6:w0.heap.size<=D)(a9:Qv w0 (.slice lo n lc) ps) (b0:ps.length=n) (m5:∀ p∈ps,Zm p.1=true)
  (f2:Qa w0 (.slice vo vn vc) ws) (f1:ws.length=vn) (f3:wE ws=0) (k9:Tab w0) (d8:w.heap[BL]?=some (.cells #[.slice lo n lc] 26 (0,0))) (l3:w.heap[BW]?=some (.cells #[.slice vo vn vc] 99 (0,0))) (m4:BL≠D) (t5:BW≠D) :
  Q5r Tryz.prog 176 #[.pointer (some ⟨BW,0,none⟩),.pointer (some ⟨BL,0,none⟩)] (fun _ _=>False) Q8d (Xy (ps.map (·.1)) ws 0) (Gj (ps.map (·.1)) ws) (fun b=>b=D) (fun A=>∃ so sn sc,A.heap[D]?=some (.cells #[.slice so sn sc] 99 (0,0))) w:=by
 intro f7 c6 u1 s5 z u9 u8 k6 t3 k3 d6 c9;have v1:=(Array.getElem?_eq_some_iff.1 d8).1;have l0:=z.heap d8 m4;have l4:=z.heap l3 t5;have d2:Ext w0 s5:=Q0.after d1 z (fun b hb Y=>by omega);have v0:=d1.size;have m7:ps.length<=maxLen:=a9.1.2.1;rw [b0] at m7;unfold maxLen at m7;have t7:ws.length<=32:=Q05 f3;have n8:=f2.2;have l5:=fun(d:World) (i:Ext w0 d)=>Fa (f2.ext i) oz;have k7:∀ g A B,c6 g A->Ext A B->c6 g B:=fun g A B a6 he=>k6 g A B a6 (Ext.of he);have n1:∀ d,Ext w0 d->∀ B,Q0 (fun b=>b=D\/b=f7) d B->Ext w0 B:=fun d i B z=>Q0.after i z (fun b hb m=>by rcases m with m | m <;> omega);obtain⟨f,a1⟩:=zE (ps.map (·.1));obtain⟨E,d3⟩:=zE (Xy f ws 0);rw [a1,d3] at d6 ⊢
 have l9:∀ c (m1:c<n),∃ p,ps[c]?=some p/\Zm p.1=true/\f[c]?=some p.1/\(∀ x∈p.1.outs,Xe x):=fun c m1=>by
  have s:c<ps.length:=by omega
  refine⟨ps[c],List.getElem?_eq_getElem s,m5 _ (List.getElem_mem s),by rw [<-a1,List.getElem?_map,List.getElem?_eq_getElem s];rfl,?_⟩;obtain⟨_,_,_,_,_,_,_,_,_,t6⟩:=a9.2 _ (List.getElem_mem s);exact t6.2
 have m3:f.length=n:=by rw [<-a1,List.length_map,b0]
 obtain⟨q5,p9,g7,j1,g2,i3,q2,g5⟩:=Zh8 (fun(d:World) (i:Ext w0 d)=>a9.ext i) l5 k7 d6 k3 n1 l9 d3;obtain⟨c3,i6,s3,g6,r8,X,r4⟩:=Zh7 m3 n8 f3 c9 (fun(d:World) (i:Ext w0 d)=>k9.keep i id) f1 b0;rw [f1] at t7;clear a9 l5 k7 d6 k3 n1 l9 d3 m3 n8 f3 c9 k9 k6 t3 d1 f2 m5 a1 z d8 l3 f1 b0;show Calls _ _ #[.func (.yield f7) #[] #[],.pointer (some ⟨BW,0,none⟩),.pointer (some ⟨BL,0,none⟩)] _ _;go_enter Tryz.func176,Tryz.ntmps176;have t0:=cell_of_one l4;go_wp2_with fail;have d9:=p9.out _ d2;rw [X.out] at d9;refine d9.mono ?_;rintro Y f9 ⟨r,q,rfl,k8,a2⟩;have k4:Ext w0 f9:=d2.trans a2;have l1:=a2.keep l0;have C:Qo f9 (.slice r vn q) ws:=by have:=Qo.own (u:=ws) (by rw [X.out];exact k8) i6.out;rw [X.out] at this;exact this
 have e1:=g7.out _ _ _ g6.out a2;have f0:E=[]++(0,ws)::(Xy f ws 0).tail:=by
  rw [<-g5.out];cases f with
  | nil=>rfl
  | cons a b=>rfl
 obtain⟨t1,t9,s7,s8,f6,K⟩:=j1.out [] (0,ws) _ f9 #[.int .i64 0,.slice r vn q] f0 e1 ⟨_,rfl,C⟩;obtain⟨⟨so,sn,sc,I⟩,Q⟩:=g2.out _ _ e1;obtain⟨r7,H,G,g4,g1,S,W⟩:=Zh7 f0 K C k4 l1 I Q;clear K C k4 l1 I Q e1 f0 k8 a2 d9 t0 l0 l4 d2;go_upto_region 1 with (fail)
 refine(wpIn_wide (n:=0)).1 ?_;gi_wp2;refine H.out.mono ?_;rintro Y w2 (⟨rfl,Z,k⟩ | ⟨rfl,Z,k⟩);case inr=>
  gi_wp2;go_wp2;refine bodyPost_ret (results_none rfl _ _ _) rfl ?_;exact .inl ⟨⟨_,rfl⟩,.inr ⟨[],(0,ws),_,r7.out,Z⟩⟩
 have J:=i3.out _ g4.out _ k;have n3:=Nd G.out k S.out W.out;have l2:=k.heap g1.out (by rintro(m | m);exact m4 m;omega);obtain⟨i4,o,F⟩:=Zh3 n3 Z J;clear n3 Z J k H G g4 g1 S W f6;have s9:=cell_of_one l2;gi_wp2;go_wp2
 refine wp_loop (fun a d=>∃(c:Nat) (g:List (Nat × Wd)) (e:Wd) (r:Option Addr) (b5 q:Nat),a.defers=[]/\gS a [0,4,15,16,17]=(40,[.func (.yield f7) #[] #[],.slice r b5 q,.slice lo n lc,.int .i64 n,.int .i64 c])/\c<=n/\E=g++Xy (f.drop c) e c/\Qq (f.take c) ws=some e/\c6 (g++[(c,e)]) d/\Qo d (.slice r b5 q) e/\e.length=b5/\wE e=0/\Yb e/\Ext w0 d)
  (fun a _=>((n:Int) - intOf (a.tmps.getD 17 undef)).toNat) ?_ ?_
 ·exact⟨0,[],ws,r,vn,q,rfl,rfl,Nat.zero_le _,by rw [<-g5.out];rfl,rfl,o.out,i4.out,X.out,s3.out,i6.out,F.out⟩
 clear i4 o F g6 s9 l2;rintro⟨w1,_⟩ d ⟨c,g,e,r,b5,q,t4,n2,m1,l8,l7,a6,C,n5,n9,o0,i⟩;subst t4;obtain⟨u,rfl⟩:=Z0 n2;clear n2;obtain⟨c1,T,c2,G,s0,i7,i8,U⟩:=Zh8 l8 l7 a6 C n5 n9 o0 i;clear l8 l7 a6 C n5 n9 o0 i;by_cases e2:c<n;case neg=>
  obtain rfl:c=n:=by omega
  have s:¬ ((c:Int)<(c:Int)):=by omega
  have j:E=g++[(c,e)]:=by
   have:=c1.out;rw [List.drop_eq_nil_of_le (by rw [c3.out];exact Nat.le_refl _)] at this;exact this
  have O:Gj f ws=none:=by
   have:=T.out;rw [Q4p (by rw [c3.out];exact Nat.le_refl _)] at this;unfold Gj;rw [this];rfl
  have c5:=Zh j;have c0:=Zh O;clear j O;go_wp2;go_end0
  exact .inl ⟨⟨_,rfl⟩,.inl ⟨c0.out,by rw [c5.out];exact c2.out⟩⟩
 have s:(c:Int)<(n:Int):=by omega
 have c9:(0:Int)<=(c:Int):=by omega
 obtain⟨p,e4,e3,e5,e6⟩:=q2.out c e2;have m2:=q5.out d U.out;have k:c<ps.length:=by rw [r4.out];exact e2
 obtain⟨t2,t8,u4,R,u7,b1,a8,d0⟩:=m2.at k;have m6:ps[c]=p:=by rw [List.getElem?_eq_getElem k] at e4;exact Option.some.inj e4
 rw [m6] at b1 a8 d0;simp only [zV] at R;obtain⟨rfl,e7,rfl⟩:=R;obtain⟨b2,v3⟩:=p;dsimp only at b1 a8 d0 e3 e5 e6;obtain⟨p2,o5,p7,o7,p0,j6,j8,p3,j2,k0,o6,p8,o8,p1,j7,j9,p4,j3,k1,o4,j4,o3,p6,j5,p5,o9,M,g8,r3,r5,q3,r2,r1,q7,q8,q9,r0,q6,v4,v5,v6,v7,v8⟩:=Zx a8;subst M;have v2:IntKind.i64.wrap ((c:Int)+1)=(c:Int)+1:=IntWalk.i64_in _ oz;obtain⟨i2,i1,i0,g9⟩:=Zh4 b1 e6 e5 e3;clear e7 m6 e4 m2 a8 d0 k b1 e6 e5 e3 r3 r5 q3 r2 r1 q7 q8 q9 r0 q6;obtain⟨c7,a3⟩:=zE (d.alloc (.cells #[.string p2,.int .i64 o5,.int .u32 (p7:Int),.int .u32 (o7:Int),.bool p0,.int .i64 j6,.int .i64 j8,.slice p3 j2 k0,.int .i64 o6,.int .u32 (p8:Int),.int .u32 (o8:Int),.bool p1,.int .i64 j7,.int .i64 j9,.slice p4 j3 k1,.slice o4 j4 o3,.slice p6 j5 p5,.int .i64 o9] 102));have t:Ext d c7:=by rw [<-a3];exact(Q0.refl _ d).alloc _
 have f4:c7.heap[d.heap.size]?=some (.cells #[.string p2,.int .i64 o5,.int .u32 (p7:Int),.int .u32 (o7:Int),.bool p0,.int .i64 j6,.int .i64 j8,.slice p3 j2 k0,.int .i64 o6,.int .u32 (p8:Int),.int .u32 (o8:Int),.bool p1,.int .i64 j7,.int .i64 j9,.slice p4 j3 k1,.slice o4 j4 o3,.slice p6 j5 p5,.int .i64 o9] 102 (0,0)):=by rw [<-a3];exact Q5 rfl
 obtain⟨s6,d5⟩:=zE d.heap.size;rw [d5] at f4;have i9:=Zh f4;have i5:=Zh a3;clear f4 a3;go_upto_region 5 with (refine X9 (by rfl) 102 (.tmp 20) rfl t2 (t8+c*18) zr _ _ i2.out Tryz.underlying102 rfl kz ?_)
 rw [i5.out];have u0:=Zh d5;clear d5;obtain⟨u3,u5,R,o1,l6⟩:=G.out;simp only [zV] at R;obtain⟨rfl,e7,rfl⟩:=R;have L:=Q0e (g8.out.ext t) (o1.ext t) l6 (r8.out c7 (U.out.trans t));rw [s0.out] at L;have M:=Q3t g9.out i7.out;have a4:=Bs i1.out i8.out;have P:c<f.length:=by rw [c3.out];exact e2
 have a5:f[c]=b2:=by have:=i0.out;rw [List.getElem?_eq_getElem P] at this;exact Option.some.inj this
 have N:=N9 P ws;rw [T.out,Option.bind_some,a5] at N;have v:=c1.out;rw [List.drop_eq_getElem_cons P,a5] at v;have d7:trE b2 e≠0->Qq f ws=none:=fun m=>Q0u P T.out (by rw [a5];exact m);unfold Xy at v;obtain⟨g0,m8⟩:=zE (trE b2 e);rw [m8] at L M a4 N v d7;obtain⟨l,m9⟩:=zE (X7 b2 e);rw [m9] at L a4 N v;obtain⟨g3,b8,b7,b9,V,b6⟩:=Zh6 L M a4 N v d7;clear e7 L M a4 N v d7 a5 P m8 m9 o1 l6 G c1 T i0 i1 g9 i7 i8 g8 i2 i5
 go_wp2_with (refine wpList_load_row rfl 102 (.tmp 6) rfl s6 rfl _ _ _ _ i9.out Tryz.underlying102 rfl Tryz.lawInfo ?_)
 refine g3.out.mono ?_;rintro Y c8 ⟨v9,rfl,⟨b4,b3,rfl,e9,e8⟩,d4⟩;have J:Ext w0 c8:=U.out.trans (t.trans d4);have m0:=g7.out _ _ _ c2.out (t.trans d4);obtain⟨f8,y⟩:=zE l.length;rw [y] at e9 e8 ⊢;have n0:Qo c8 (.slice b4 f8 b3) l:=⟨b4,b3,by rw [y],by rw [y];exact e9,by rw [y];exact e8⟩;obtain⟨c4,o,F,r6⟩:=Zh4 n0 m0 J y;clear n0 m0 J y e9 e8 t d4 g3 i9 c2 U;by_cases k2:g0=0;case neg=>
  obtain rfl:g0=11:=b8.out.resolve_left k2;have j:=V.out;rw [if_neg zd] at j;have O:Gj f ws=some Hs:=by unfold Gj;rw [b6.out zd];rfl
  have c5:=Zh j;have c0:=Zh O;clear j O V b6 b9 b7 b8;go_wp2;refine⟨rfl,.inr ⟨Hs,c0.out,rfl,?_⟩⟩;rw [c5.out];exact o.out
 subst k2;have j:=V.out;rw [if_pos rfl,L5] at j;have e0:=b9.out;rw [if_pos rfl] at e0;obtain⟨n6,n7⟩:=b7.out rfl;obtain⟨q0,s1,s2⟩:=Zh3 e0 n6 n7;have f5:E=(g++[(c,e)])++(c+1,l)::(Xy (f.drop (c+1)) l (c+1)).tail:=by rw [j,List.append_assoc];rfl
 have o2:E=(g++[(c,e)])++Xy (f.drop (c+1)) l (c+1):=by rw [f5,<-L5]
 have j0:=Zh f5;have s4:=Zh o2;clear j e0 n6 n7 f5 o2 V b6 b9 b7 b8;obtain⟨t1,t9,s7,s8,f6,K⟩:=j1.out (g++[(c,e)]) (c+1,l) _ c8 #[.int .i64 ((c:Int)+1),.slice b4 f8 b3] j0.out o.out ⟨_,rfl,c4.out⟩;obtain⟨⟨so,sn,sc,I⟩,Q⟩:=g2.out _ _ o.out;obtain⟨H,S,W⟩:=Zh3 K I Q;clear K I Q;go_upto_region 8 with (fail)
 refine(wpIn_wide (n:=0)).1 ?_;gi_wp2;refine H.out.mono ?_;rintro Y u2 (⟨rfl,a0,a7⟩ | ⟨rfl,a0,a7⟩);case inr=>
  gi_wp2;go_wp2;refine bodyPost_ret (results_none rfl _ _ _) rfl ?_;exact .inl ⟨⟨_,rfl⟩,.inr ⟨g++[(c,e)],(c+1,l),_,j0.out,a0⟩⟩
 have k5:=i3.out _ F.out _ a7;have n4:=Nd c4.out a7 S.out W.out;obtain⟨r9,q4,q1⟩:=Zh3 n4 a0 k5;clear n4 a0 k5 a7 f6 H c4 o F;gi_wp2;go_wp2;exact⟨⟨c+1,g++[(c,e)],l,b4,f8,b3,tz,rfl,by omega,s4.out,q0.out,q4.out,r9.out,r6.out,s1.out,s2.out,q1.out⟩,mz⟩
theorem M5(p:Addr)(a:List PanicEntry)(w:World)(x:Int)(b:w.cell? p=some (.int .i64 x)) (d:w.frozen? p=false) :
  CallsD Tryz.prog 80 #[.pointer (some p)] (.panicking ({ v:=.iface 221 (.int .i64 11),recovered:=false }::a)) w fun e u' w'=>
   e=.returned (.tuple #[])/\u'=.panicking ({ v:=.iface 221 (.int .i64 11),recovered:=true }::a)/\w'=w.setCell p (.int .i64 11):=by
 refine callsD_of_wpS Tryz.func80 rfl fun c₀ cs hu=>?_
 apply wpS_seq;apply wpS_region;simp [wpOpsS,go_sem,recoverD,hu,Tryz.ntmps80,Exit.thenS];refine wpS_of_wp ?_
 have c:∀(W:World),(Instr.typeAssert (.iface 221 (.int .i64 11)) 20 221 true).run Tryz.prog W=.ok (.tuple #[.int .i64 11,.bool true]) W:=fun W=>by
  simp [Instr.typeAssert,run_underlying Tryz.underlying221,go_sem,Result.andThen]
 go_wp2;simp [bodyPostS,results,Tryz.results80]
theorem L0(p:Addr)(w:World) :
  CallsD Tryz.prog 80 #[.pointer (some p)] .returning w fun e u' w'=>e=.returned (.tuple #[])/\u'=.returning/\w'=w:=by
 refine callsD_of_wpS Tryz.func80 rfl fun c₀ cs hu=>?_
 apply wpS_seq;apply wpS_region;simp [wpOpsS,go_sem,recoverD,hu,Tryz.ntmps80,Exit.thenS];refine wpS_of_wp ?_;go_wp2;cases c₀
 simp_all [bodyPostS,results,Tryz.results80]
theorem Q1n(lo:Option Addr)(n lc:Nat)(vo:Option Addr)(vn vc:Nat)(w:World):Calls Tryz.prog 132 #[.slice lo n lc,.slice vo vn vc] w fun e w'=>
  e=.returned (.func (.func 176) #[] #[.pointer (some ⟨w.heap.size+1,0,none⟩),.pointer (some ⟨w.heap.size,0,none⟩)])/\w'=(w.alloc (.cells #[.slice lo n lc] 26)).alloc (.cells #[.slice vo vn vc] 99):=by
 have a:∀(fn:Fn) (first cap:Array Value) (w:World),(Instr.makeFunc fn first cap).run Tryz.prog w=.ok (.func fn first cap) w:=fun _ _ _ _=>rfl;go_enter Tryz.func132,Tryz.ntmps132;go_wp2;go_ret;exact⟨by simp,rfl⟩
theorem Wy{a:Func}{p:Tmp}{ty:TypeId}(h:a.results=#[.cell p ty]){tmps:Array Value}{w:World}{g:Nat}{ao:Option Addr}{n c:Nat}{t:TypeId}(j:tmps.getD p undef=.pointer (some ⟨g,0,none⟩)) (b:(Tryz.prog.underlying ty).map (fun d=>match d with | .slice _=>true | _=>false)=some true) (i:w.heap[g]?=some (.cells #[.slice ao n c] t (0,0))) :
  (results a tmps).run Tryz.prog w=.ok (.slice ao n c) w:=by
 have f:=cell_of_one i;have k:tmps[p]?.getD undef=.pointer (some ⟨g,0,none⟩):=by simpa using j
 cases hd:Tryz.prog.underlying ty with
 | none=>simp [hd] at b
 | some d=>
  cases d with
  | slice e=>simp [results,h,k,asAddr,loadVar,isAgg,run_underlying hd,go_sem,f]
  | _=>simp [hd] at b
theorem Kj{A B:World}{v:Value}{u:Wd}{D:Nat}{F:Option Addr}{E C:Nat}{t:TypeId}{fr:Nat × Nat}(h:Qo A v u)(f:Q0 (fun b=>b=D) A B) (r:A.heap[D]?=some (.cells #[.slice F E C] t fr)):Qo B v u:=by
 obtain⟨g,k,rfl,⟨⟨m,n,i,l,z,o⟩,p⟩,q⟩:=h;refine⟨g,k,rfl,⟨⟨m,n,i,l,z,fun hn=>?_⟩,p⟩,q⟩;obtain⟨d,c,w,x,e⟩:=o hn;have y:¬ d=D:=by
  rintro rfl;have a:=e 0 oz;rw [Nat.add_zero] at a;unfold World.cell? at a;simp only [r] at a;cases c with
  | zero=>
   rw [List.getD_eq_getElem?_getD] at a;cases u with
   | nil=>simp at hn
   | cons s u=>simp [Zn] at a
  | succ c=>simp at a
 exact⟨d,c,w,Nat.lt_of_lt_of_le x f.size,fun j hj=>f.cell_some (e j hj) y⟩
theorem L6{A B:World}{r:Nat}{v:Value}{u:Wd}(h:Qo A v u)(g:Q0 (fun b=>b=r) A B) (f:∃ o,A.heap[r]?=some o/\o.isCells=false):Qo B v u:=by
 obtain⟨c,d,rfl,a,e⟩:=h;exact⟨c,d,rfl,⟨Rd.nocells g f a.1,a.2⟩,e⟩
theorem L1{w:World}{ps:Qk}{lo:Option Addr}{n lc:Nat}{vo:Option Addr}{vn vc:Nat}{ws:Wd}(b9:Qv w (.slice lo n lc) ps) (c0:ps.length=n) (c1:∀ p∈ps,Zm p.1=true) (c7:Qa w (.slice vo vn vc) ws) (c6:ws.length=vn) (c8:wE ws=0) (a9:Tab w) :
  Calls Tryz.prog 82 #[.slice lo n lc,.slice vo vn vc] w fun e w'=>(∃ u v,Qq (ps.map (·.1)) ws=some u/\e=.returned v/\Qo w' v u/\Ext w w')\/(Qq (ps.map (·.1)) ws=none/\e=.panicked Hs/\Ext w w'):=by
 have b6:=fun(l:World) (hE:Ext w l) (BL BW D:Nat) (I:w.heap.size<=D)=>Q00 (w0:=w) (w:=l) (BL:=BL) (BW:=BW) (D:=D) hE I b9 c0 c1 c7 c6 c8 a9;have H:=Zh b6;clear b6 b9 c0 c1 c7 c6 c8 a9;obtain⟨P,a8⟩:=zE (ps.map (·.1));rw [a8] at H ⊢;have R:=Fq P ws 0;obtain⟨c9,a6⟩:=zE (Xy P ws 0);rw [a6] at H R;obtain⟨T,U⟩:=zE (Qq P ws);have b5:Gj P ws=if T.isSome=true then none else some Hs:=by unfold Gj;rw [U]
 rw [b5] at H;rw [U] at R ⊢;have a2:=Zh R;clear a8 a6 U b5 R;refine Z3 Tryz.func82 rfl ?_;simp only [Tryz.ntmps82,zS,Nat.reduceAdd,Nat.reduceSub];go_upto_region 1 with (fail)
 obtain⟨F,s⟩:=zE (w.alloc (.cells #[.slice none 0 0] 99));have a5:Ext w F:=by rw [<-s];exact(Q0.refl _ w).alloc _
 have Y:F.heap[w.heap.size]?=some (.cells #[.slice none 0 0] 99 (0,0)):=by rw [<-s];exact Q5 rfl
 have C:F.heap.size=w.heap.size+1:=by rw [<-s];simp
 rw [s];obtain⟨D,I⟩:=zE w.heap.size;rw [I] at Y C ⊢;have B:=Zh I;clear s I;go_wp2_with fail;refine(Q1n lo n lc vo vn vc F).mono ?_;rintro e l ⟨rfl,z⟩;rw [C];have W:Ext F l:=by rw [z];exact((Q0.refl _ F).alloc _).alloc _
 have b1:l.heap[D+1]?=some (.cells #[.slice lo n lc] 26 (0,0)):=by rw [z];exact Q7 (Q5 C.symm)
 have b2:l.heap[D+1+1]?=some (.cells #[.slice vo vn vc] 99 (0,0)):=by rw [z];exact Q5 (by simp [C])
 have b3:=W.keep Y;have e1:l.heap.size=D+3:=by rw [z];simp [C]
 have X:=a5.trans W;have b7:=H.out l X (D+1) (D+1+1) D (by have:=B.out;omega) b1 b2 oz oz;obtain⟨a4,d0,d1⟩:=Zh3 b7 b3 X;clear z W b1 b2 b3 X b7 H a5 Y C;go_wp2_with fail
 refine Q1t (xs:=c9) rfl (enters_of Tryz.func176 kz rfl) a4.out (fun b d=>by omega) (fun _ a O G d=>by obtain⟨v,rfl,_⟩:=d;rfl) ?hEs
  (fun N c=>∃ j i g,c.heap[D]?=some (.cells #[.slice j i g] 99 (0,0))/\Ext w c/\(∀ A a,N=A++[a]->Qo c (.slice j i g) a.2))
  (fun _ _ _=>False) ?hC ?hI ?hIx ?h0 (fun G t=>(t.setIfInBounds 8 (G.getD 0 undef)).setIfInBounds 9 (G.getD 1 undef)) ?assign ?body ?pan ?done ?stop
 case hEs=>
  rintro _ a O a1 G ⟨v,rfl,a0⟩ S Z;exact⟨v,rfl,L6 a0 S Z⟩
 case hC=>
  rintro N O ⟨j,i,g,d,_⟩;exact⟨j,i,g,d⟩
 case hI=>
  rintro N O a1 ⟨j,i,g,f,k,x⟩ S Z;have r:Q0 (fun b=>b=l.heap.size+1) O a1:=S.mono fun b _ d=>d.elim (fun d=>d.2.elim) id;exact⟨j,i,g,r.heap f oz,Q0.after k r (fun b hb d=>by have:=B.out;omega),fun A a E=>L6 (x A a E) r Z⟩
 case hIx=>exact fun _ _ _ _ d=>d.elim
 case h0=>
  intro c b0 _;exact⟨none,0,0,b0.keep d0.out,d1.out.trans b0,fun A a E=>by have:=congrArg List.length E;simp at this⟩
 case assign=>
  rintro _ N a e2 G c e3 E ⟨j,i,g,f,k,x⟩ ⟨v,rfl,a0⟩ a7;obtain⟨m,o,rfl,c5⟩:=a0;have d6:=cell_of_one f;have d8:=free_of_one f;have q:Q0 (fun b=>b=D) c (c.setCell ⟨D,0,none⟩ (.slice m a.2.length o)):=Q0.set1 c D 0 _;have K:(c.setCell ⟨D,0,none⟩ (.slice m a.2.length o)).heap[D]?=some (.cells #[.slice m a.2.length o] 99 (0,0)):=by
   simp only [World.setCell,Array.getElem?_modify,f];simp
  have M:Qo (c.setCell ⟨D,0,none⟩ (.slice m a.2.length o)) (.slice m a.2.length o) a.2:=Kj ⟨m,o,rfl,c5⟩ q f
  have b8:=a7 _ q ⟨m,_,o,K,Q0.after k q (fun b hb d=>by have:=B.out;omega),fun A y hy=>by
   obtain⟨_,rfl⟩:=List.append_inj' hy rfl |>.imp id (fun d=>(List.cons.inj d).1);exact M⟩
  have d3:=Zh b8;clear b8 a7 q K M k x c5 E;gi_wp2;exact d3.out
 case body=>
  rintro N a e2 G c E c4 S d9;refine wpIn_block ?_;gi_wp2;exact⟨Q0.refl _ _,d9⟩
 case pan=>
  rintro d7 c J ⟨j,i,g,f,k,x⟩ Q c4;have L:Qs D ({ target:=.collected l.heap.size,args:=#[] }::[]) c:=Qs.cons (base:=D) trivial oz Q (fun e he=>by cases he);cases T with
  | some u=>simp at J
  | none=>
   obtain rfl:Hs=d7:=by simpa using J
   refine Mg L (fun w' r hs=>.inr ⟨rfl,rfl,?_⟩);exact Q0.after k r (fun b f k=>by have:=k.1;have:=B.out;omega)
 case done=>
  rintro J c ⟨j,i,g,f,k,x⟩ Q c4;cases T with
  | none=>simp at J
  | some u=>
   obtain⟨A,c3⟩:=a2.out u rfl;have M:=x A _ c3;have d6:=cell_of_one f;have d8:=free_of_one f;have q:Q0 (fun b=>b=D) c (c.setCell ⟨D,0,none⟩ (.slice j i g)):=Q0.set1 c D 0 _;have K:(c.setCell ⟨D,0,none⟩ (.slice j i g)).heap[D]?=some (.cells #[.slice j i g] 99 (0,0)):=by
    simp only [World.setCell,Array.getElem?_modify,f];simp
   have c2:=Kj M q f;have b4:=Q0.after k q (fun b hb d=>by have:=B.out;omega);have L:Qs D ({ target:=.collected l.heap.size,args:=#[] }::[]) (c.setCell ⟨D,0,none⟩ (.slice j i g)):=Qs.cons (base:=D) trivial oz (q.heap Q oz) (fun e he=>by cases he);rw [e1] at L;obtain⟨a3,d5,d2,d4⟩:=Zh4 K c2 b4 L;clear K M c2 b4 L q f k x c3 J Q a2 a4;go_wp2;refine Y7 (v:=.slice j i g) _ _ d4.out fun w' r hs=>⟨Wy rfl rfl kz (r.heap a3.out (Shut.not a3.out rfl)),⟨_,rfl,?_,?_⟩⟩
   ·obtain⟨m,o,e0,s,z⟩:=d5.out;exact⟨m,o,e0,⟨Rd.shut r s.1,s.2⟩,z⟩
   ·exact Q0.after d2.out r (fun b f k=>by have:=k.1;have:=B.out;omega)
 case stop=>exact fun _ _ _ _ _ _ d=>d.elim
theorem Q53{w:World}{p:Option Wd}{E BL BW a:Nat}{lo:Option Addr}{n lc:Nat}{vo:Option Addr}{vn vc:Nat}{O:Option Addr}{N M:Nat}(A:w.heap[E]?=some (.cells #[.int .i64 0] 40 (0,0))) (C:w.heap[BL]?=some (.cells #[.slice lo n lc] 26 (0,0))) (G:w.heap[BW]?=some (.cells #[.slice vo vn vc] 99 (0,0))) (D:w.heap[a]?=some (.cells #[.slice O N M] 99 (0,0))) (I:E≠a)
  (H:Calls Tryz.prog 82 #[.slice lo n lc,.slice vo vn vc] w fun e w'=>(∃ u v,p=some u/\e=.returned v/\Qo w' v u/\Ext w w')\/(p=none/\e=.panicked Hs/\Ext w w')) :
  Calls Tryz.prog 153 #[.pointer (some ⟨E,0,none⟩),.pointer (some ⟨BL,0,none⟩),.pointer (some ⟨BW,0,none⟩),.pointer (some ⟨a,0,none⟩)] w fun e w'=>e=.returned (.tuple #[])/\Q0 (fun b=>b=E\/b=a) w w' /\
   ∃ so' sn' sc',w'.heap[a]?=some (.cells #[.slice so' sn' sc'] 99 (0,0))/\((∃ u,p=some u/\Qo w' (.slice so' sn' sc') u/\w'.heap[E]?=some (.cells #[.int .i64 0] 40 (0,0)))\/(p=none/\w'.heap[E]?=some (.cells #[.int .i64 11] 40 (0,0)))):=by
 have y:=cell_of_one C;have z:=cell_of_one G;obtain⟨q,r,s⟩:=Zh3 A D H;clear A C G D H
 go_enter_defers Tryz.func153,Tryz.ntmps153
 go_wp2_with fail;refine s.out.mono ?_;rintro e c (⟨u,v,rfl,rfl,U,d⟩ | ⟨rfl,rfl,d⟩)
 ·obtain⟨k,l,rfl,K,L⟩:=U;have g:=d.keep r.out;have j:=d.keep q.out;have X:=cell_of_one g;have Y:=free_of_one g;have i:Q0 (fun b=>b=a) c (c.setCell ⟨a,0,none⟩ (.slice k u.length l)):=Q0.set1 c a 0 _;have o:(c.setCell ⟨a,0,none⟩ (.slice k u.length l)).heap[a]?=some (.cells #[.slice k u.length l] 99 (0,0)):=by
   simp only [World.setCell,Array.getElem?_modify,g];simp
  have J:=Kj ⟨k,l,rfl,K,L⟩ i g;have B:=i.heap j I;have m:Q0 (fun b=>b=E\/b=a) w (c.setCell ⟨a,0,none⟩ (.slice k u.length l)):=(Ext.of d).trans (i.mono fun b _ h=>.inr h);obtain⟨t,R,P,x⟩:=Zh4 o J B m;clear o J B m i g j K L d s y z q r;go_wp2;refine leaves_cons (f:=80) (args:=#[.pointer (some ⟨E,0,none⟩)]) zy (by simp [go_sem]) ?_;refine(L0 _ _).mono ?_;rintro e V W ⟨rfl,rfl,rfl⟩;refine⟨.tuple #[],results_none rfl _ _ _,rfl,x.out,k,_,l,t.out,.inl ⟨u,rfl,R.out,P.out⟩⟩
 ·have g:=d.keep r.out;have j:=d.keep q.out;have S:=cell_of_one j;have T:=free_of_one j;have i:Q0 (fun b=>b=E) c (c.setCell ⟨E,0,none⟩ (.int .i64 11)):=Q0.set1 c E 0 _;have o:(c.setCell ⟨E,0,none⟩ (.int .i64 11)).heap[E]?=some (.cells #[.int .i64 11] 40 (0,0)):=by
   simp only [World.setCell,Array.getElem?_modify,j];simp
  have F:=i.heap g (fun h=>I h.symm);have m:Q0 (fun b=>b=E\/b=a) w (c.setCell ⟨E,0,none⟩ (.int .i64 11)):=(Ext.of d).trans (i.mono fun b _ h=>.inl h);obtain⟨t,Q,x⟩:=Zh3 o F m;clear o F m i g j d s y z q r;go_wp2;refine leaves_cons (f:=80) (args:=#[.pointer (some ⟨E,0,none⟩)]) zy (by simp [go_sem]) ?_;refine(M5 _ [] _ 0 S T).mono ?_;rintro e V W ⟨rfl,rfl,rfl⟩;simp [Leaves,settle,results,Tryz.results153,go_sem];exact⟨x.out,⟨O,N,M,Q.out⟩,t.out⟩
theorem Fu{a:Func}{p q:Tmp}{ty:TypeId}(h:a.results=#[.cell p ty,.tmp q]){tmps:Array Value}{w:World}{g:Nat}{ao:Option Addr}{n c:Nat}{t:TypeId}{x:Value}(j:tmps.getD p undef=.pointer (some ⟨g,0,none⟩)) (l:tmps.getD q undef=x) (b:(Tryz.prog.underlying ty).map (fun d=>match d with | .slice _=>true | _=>false)=some true) (i:w.heap[g]?=some (.cells #[.slice ao n c] t (0,0))) :
  (results a tmps).run Tryz.prog w=.ok (.tuple #[.slice ao n c,x]) w:=by
 have f:=cell_of_one i;have k:tmps[p]?.getD undef=.pointer (some ⟨g,0,none⟩):=by simpa using j
 have m:tmps[q]?.getD undef=x:=by simpa using l
 cases hd:Tryz.prog.underlying ty with
 | none=>simp [hd] at b
 | some d=>
  cases d with
  | slice e=>simp [results,h,k,m,asAddr,loadVar,isAgg,run_underlying hd,go_sem,f]
  | _=>simp [hd] at b
theorem Te{w:World}{ps:Qk}{lo:Option Addr}{n lc:Nat}{vo:Option Addr}{vn vc:Nat}{ws:Wd}(b0:Qv w (.slice lo n lc) ps) (b1:ps.length=n) (b2:∀ p∈ps,Zm p.1=true) (b6:Qa w (.slice vo vn vc) ws) (b5:ws.length=vn) (b7:wE ws=0) (a7:Tab w) :
  Calls Tryz.prog 110 #[.slice lo n lc,.slice vo vn vc] w fun e w'=>∃ ao an c,e=.returned (.tuple #[.slice ao an c,.bool (Qq (ps.map (·.1)) ws).isSome])/\(∀ u,Qq (ps.map (·.1)) ws=some u->Qo w' (.slice ao an c) u)/\Ext w w':=by
 have b4:=fun(V:World) (hE:Ext w V)=>L1 (b0.ext hE) b1 b2 (b6.ext hE) b5 b7 (a7.keep hE id);have N:=Zh b4;clear b4 b0 b1 b2 b6 b5 b7 a7;obtain⟨c1,a3⟩:=zE (Qq (ps.map (·.1)) ws);rw [a3] at N ⊢;clear a3;have c2:∀(fn:Fn) (first cap:Array Value) (w:World),(Instr.makeFunc fn first cap).run Tryz.prog w=.ok (.func fn first cap) w:=fun _ _ _ _=>rfl;go_enter Tryz.func110,Tryz.ntmps110;go_upto_region 2 with (fail)
 obtain⟨C,A⟩:=zE ((((w.alloc (.cells #[.slice lo n lc] 26)).alloc (.cells #[.slice vo vn vc] 99)).alloc (.cells #[.slice none 0 0] 99)).alloc (.cells #[.int .i64 0] 40));have a4:Ext w C:=by rw [<-A];exact((((Q0.refl _ w).alloc _).alloc _).alloc _).alloc _
 have O:C.heap[w.heap.size]?=some (.cells #[.slice lo n lc] 26 (0,0)):=by rw [<-A];exact Q7 (Q7 (Q7 (Q5 rfl)))
 have P:C.heap[w.heap.size+1]?=some (.cells #[.slice vo vn vc] 99 (0,0)):=by rw [<-A];exact Q7 (Q7 (Q5 zy))
 have y:C.heap[w.heap.size+1+1]?=some (.cells #[.slice none 0 0] 99 (0,0)):=by rw [<-A];exact Q7 (Q5 zy)
 have Q:C.heap[w.heap.size+1+1+1]?=some (.cells #[.int .i64 0] 40 (0,0)):=by rw [<-A];exact Q5 zy
 rw [A];obtain⟨f,R⟩:=zE w.heap.size;rw [R] at O P y Q ⊢;obtain⟨I,W,X,Y,Z,L⟩:=Zh6 R O P y Q a4;clear A R O P y Q a4;go_wp2_with fail;refine(Q53 Z.out W.out X.out Y.out oz (N.out C L.out)).mono ?_;rintro e B ⟨rfl,a8,m,l,k,a6,a9⟩;have a5:Ext w B:=Q0.after L.out a8 (fun b hb E=>by have:=I.out;rcases E with E | E <;> omega);obtain⟨a0,a1,J⟩:=Zh3 a5 a6 a9;clear a8 a5 a6 a9 N W X Y Z L;rcases J.out with ⟨u,T,b3,U⟩ | ⟨T,U⟩
 ·subst T;have b8:=Zh b3;clear b3 J;have M:=Zh U;go_upto_region 3 with (fail)
  obtain⟨j,r⟩:=zE B.drew;have q:Ext B j:=by rw [<-r];exact(Q0.refl _ B).drew
  have g:j.heap[f+1+1]?=some (.cells #[.slice m l k] 99 (0,0))/\j.heap[f+1+1+1]?=some (.cells #[.int .i64 0] 40 (0,0)):=⟨q.keep a1.out,q.keep M.out⟩;refine Qr (S:=fun D=>D.heap[f+1+1]?=some (.cells #[.slice m l k] 99 (0,0))/\D.heap[f+1+1+1]?=some (.cells #[.int .i64 0] 40 (0,0))) [] kz (by rw [r];exact g) ?_;intro _;rw [r];clear r;refine tkE (i:=0) (d:=9) (v:=?_) rfl (Or.inl ⟨by rfl,?_⟩) g ?_;rotate_left
  ·intro w a;(try dsimp only at a);have o:=cell_of_one a.1;have t:=cell_of_one a.2;go_simp;try with_reducible rfl
  try simp only [Act.put,pq]
  refine tkE (i:=1) (d:=10) (v:=?_) rfl (Or.inl ⟨by rfl,?_⟩) g ?_;rotate_left
  ·intro w a;(try dsimp only at a);have o:=cell_of_one a.1;have t:=cell_of_one a.2;go_simp;try with_reducible rfl
  try simp only [Act.put,pq]
  refine tkE (i:=2) (d:=11) (v:=?_) rfl (Or.inl ⟨by rfl,?_⟩) g ?_;rotate_left
  ·intro w a;(try dsimp only at a);have o:=cell_of_one a.1;have t:=cell_of_one a.2;go_simp;try with_reducible rfl
  try simp only [Act.put,pq]
  have o:=cell_of_one g.1;have b9:=free_of_one g.1;have z:Q0 (fun b=>b=f+1+1) j (j.setCell ⟨f+1+1,0,none⟩ (.slice m l k)):=Q0.set1 j (f+1+1) 0 _;have F:(j.setCell ⟨f+1+1,0,none⟩ (.slice m l k)).heap[f+1+1]?=some (.cells #[.slice m l k] 99 (0,0))/\(j.setCell ⟨f+1+1,0,none⟩ (.slice m l k)).heap[f+1+1+1]?=some (.cells #[.int .i64 0] 40 (0,0)):=⟨by simp only [World.setCell,Array.getElem?_modify,g.1];simp,z.heap g.2 oz⟩;obtain⟨s,H,G,a2⟩:=Zh4 F z q g;clear F z q g;refine rE [3] ?_;refine Q1.cons rfl (fun K hK=>?_) Q1.nil;refine iw rfl ?_;go_simp;refine hK.out _ _ s.out (fun _=>?_);clear hK K
  (try simp only [Act.put,pq])
  refine tkE (i:=4) (d:=5) (v:=?_) rfl (Or.inl ⟨by rfl,?_⟩) s.out ?_;rotate_left
  ·intro w a;(try dsimp only at a);have o:=cell_of_one a.1;have t:=cell_of_one a.2;go_simp;try with_reducible rfl
  try simp only [Act.put,pq]
  refine Qh kz ?_ _;go_wp2;have c0:=Kj ((b8.out).ext G.out) H.out a2.out.1;refine bodyPost_ret (Fu rfl rfl rfl kz s.out.1) rfl ⟨m,l,k,rfl,fun u2 y=>?_,?_⟩
  ·cases y;exact c0
  ·exact Q0.after (a0.out.trans G.out) H.out (fun b hb E=>by have:=I.out;omega)
 ·subst T;clear J;have M:=Zh U;go_upto_region 3 with (fail)
  obtain⟨j,r⟩:=zE B.drew;have q:Ext B j:=by rw [<-r];exact(Q0.refl _ B).drew
  have g:j.heap[f+1+1]?=some (.cells #[.slice m l k] 99 (0,0))/\j.heap[f+1+1+1]?=some (.cells #[.int .i64 11] 40 (0,0)):=⟨q.keep a1.out,q.keep M.out⟩;refine Qr (S:=fun D=>D.heap[f+1+1]?=some (.cells #[.slice m l k] 99 (0,0))/\D.heap[f+1+1+1]?=some (.cells #[.int .i64 11] 40 (0,0))) [] kz (by rw [r];exact g) ?_;intro _;rw [r];clear r;refine tkE (i:=0) (d:=9) (v:=?_) rfl (Or.inl ⟨by rfl,?_⟩) g ?_;rotate_left
  ·intro w a;(try dsimp only at a);have o:=cell_of_one a.1;have t:=cell_of_one a.2;go_simp;try with_reducible rfl
  try simp only [Act.put,pq]
  refine tkE (i:=1) (d:=10) (v:=?_) rfl (Or.inl ⟨by rfl,?_⟩) g ?_;rotate_left
  ·intro w a;(try dsimp only at a);have o:=cell_of_one a.1;have t:=cell_of_one a.2;go_simp;try with_reducible rfl
  try simp only [Act.put,pq]
  refine tkE (i:=2) (d:=11) (v:=?_) rfl (Or.inl ⟨by rfl,?_⟩) g ?_;rotate_left
  ·intro w a;(try dsimp only at a);have o:=cell_of_one a.1;have t:=cell_of_one a.2;go_simp;try with_reducible rfl
  try simp only [Act.put,pq]
  have o:=cell_of_one g.1;have b9:=free_of_one g.1;have z:Q0 (fun b=>b=f+1+1) j (j.setCell ⟨f+1+1,0,none⟩ (.slice m l k)):=Q0.set1 j (f+1+1) 0 _;have F:(j.setCell ⟨f+1+1,0,none⟩ (.slice m l k)).heap[f+1+1]?=some (.cells #[.slice m l k] 99 (0,0))/\(j.setCell ⟨f+1+1,0,none⟩ (.slice m l k)).heap[f+1+1+1]?=some (.cells #[.int .i64 11] 40 (0,0)):=⟨by simp only [World.setCell,Array.getElem?_modify,g.1];simp,z.heap g.2 oz⟩;obtain⟨s,H,G,a2⟩:=Zh4 F z q g;clear F z q g;refine rE [3] ?_;refine Q1.cons rfl (fun K hK=>?_) Q1.nil;refine iw rfl ?_;go_simp;refine hK.out _ _ s.out (fun _=>?_);clear hK K
  (try simp only [Act.put,pq])
  refine tkE (i:=4) (d:=5) (v:=?_) rfl (Or.inl ⟨by rfl,?_⟩) s.out ?_;rotate_left
  ·intro w a;(try dsimp only at a);have o:=cell_of_one a.1;have t:=cell_of_one a.2;go_simp;try with_reducible rfl
  try simp only [Act.put,pq]
  refine Qh kz ?_ _;go_wp2;refine bodyPost_ret (Fu rfl rfl rfl kz s.out.1) rfl ⟨m,l,k,rfl,fun u2 y=>(by cases y),?_⟩;exact Q0.after (a0.out.trans G.out) H.out (fun b hb E=>by have:=I.out;omega)
def Y3:Nat->List Nat->List (List Nat)
 | 0,_=>[[]]
 | n+1,av=>av.flatMap fun i=>(Y3 n (av.filter (· != i))).map (i::·)
def Yh:Nat->List (List Nat)
 | 0=>[[]]
 | n+1=>(List.range (n+1)).flatMap fun f=>(Yh n).map fun r=>f::r.map fun x=>if f<=x then x+1 else x
theorem Wq{α β:Type}{l:List α}{f g:α->List β}(h:∀ x∈l,f x=g x):l.flatMap f=l.flatMap g:=by
 rw [List.flatMap_def,List.flatMap_def,List.map_congr_left h]
theorem Ws{b:List Nat}(h:b.Nodup){f:Nat}(c:f<b.length):b.filter (· != b[f])=b.eraseIdx f:=by
 induction b generalizing f with
 | nil=>cases c
 | cons a b ih=>
  rw [List.nodup_cons] at h;cases f with
  | zero=>
   simp only [List.getElem_cons_zero,List.eraseIdx_cons_zero];rw [List.filter_cons_of_neg zy,List.filter_eq_self.2];intro i g;simp only [bne_iff_ne,ne_eq];rintro rfl;exact h.1 g
  | succ f=>
   have d:f<b.length:=by simpa using c
   simp only [List.getElem_cons_succ,List.eraseIdx_cons_succ];rw [List.filter_cons_of_pos (by simp only [bne_iff_ne,ne_eq];intro e;exact h.1 (e ▸ List.getElem_mem d)),ih h.2 d]
theorem Cm(a:List Nat)(f x:Nat):(a.eraseIdx f).getD x 0=a.getD (if f<=x then x+1 else x) 0:=by
 rw [List.getD_eq_getElem?_getD,List.getD_eq_getElem?_getD,List.getElem?_eraseIdx];by_cases b:f<=x
 ·rw [if_pos b,if_neg oz]
 ·rw [if_neg b,if_pos oz]
theorem Dg:∀(n:Nat) (av:List Nat),av.Nodup->av.length=n->Y3 n av=(Yh n).map fun o=>o.map fun x=>av.getD x 0
 | 0,_,_,_=>rfl
 | n+1,av,hn,hl=>by
  unfold Y3 Yh;have hav:av=(List.range (n+1)).map fun f=>av.getD f 0:=by
   apply List.ext_getElem
   ·simp [hl]
   ·intro e c d;simp [List.getD_eq_getElem?_getD,c]
  conv=>lhs;arg 2;rw [hav]
  rw [List.flatMap_map,List.map_flatMap];refine Wq fun f hf=>?_
  have a:f<av.length:=by rw [hl];exact List.mem_range.1 hf
  have b:av.getD f 0=av[f]:=by rw [List.getD_eq_getElem?_getD,List.getElem?_eq_getElem a];rfl
  rw [b,Ws hn a,Dg n (av.eraseIdx f) (hn.sublist (List.eraseIdx_sublist ..)) (by rw [List.length_eraseIdx_of_lt a,hl];rfl),List.map_map,List.map_map];refine List.map_congr_left fun r _=>?_
  simp only [Function.comp,List.map_cons,List.map_map];rw [b]
  congr 1
  exact List.map_congr_left fun x _=>Cm av f x
theorem Gr:∀(n:Nat),∀ o∈Yh n,o.length=n/\∀ x∈o,x<n
 | 0,o,h=>by
  unfold Yh at h;rw [List.mem_singleton] at h;subst h;exact⟨rfl,fun x hx=>by cases hx⟩
 | n+1,o,h=>by
  unfold Yh at h;obtain⟨f,hf,h⟩:=List.mem_flatMap.1 h;obtain⟨r,hr,rfl⟩:=List.mem_map.1 h;obtain⟨h1,h2⟩:=Gr n r hr;refine⟨by simp [h1],fun x hx=>?_⟩;rcases List.mem_cons.1 hx with rfl | hx
  ·exact List.mem_range.1 hf
  ·obtain⟨y,hy,rfl⟩:=List.mem_map.1 hx;have:=h2 y hy
   split <;> omega
theorem Vy(n:Nat):Y3 n (List.range n)=Yh n:=by
 rw [Dg n _ List.nodup_range zy];conv=>rhs;rw [<-List.map_id (Yh n)]
 refine List.map_congr_left fun o ho=>?_
 conv=>rhs;rw [id,<-List.map_id o]
 refine List.map_congr_left fun x hx=>?_
 have:=(Gr n o ho).2 x hx;simp [List.getD_eq_getElem?_getD,this]
def Ue(n:Nat)(p:List Nat):List Nat:=(List.range n).filter fun i=>!p.contains i
def Vf(n m:Nat)(p:List Nat):List (List Nat):=(Y3 m (Ue n p)).map (p++·)
def Jh(n m:Nat)(p:List Nat)(k:Nat):List (List Nat):=(Ue k p).flatMap fun i=>Vf n m (p++[i])
theorem Q3o(n:Nat)(p:List Nat):Vf n 0 p=[p]:=by
 unfold Vf Y3;simp
theorem Q1a(n:Nat)(p:List Nat)(i:Nat):Ue n (p++[i])=(Ue n p).filter (· != i):=by
 unfold Ue;rw [List.filter_filter];apply List.filter_congr;intro b _;by_cases a:b=i
 ·subst a;simp
 ·simp [a]
theorem Cx(n m:Nat)(p:List Nat):Jh n m p 0=[]:=rfl
theorem T7{n m k:Nat}{p:List Nat}(h:k∈p):Jh n m p (k+1)=Jh n m p k:=by
 unfold Jh Ue;rw [List.range_succ,List.filter_append];simp [h]
theorem Wr{n m k:Nat}{p:List Nat}(h:k ∉ p):Jh n m p (k+1)=Jh n m p k++Vf n m (p++[k]):=by
 unfold Jh Ue;rw [List.range_succ,List.filter_append];simp [h]
theorem Nj(n m:Nat)(p:List Nat):Jh n m p n=Vf n (m+1) p:=by
 have c:Y3 (m+1) (Ue n p)=(Ue n p).flatMap fun a=>(Y3 m ((Ue n p).filter (· != a))).map (a::·):=rfl;unfold Jh Vf;rw [c,List.map_flatMap];apply Wq;intro a _;rw [Q1a,List.map_map];apply List.map_congr_left;intro b _;show (p++[a])++b=p++a::b;simp
theorem Ep{n m k:Nat}{p:List Nat}(i:k<n)(h:k ∉ p):∃ rest,Vf n (m+1) p=Jh n m p k++Vf n m (p++[k])++rest:=by
 have g:∀ b a,a+b=n->∃ rest,Jh n m p n=Jh n m p a++rest:=by
  intro b
  induction b with
  | zero=>
   intro a f;obtain rfl:a=n:=by omega
   exact⟨[],by simp⟩
  | succ b ih=>
   intro a f;obtain⟨d,c⟩:=ih (a+1) oz;by_cases e:a∈p
   ·exact⟨d,by rw [c,T7 e]⟩
   ·exact⟨_,by rw [c,Wr e,List.append_assoc]⟩
 obtain⟨d,c⟩:=g (n - (k+1)) (k+1) oz;exact⟨d,by rw [<-Nj,c,Wr h]⟩
theorem Q0z{LD:List Q2}{p:List Nat}{i:Nat}{l:Q2}(a:LD[i]?=some l)(s:Option Wd):Yz LD (p++[i]) s=Y4 l (Yz LD p s):=by
 unfold Yz;rw [List.foldl_append];simp only [List.foldl_cons,List.foldl_nil,a]
def J6(n:Nat)(p:List Nat):Nat:=Yo n fun i=>p.contains i
theorem Bd(n:Nat)(p:List Nat):J6 n p<2 ^ n:=Vd _ _
theorem Q3r(n:Nat):J6 n []=0:=by unfold J6;rw [show (fun i=>([]:List Nat).contains i)=fun _=>false from rfl,Jv]
theorem Q4e{n k:Nat}{p:List Nat}(a:k<n):(J6 n p).testBit k=decide (k∈p):=by
 unfold J6;rw [X0];simp [a]
theorem Q67{n k:Nat}{p:List Nat}(b:k<n):J6 n p ||| 2 ^ k=J6 n (p++[k]):=by
 unfold J6;rw [Us b,Mt];apply Jz;intro c _;by_cases a:c=k
 ·subst a;simp
 ·simp [a]
def Qa1(l:Wd)(i:Nat):Bool:=(l.take i).any fun s=>!okS s
def Q9x(n:Nat)(l:List Ye)(i:Nat):Bool:=(l.take i).any fun x=>!Xh n x
end Go.Proofs.YtfdlhlghcbeblaaGreatDoor
