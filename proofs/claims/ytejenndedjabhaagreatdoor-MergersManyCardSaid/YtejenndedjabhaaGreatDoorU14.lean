/- derive.forms: -/
import Derived.Test.YtejenndedjabhaaGreatDoorU13
set_option maxRecDepth 100000
set_option maxHeartbeats 16000000
namespace Go.Proofs.YtejenndedjabhaaGreatDoor
open Go.RowKit Go.Ab
attribute [local go_sem] Oper.semAt_some Z6 Qn
def J6:List Q5->Wd->Nat->List (Nat × Wd)
 | [],u,i=>[(i,u)]
 | l::ls,u,i=>(i,u)::(if trE l u=0 then J6 ls (Ja l u) (i+1) else [])
def Dl:List PanicEntry:=[{ v:=.iface 193 (.int .i64 11),recovered:=false }]
def Hi(ls:List Q5)(ws:Wd):Option (List PanicEntry):=if (Zf ls ws).isSome=true then none else some Dl
def Q9l(_:Nat)(x:Nat × Wd)(W:World)(ys:Array Value):Prop:=∃ v,ys=#[.int .i64 (x.1:Int),v]/\Qm W v x.2
theorem Mf:∀(ls:List Q5) (ws:Wd) (i:Nat) (u:Wd),Zf ls ws=some u->∃ pre,J6 ls ws i=pre++[(i+ls.length,u)]
 | [],ws,i,u,h=>by cases h;exact⟨[],rfl⟩
 | l::ls,ws,i,u,h=>by
  unfold Zf at h
  split at h
  ·rename_i h0
   obtain⟨pre,hp⟩:=Mf ls _ (i+1) u h;refine⟨(i,ws)::pre,?_⟩;unfold J6;rw [if_pos h0,hp,List.length_cons,show i+(ls.length+1)=i+1+ls.length by omega];rfl
  ·cases h
theorem Mg(ls:List Q5)(u:Wd)(i:Nat):J6 ls u i=(i,u)::(J6 ls u i).tail:=by cases ls <;> rfl
theorem Rw{A B:World}{v:Value}{u:Wd}{D l:Nat}{M:Option Addr}{L K:Nat}{t:TypeId}{fr:Nat × Nat}(h:Qm A v u)(g:Q0 (fun b=>b=D\/b=l) A B) (z:A.heap[D]?=some (.cells #[.slice M L K] t fr)) (F:∃ o,A.heap[l]?=some o/\o.isCells=false):Qm B v u:=by
 obtain⟨k,n,rfl,⟨⟨q,r,m,p,H,w⟩,x⟩,y⟩:=h;refine⟨k,n,rfl,⟨⟨q,r,m,p,H,fun hn=>?_⟩,x⟩,y⟩;obtain⟨c,e,C,E,d⟩:=w hn;have G:¬ (c=D\/c=l):=by
  rintro(rfl | rfl)
  ·have a:=d 0 oz;rw [Nat.add_zero] at a;unfold World.cell? at a;simp only [z] at a;cases e with
   | zero=>
    rw [List.getD_eq_getElem?_getD] at a;cases u with
    | nil=>simp at hn
    | cons s u=>simp [Ql] at a
   | succ e=>simp at a
  ·obtain⟨o,I,J⟩:=F;obtain⟨N,f,i⟩:=Gn (d 0 oz);simp only at f;rw [I] at f;cases f;rw [J] at i;cases i
 exact⟨c,e,C,Nat.lt_of_lt_of_le E g.size,fun j hj=>g.cell_some (d j hj) G⟩
theorem Q1m{w0 w:World}{BL BW D n:Nat}{ps:Zw}{lo:Option Addr}{lc:Nat}{vo:Option Addr}{vn vc:Nat}{ws:Wd}(d1:Ext w0 w)(u6:w0.heap.size<=D)(a9:Z9 w0 (.slice lo n lc) ps) (b0:ps.length=n) (m5:∀ p∈ps,Yj p.1=true)
  (f2:Q4 w0 (.slice vo vn vc) ws) (f1:ws.length=vn) (f3:wE ws=0) (k9:Tab w0) (d8:w.heap[BL]?=some (.cells #[.slice lo n lc] 22 (0,0))) (l3:w.heap[BW]?=some (.cells #[.slice vo vn vc] 23 (0,0))) (m4:BL≠D) (t5:BW≠D) :
  Q7g Tryz.prog 175 #[.pointer (some ⟨BW,0,none⟩),.pointer (some ⟨BL,0,none⟩)] (fun _ _=>False) Q9l (J6 (ps.map (·.1)) ws 0) (Hi (ps.map (·.1)) ws) (fun b=>b=D) (fun A=>∃ so sn sc,A.heap[D]?=some (.cells #[.slice so sn sc] 23 (0,0))) w:=by
 intro f7 c6 u1 s5 z u9 u8 k6 t3 k3 d6 c9;have v1:=(Array.getElem?_eq_some_iff.1 d8).1;have l0:=z.heap d8 m4;have l4:=z.heap l3 t5;have d2:Ext w0 s5:=Q0.after d1 z (fun b hb Y=>by omega);have v0:=d1.size;have m7:ps.length<=maxLen:=a9.1.2.1;rw [b0] at m7;unfold maxLen at m7;have t7:ws.length<=32:=U1 f3;have n8:=f2.2;have l5:=fun(d:World) (i:Ext w0 d)=>Hy (f2.ext i) oz;have k7:∀ g A B,c6 g A->Ext A B->c6 g B:=fun g A B a6 he=>k6 g A B a6 (Ext.of he);have n1:∀ d,Ext w0 d->∀ B,Q0 (fun b=>b=D\/b=f7) d B->Ext w0 B:=fun d i B z=>Q0.after i z (fun b hb m=>by rcases m with m | m <;> omega);obtain⟨f,a1⟩:=zE (ps.map (·.1));obtain⟨E,d3⟩:=zE (J6 f ws 0);rw [a1,d3] at d6 ⊢
 have l9:∀ c (m1:c<n),∃ p,ps[c]?=some p/\Yj p.1=true/\f[c]?=some p.1/\(∀ x∈p.1.outs,Jh x):=fun c m1=>by
  have s:c<ps.length:=by omega
  refine⟨ps[c],List.getElem?_eq_getElem s,m5 _ (List.getElem_mem s),by rw [<-a1,List.getElem?_map,List.getElem?_eq_getElem s];rfl,?_⟩;obtain⟨_,_,_,_,_,_,_,_,_,t6⟩:=a9.2 _ (List.getElem_mem s);exact t6.2
 have m3:f.length=n:=by rw [<-a1,List.length_map,b0]
 obtain⟨q5,p9,g7,j1,g2,i3,q2,g5⟩:=Zh8 (fun(d:World) (i:Ext w0 d)=>a9.ext i) l5 k7 d6 k3 n1 l9 d3;obtain⟨c3,i6,s3,g6,r8,X,r4⟩:=Zh7 m3 n8 f3 c9 (fun(d:World) (i:Ext w0 d)=>k9.keep i id) f1 b0;rw [f1] at t7;clear a9 l5 k7 d6 k3 n1 l9 d3 m3 n8 f3 c9 k9 k6 t3 d1 f2 m5 a1 z d8 l3 f1 b0;show Calls _ _ #[.func (.yield f7) #[] #[],.pointer (some ⟨BW,0,none⟩),.pointer (some ⟨BL,0,none⟩)] _ _;go_enter Tryz.func175,Tryz.ntmps175;have t0:=cell_of_one l4;go_wp2_with fail;have d9:=p9.out _ d2;rw [X.out] at d9;refine d9.mono ?_;rintro Y f9 ⟨r,q,rfl,k8,a2⟩;have k4:Ext w0 f9:=d2.trans a2;have l1:=a2.keep l0;have C:Qm f9 (.slice r vn q) ws:=by have:=Qm.own (u:=ws) (by rw [X.out];exact k8) i6.out;rw [X.out] at this;exact this
 have e1:=g7.out _ _ _ g6.out a2;have f0:E=[]++(0,ws)::(J6 f ws 0).tail:=by
  rw [<-g5.out];cases f with
  | nil=>rfl
  | cons a b=>rfl
 obtain⟨t1,t9,s7,s8,f6,K⟩:=j1.out [] (0,ws) _ f9 #[.int .i64 0,.slice r vn q] f0 e1 ⟨_,rfl,C⟩;obtain⟨⟨so,sn,sc,I⟩,Q⟩:=g2.out _ _ e1;obtain⟨r7,H,G,g4,g1,S,W⟩:=Zh7 f0 K C k4 l1 I Q;clear K C k4 l1 I Q e1 f0 k8 a2 d9 t0 l0 l4 d2;go_upto_region 1 with (fail)
 refine(wpIn_wide (n:=0)).1 ?_;gi_wp2;refine H.out.mono ?_;rintro Y w2 (⟨rfl,Z,k⟩ | ⟨rfl,Z,k⟩);case inr=>
  gi_wp2;go_wp2;refine bodyPost_ret (results_none rfl _ _ _) rfl ?_;exact .inl ⟨⟨_,rfl⟩,.inr ⟨[],(0,ws),_,r7.out,Z⟩⟩
 have J:=i3.out _ g4.out _ k;have n3:=Rw G.out k S.out W.out;have l2:=k.heap g1.out (by rintro(m | m);exact m4 m;omega);obtain⟨i4,o,F⟩:=Zh3 n3 Z J;clear n3 Z J k H G g4 g1 S W f6;have s9:=cell_of_one l2;gi_wp2;go_wp2
 refine wp_loop (fun a d=>∃(c:Nat) (g:List (Nat × Wd)) (e:Wd) (r:Option Addr) (b5 q:Nat),a.defers=[]/\gS a [0,4,15,16,17]=(40,[.func (.yield f7) #[] #[],.slice r b5 q,.slice lo n lc,.int .i64 n,.int .i64 c])/\c<=n/\E=g++J6 (f.drop c) e c/\Zf (f.take c) ws=some e/\c6 (g++[(c,e)]) d/\Qm d (.slice r b5 q) e/\e.length=b5/\wE e=0/\Qw e/\Ext w0 d)
  (fun a _=>((n:Int) - intOf (a.tmps.getD 17 undef)).toNat) ?_ ?_
 ·exact⟨0,[],ws,r,vn,q,rfl,rfl,Nat.zero_le _,by rw [<-g5.out];rfl,rfl,o.out,i4.out,X.out,s3.out,i6.out,F.out⟩
 clear i4 o F g6 s9 l2;rintro⟨w1,_⟩ d ⟨c,g,e,r,b5,q,t4,n2,m1,l8,l7,a6,C,n5,n9,o0,i⟩;subst t4;obtain⟨u,rfl⟩:=Qt n2;clear n2;obtain⟨c1,T,c2,G,s0,i7,i8,U⟩:=Zh8 l8 l7 a6 C n5 n9 o0 i;clear l8 l7 a6 C n5 n9 o0 i;by_cases e2:c<n;case neg=>
  obtain rfl:c=n:=by omega
  have s:¬ ((c:Int)<(c:Int)):=by omega
  have j:E=g++[(c,e)]:=by
   have:=c1.out;rw [List.drop_eq_nil_of_le (by rw [c3.out];exact Nat.le_refl _)] at this;exact this
  have O:Hi f ws=none:=by
   have:=T.out;rw [Q5s (by rw [c3.out];exact Nat.le_refl _)] at this;unfold Hi;rw [this];rfl
  have c5:=Zh j;have c0:=Zh O;clear j O;go_wp2;go_end0
  exact .inl ⟨⟨_,rfl⟩,.inl ⟨c0.out,by rw [c5.out];exact c2.out⟩⟩
 have s:(c:Int)<(n:Int):=by omega
 have c9:(0:Int)<=(c:Int):=by omega
 obtain⟨p,e4,e3,e5,e6⟩:=q2.out c e2;have m2:=q5.out d U.out;have k:c<ps.length:=by rw [r4.out];exact e2
 obtain⟨t2,t8,u4,R,u7,b1,a8,d0⟩:=m2.at k;have m6:ps[c]=p:=by rw [List.getElem?_eq_getElem k] at e4;exact Option.some.inj e4
 rw [m6] at b1 a8 d0;simp only [zV] at R;obtain⟨rfl,e7,rfl⟩:=R;obtain⟨b2,v3⟩:=p;dsimp only at b1 a8 d0 e3 e5 e6;obtain⟨p2,o5,p7,o7,p0,j6,j8,p3,j2,k0,o6,p8,o8,p1,j7,j9,p4,j3,k1,o4,j4,o3,p6,j5,p5,o9,M,g8,r3,r5,q3,r2,r1,q7,q8,q9,r0,q6,v4,v5,v6,v7,v8⟩:=X5 a8;subst M;have v2:IntKind.i64.wrap ((c:Int)+1)=(c:Int)+1:=IntWalk.i64_in _ oz;obtain⟨i2,i1,i0,g9⟩:=Zh4 b1 e6 e5 e3;clear e7 m6 e4 m2 a8 d0 k b1 e6 e5 e3 r3 r5 q3 r2 r1 q7 q8 q9 r0 q6;obtain⟨c7,a3⟩:=zE (d.alloc (.cells #[.string p2,.int .i64 o5,.int .u32 (p7:Int),.int .u32 (o7:Int),.bool p0,.int .i64 j6,.int .i64 j8,.slice p3 j2 k0,.int .i64 o6,.int .u32 (p8:Int),.int .u32 (o8:Int),.bool p1,.int .i64 j7,.int .i64 j9,.slice p4 j3 k1,.slice o4 j4 o3,.slice p6 j5 p5,.int .i64 o9] 50));have t:Ext d c7:=by rw [<-a3];exact(Q0.refl _ d).alloc _
 have f4:c7.heap[d.heap.size]?=some (.cells #[.string p2,.int .i64 o5,.int .u32 (p7:Int),.int .u32 (o7:Int),.bool p0,.int .i64 j6,.int .i64 j8,.slice p3 j2 k0,.int .i64 o6,.int .u32 (p8:Int),.int .u32 (o8:Int),.bool p1,.int .i64 j7,.int .i64 j9,.slice p4 j3 k1,.slice o4 j4 o3,.slice p6 j5 p5,.int .i64 o9] 50 (0,0)):=by rw [<-a3];exact new_at rfl
 obtain⟨s6,d5⟩:=zE d.heap.size;rw [d5] at f4;have i9:=Zh f4;have i5:=Zh a3;clear f4 a3;go_upto_region 5 with (refine Wt (by rfl) 50 (.tmp 20) rfl t2 (t8+c*18) zr _ _ i2.out Tryz.underlying50 rfl kz ?_)
 rw [i5.out];have u0:=Zh d5;clear d5;obtain⟨u3,u5,R,o1,l6⟩:=G.out;simp only [zV] at R;obtain⟨rfl,e7,rfl⟩:=R;have L:=Q1x (g8.out.ext t) (o1.ext t) l6 (r8.out c7 (U.out.trans t));rw [s0.out] at L;have M:=Q7a g9.out i7.out;have a4:=Q01 i1.out i8.out;have P:c<f.length:=by rw [c3.out];exact e2
 have a5:f[c]=b2:=by have:=i0.out;rw [List.getElem?_eq_getElem P] at this;exact Option.some.inj this
 have N:=R5 P ws;rw [T.out,Option.bind_some,a5] at N;have v:=c1.out;rw [List.drop_eq_getElem_cons P,a5] at v;have d7:trE b2 e≠0->Zf f ws=none:=fun m=>Q32 P T.out (by rw [a5];exact m);unfold J6 at v;obtain⟨g0,m8⟩:=zE (trE b2 e);rw [m8] at L M a4 N v d7;obtain⟨l,m9⟩:=zE (Ja b2 e);rw [m9] at L a4 N v;obtain⟨g3,b8,b7,b9,V,b6⟩:=Zh6 L M a4 N v d7;clear e7 L M a4 N v d7 a5 P m8 m9 o1 l6 G c1 T i0 i1 g9 i7 i8 g8 i2 i5
 go_wp2_with (refine wpList_load_row rfl 50 (.tmp 6) rfl s6 rfl _ _ _ _ i9.out Tryz.underlying50 rfl Tryz.lawInfo ?_)
 refine g3.out.mono ?_;rintro Y c8 ⟨v9,rfl,⟨b4,b3,rfl,e9,e8⟩,d4⟩;have J:Ext w0 c8:=U.out.trans (t.trans d4);have m0:=g7.out _ _ _ c2.out (t.trans d4);obtain⟨f8,y⟩:=zE l.length;rw [y] at e9 e8 ⊢;have n0:Qm c8 (.slice b4 f8 b3) l:=⟨b4,b3,by rw [y],by rw [y];exact e9,by rw [y];exact e8⟩;obtain⟨c4,o,F,r6⟩:=Zh4 n0 m0 J y;clear n0 m0 J y e9 e8 t d4 g3 i9 c2 U;by_cases k2:g0=0;case neg=>
  obtain rfl:g0=11:=b8.out.resolve_left k2;have j:=V.out;rw [if_neg zd] at j;have O:Hi f ws=some Dl:=by unfold Hi;rw [b6.out zd];rfl
  have c5:=Zh j;have c0:=Zh O;clear j O V b6 b9 b7 b8;go_wp2;refine⟨rfl,.inr ⟨Dl,c0.out,rfl,?_⟩⟩;rw [c5.out];exact o.out
 subst k2;have j:=V.out;rw [if_pos rfl,Mg] at j;have e0:=b9.out;rw [if_pos rfl] at e0;obtain⟨n6,n7⟩:=b7.out rfl;obtain⟨q0,s1,s2⟩:=Zh3 e0 n6 n7;have f5:E=(g++[(c,e)])++(c+1,l)::(J6 (f.drop (c+1)) l (c+1)).tail:=by rw [j,List.append_assoc];rfl
 have o2:E=(g++[(c,e)])++J6 (f.drop (c+1)) l (c+1):=by rw [f5,<-Mg]
 have j0:=Zh f5;have s4:=Zh o2;clear j e0 n6 n7 f5 o2 V b6 b9 b7 b8;obtain⟨t1,t9,s7,s8,f6,K⟩:=j1.out (g++[(c,e)]) (c+1,l) _ c8 #[.int .i64 ((c:Int)+1),.slice b4 f8 b3] j0.out o.out ⟨_,rfl,c4.out⟩;obtain⟨⟨so,sn,sc,I⟩,Q⟩:=g2.out _ _ o.out;obtain⟨H,S,W⟩:=Zh3 K I Q;clear K I Q;go_upto_region 8 with (fail)
 refine(wpIn_wide (n:=0)).1 ?_;gi_wp2;refine H.out.mono ?_;rintro Y u2 (⟨rfl,a0,a7⟩ | ⟨rfl,a0,a7⟩);case inr=>
  gi_wp2;go_wp2;refine bodyPost_ret (results_none rfl _ _ _) rfl ?_;exact .inl ⟨⟨_,rfl⟩,.inr ⟨g++[(c,e)],(c+1,l),_,j0.out,a0⟩⟩
 have k5:=i3.out _ F.out _ a7;have n4:=Rw c4.out a7 S.out W.out;obtain⟨r9,q4,q1⟩:=Zh3 n4 a0 k5;clear n4 a0 k5 a7 f6 H c4 o F;gi_wp2;go_wp2;exact⟨⟨c+1,g++[(c,e)],l,b4,f8,b3,tz,rfl,by omega,s4.out,q0.out,q4.out,r9.out,r6.out,s1.out,s2.out,q1.out⟩,mz⟩
theorem Q26(p:Addr)(a:List PanicEntry)(w:World)(x:Int)(b:w.cell? p=some (.int .i64 x)) (d:w.frozen? p=false) :
  CallsD Tryz.prog 144 #[.pointer (some p)] (.panicking ({ v:=.iface 193 (.int .i64 11),recovered:=false }::a)) w fun e u' w'=>
   e=.returned (.tuple #[])/\u'=.panicking ({ v:=.iface 193 (.int .i64 11),recovered:=true }::a)/\w'=w.setCell p (.int .i64 11):=by
 refine callsD_of_wpS Tryz.func144 rfl fun c₀ cs hu=>?_
 apply wpS_seq;apply wpS_region;simp [wpOpsS,go_sem,recoverD,hu,Tryz.ntmps144,Exit.thenS];refine wpS_of_wp ?_
 have c:∀(W:World),(Instr.typeAssert (.iface 193 (.int .i64 11)) 20 193 true).run Tryz.prog W=.ok (.tuple #[.int .i64 11,.bool true]) W:=fun W=>by
  simp [Instr.typeAssert,run_underlying Tryz.underlying193,go_sem,Result.andThen]
 go_wp2;simp [bodyPostS,results,Tryz.results144]
theorem Ec(p:Addr)(w:World) :
  CallsD Tryz.prog 144 #[.pointer (some p)] .returning w fun e u' w'=>e=.returned (.tuple #[])/\u'=.returning/\w'=w:=by
 refine callsD_of_wpS Tryz.func144 rfl fun c₀ cs hu=>?_
 apply wpS_seq;apply wpS_region;simp [wpOpsS,go_sem,recoverD,hu,Tryz.ntmps144,Exit.thenS];refine wpS_of_wp ?_;go_wp2;cases c₀
 simp_all [bodyPostS,results,Tryz.results144]
theorem Q2t(lo:Option Addr)(n lc:Nat)(vo:Option Addr)(vn vc:Nat)(w:World):Calls Tryz.prog 166 #[.slice lo n lc,.slice vo vn vc] w fun e w'=>
  e=.returned (.func (.func 175) #[] #[.pointer (some ⟨w.heap.size+1,0,none⟩),.pointer (some ⟨w.heap.size,0,none⟩)])/\w'=(w.alloc (.cells #[.slice lo n lc] 22)).alloc (.cells #[.slice vo vn vc] 23):=by
 have a:∀(fn:Fn) (first cap:Array Value) (w:World),(Instr.makeFunc fn first cap).run Tryz.prog w=.ok (.func fn first cap) w:=fun _ _ _ _=>rfl;go_enter Tryz.func166,Tryz.ntmps166;go_wp2;go_ret;exact⟨by simp,rfl⟩
theorem Fv{a:Func}{p:Tmp}{ty:TypeId}(h:a.results=#[.cell p ty]){tmps:Array Value}{w:World}{g:Nat}{ao:Option Addr}{n c:Nat}{t:TypeId}(j:tmps.getD p undef=.pointer (some ⟨g,0,none⟩)) (b:(Tryz.prog.underlying ty).map (fun d=>match d with | .slice _=>true | _=>false)=some true) (i:w.heap[g]?=some (.cells #[.slice ao n c] t (0,0))) :
  (results a tmps).run Tryz.prog w=.ok (.slice ao n c) w:=by
 have f:=cell_of_one i;have k:tmps[p]?.getD undef=.pointer (some ⟨g,0,none⟩):=by simpa using j
 cases hd:Tryz.prog.underlying ty with
 | none=>simp [hd] at b
 | some d=>
  cases d with
  | slice e=>simp [results,h,k,asAddr,loadVar,isAgg,run_underlying hd,go_sem,f]
  | _=>simp [hd] at b
theorem Gt{A B:World}{v:Value}{u:Wd}{D:Nat}{F:Option Addr}{E C:Nat}{t:TypeId}{fr:Nat × Nat}(h:Qm A v u)(f:Q0 (fun b=>b=D) A B) (r:A.heap[D]?=some (.cells #[.slice F E C] t fr)):Qm B v u:=by
 obtain⟨g,k,rfl,⟨⟨m,n,i,l,z,o⟩,p⟩,q⟩:=h;refine⟨g,k,rfl,⟨⟨m,n,i,l,z,fun hn=>?_⟩,p⟩,q⟩;obtain⟨d,c,w,x,e⟩:=o hn;have y:¬ d=D:=by
  rintro rfl;have a:=e 0 oz;rw [Nat.add_zero] at a;unfold World.cell? at a;simp only [r] at a;cases c with
  | zero=>
   rw [List.getD_eq_getElem?_getD] at a;cases u with
   | nil=>simp at hn
   | cons s u=>simp [Ql] at a
  | succ c=>simp at a
 exact⟨d,c,w,Nat.lt_of_lt_of_le x f.size,fun j hj=>f.cell_some (e j hj) y⟩
theorem M5{A B:World}{r:Nat}{v:Value}{u:Wd}(h:Qm A v u)(g:Q0 (fun b=>b=r) A B) (f:∃ o,A.heap[r]?=some o/\o.isCells=false):Qm B v u:=by
 obtain⟨c,d,rfl,a,e⟩:=h;exact⟨c,d,rfl,⟨Rd.nocells g f a.1,a.2⟩,e⟩
theorem Ed{w:World}{ps:Zw}{lo:Option Addr}{n lc:Nat}{vo:Option Addr}{vn vc:Nat}{ws:Wd}(b9:Z9 w (.slice lo n lc) ps) (c0:ps.length=n) (c1:∀ p∈ps,Yj p.1=true) (c7:Q4 w (.slice vo vn vc) ws) (c6:ws.length=vn) (c8:wE ws=0) (a9:Tab w) :
  Calls Tryz.prog 145 #[.slice lo n lc,.slice vo vn vc] w fun e w'=>(∃ u v,Zf (ps.map (·.1)) ws=some u/\e=.returned v/\Qm w' v u/\Ext w w')\/(Zf (ps.map (·.1)) ws=none/\e=.panicked Dl/\Ext w w'):=by
 have b6:=fun(l:World) (hE:Ext w l) (BL BW D:Nat) (I:w.heap.size<=D)=>Q1m (w0:=w) (w:=l) (BL:=BL) (BW:=BW) (D:=D) hE I b9 c0 c1 c7 c6 c8 a9;have H:=Zh b6;clear b6 b9 c0 c1 c7 c6 c8 a9;obtain⟨P,a8⟩:=zE (ps.map (·.1));rw [a8] at H ⊢;have R:=Mf P ws 0;obtain⟨c9,a6⟩:=zE (J6 P ws 0);rw [a6] at H R;obtain⟨T,U⟩:=zE (Zf P ws);have b5:Hi P ws=if T.isSome=true then none else some Dl:=by unfold Hi;rw [U]
 rw [b5] at H;rw [U] at R ⊢;have a2:=Zh R;clear a8 a6 U b5 R;refine Zr Tryz.func145 rfl ?_;simp only [Tryz.ntmps145,zS,Nat.reduceAdd,Nat.reduceSub];go_upto_region 1 with (fail)
 obtain⟨F,s⟩:=zE (w.alloc (.cells #[.slice none 0 0] 23));have a5:Ext w F:=by rw [<-s];exact(Q0.refl _ w).alloc _
 have Y:F.heap[w.heap.size]?=some (.cells #[.slice none 0 0] 23 (0,0)):=by rw [<-s];exact new_at rfl
 have C:F.heap.size=w.heap.size+1:=by rw [<-s];simp
 rw [s];obtain⟨D,I⟩:=zE w.heap.size;rw [I] at Y C ⊢;have B:=Zh I;clear s I;go_wp2_with fail;refine(Q2t lo n lc vo vn vc F).mono ?_;rintro e l ⟨rfl,z⟩;rw [C];have W:Ext F l:=by rw [z];exact((Q0.refl _ F).alloc _).alloc _
 have b1:l.heap[D+1]?=some (.cells #[.slice lo n lc] 22 (0,0)):=by rw [z];exact Q7 (new_at C.symm)
 have b2:l.heap[D+1+1]?=some (.cells #[.slice vo vn vc] 23 (0,0)):=by rw [z];exact new_at (by simp [C])
 have b3:=W.keep Y;have e1:l.heap.size=D+3:=by rw [z];simp [C]
 have X:=a5.trans W;have b7:=H.out l X (D+1) (D+1+1) D (by have:=B.out;omega) b1 b2 oz oz;obtain⟨a4,d0,d1⟩:=Zh3 b7 b3 X;clear z W b1 b2 b3 X b7 H a5 Y C;go_wp2_with fail
 refine Q3d (xs:=c9) rfl (enters_of Tryz.func175 kz rfl) a4.out (fun b d=>by omega) (fun _ a O G d=>by obtain⟨v,rfl,_⟩:=d;rfl) ?hEs
  (fun N c=>∃ j i g,c.heap[D]?=some (.cells #[.slice j i g] 23 (0,0))/\Ext w c/\(∀ A a,N=A++[a]->Qm c (.slice j i g) a.2))
  (fun _ _ _=>False) ?hC ?hI ?hIx ?h0 (fun G t=>(t.setIfInBounds 8 (G.getD 0 undef)).setIfInBounds 9 (G.getD 1 undef)) ?assign ?body ?pan ?done ?stop
 case hEs=>
  rintro _ a O a1 G ⟨v,rfl,a0⟩ S Z;exact⟨v,rfl,M5 a0 S Z⟩
 case hC=>
  rintro N O ⟨j,i,g,d,_⟩;exact⟨j,i,g,d⟩
 case hI=>
  rintro N O a1 ⟨j,i,g,f,k,x⟩ S Z;have r:Q0 (fun b=>b=l.heap.size+1) O a1:=S.mono fun b _ d=>d.elim (fun d=>d.2.elim) id;exact⟨j,i,g,r.heap f oz,Q0.after k r (fun b hb d=>by have:=B.out;omega),fun A a E=>M5 (x A a E) r Z⟩
 case hIx=>exact fun _ _ _ _ d=>d.elim
 case h0=>
  intro c b0 _;exact⟨none,0,0,b0.keep d0.out,d1.out.trans b0,fun A a E=>by have:=congrArg List.length E;simp at this⟩
 case assign=>
  rintro _ N a e2 G c e3 E ⟨j,i,g,f,k,x⟩ ⟨v,rfl,a0⟩ a7;obtain⟨m,o,rfl,c5⟩:=a0;have d6:=cell_of_one f;have d8:=free_of_one f;have q:Q0 (fun b=>b=D) c (c.setCell ⟨D,0,none⟩ (.slice m a.2.length o)):=Q0.set1 c D 0 _;have K:(c.setCell ⟨D,0,none⟩ (.slice m a.2.length o)).heap[D]?=some (.cells #[.slice m a.2.length o] 23 (0,0)):=by
   simp only [World.setCell,Array.getElem?_modify,f];simp
  have M:Qm (c.setCell ⟨D,0,none⟩ (.slice m a.2.length o)) (.slice m a.2.length o) a.2:=Gt ⟨m,o,rfl,c5⟩ q f
  have b8:=a7 _ q ⟨m,_,o,K,Q0.after k q (fun b hb d=>by have:=B.out;omega),fun A y hy=>by
   obtain⟨_,rfl⟩:=List.append_inj' hy rfl |>.imp id (fun d=>(List.cons.inj d).1);exact M⟩
  have d3:=Zh b8;clear b8 a7 q K M k x c5 E;gi_wp2;exact d3.out
 case body=>
  rintro N a e2 G c E c4 S d9;refine wpIn_block ?_;gi_wp2;exact⟨Q0.refl _ _,d9⟩
 case pan=>
  rintro d7 c J ⟨j,i,g,f,k,x⟩ Q c4;have L:Qz D ({ target:=.collected l.heap.size,args:=#[] }::[]) c:=Qz.cons (base:=D) trivial oz Q (fun e he=>by cases he);cases T with
  | some u=>simp at J
  | none=>
   obtain rfl:Dl=d7:=by simpa using J
   refine N6 L (fun w' r hs=>.inr ⟨rfl,rfl,?_⟩);exact Q0.after k r (fun b f k=>by have:=k.1;have:=B.out;omega)
 case done=>
  rintro J c ⟨j,i,g,f,k,x⟩ Q c4;cases T with
  | none=>simp at J
  | some u=>
   obtain⟨A,c3⟩:=a2.out u rfl;have M:=x A _ c3;have d6:=cell_of_one f;have d8:=free_of_one f;have q:Q0 (fun b=>b=D) c (c.setCell ⟨D,0,none⟩ (.slice j i g)):=Q0.set1 c D 0 _;have K:(c.setCell ⟨D,0,none⟩ (.slice j i g)).heap[D]?=some (.cells #[.slice j i g] 23 (0,0)):=by
    simp only [World.setCell,Array.getElem?_modify,f];simp
   have c2:=Gt M q f;have b4:=Q0.after k q (fun b hb d=>by have:=B.out;omega);have L:Qz D ({ target:=.collected l.heap.size,args:=#[] }::[]) (c.setCell ⟨D,0,none⟩ (.slice j i g)):=Qz.cons (base:=D) trivial oz (q.heap Q oz) (fun e he=>by cases he);rw [e1] at L;obtain⟨a3,d5,d2,d4⟩:=Zh4 K c2 b4 L;clear K M c2 b4 L q f k x c3 J Q a2 a4;go_wp2;refine J8 (v:=.slice j i g) _ _ d4.out fun w' r hs=>⟨Fv rfl rfl kz (r.heap a3.out (Shut.not a3.out rfl)),⟨_,rfl,?_,?_⟩⟩
   ·obtain⟨m,o,e0,s,z⟩:=d5.out;exact⟨m,o,e0,⟨Rd.shut r s.1,s.2⟩,z⟩
   ·exact Q0.after d2.out r (fun b f k=>by have:=k.1;have:=B.out;omega)
 case stop=>exact fun _ _ _ _ _ _ d=>d.elim
theorem Q5r{w:World}{p:Option Wd}{E BL BW a:Nat}{lo:Option Addr}{n lc:Nat}{vo:Option Addr}{vn vc:Nat}{O:Option Addr}{N M:Nat}(A:w.heap[E]?=some (.cells #[.int .i64 0] 32 (0,0))) (C:w.heap[BL]?=some (.cells #[.slice lo n lc] 22 (0,0))) (G:w.heap[BW]?=some (.cells #[.slice vo vn vc] 23 (0,0))) (D:w.heap[a]?=some (.cells #[.slice O N M] 23 (0,0))) (I:E≠a)
  (H:Calls Tryz.prog 145 #[.slice lo n lc,.slice vo vn vc] w fun e w'=>(∃ u v,p=some u/\e=.returned v/\Qm w' v u/\Ext w w')\/(p=none/\e=.panicked Dl/\Ext w w')) :
  Calls Tryz.prog 143 #[.pointer (some ⟨E,0,none⟩),.pointer (some ⟨BL,0,none⟩),.pointer (some ⟨BW,0,none⟩),.pointer (some ⟨a,0,none⟩)] w fun e w'=>e=.returned (.tuple #[])/\Q0 (fun b=>b=E\/b=a) w w' /\
   ∃ so' sn' sc',w'.heap[a]?=some (.cells #[.slice so' sn' sc'] 23 (0,0))/\((∃ u,p=some u/\Qm w' (.slice so' sn' sc') u/\w'.heap[E]?=some (.cells #[.int .i64 0] 32 (0,0)))\/(p=none/\w'.heap[E]?=some (.cells #[.int .i64 11] 32 (0,0)))):=by
 have y:=cell_of_one C;have z:=cell_of_one G;obtain⟨q,r,s⟩:=Zh3 A D H;clear A C G D H
 go_enter_defers Tryz.func143,Tryz.ntmps143
 go_wp2_with fail;refine s.out.mono ?_;rintro e c (⟨u,v,rfl,rfl,U,d⟩ | ⟨rfl,rfl,d⟩)
 ·obtain⟨k,l,rfl,K,L⟩:=U;have g:=d.keep r.out;have j:=d.keep q.out;have X:=cell_of_one g;have Y:=free_of_one g;have i:Q0 (fun b=>b=a) c (c.setCell ⟨a,0,none⟩ (.slice k u.length l)):=Q0.set1 c a 0 _;have o:(c.setCell ⟨a,0,none⟩ (.slice k u.length l)).heap[a]?=some (.cells #[.slice k u.length l] 23 (0,0)):=by
   simp only [World.setCell,Array.getElem?_modify,g];simp
  have J:=Gt ⟨k,l,rfl,K,L⟩ i g;have B:=i.heap j I;have m:Q0 (fun b=>b=E\/b=a) w (c.setCell ⟨a,0,none⟩ (.slice k u.length l)):=(Ext.of d).trans (i.mono fun b _ h=>.inr h);obtain⟨t,R,P,x⟩:=Zh4 o J B m;clear o J B m i g j K L d s y z q r;go_wp2;refine leaves_cons (f:=144) (args:=#[.pointer (some ⟨E,0,none⟩)]) zy (by simp [go_sem]) ?_;refine(Ec _ _).mono ?_;rintro e V W ⟨rfl,rfl,rfl⟩;refine⟨.tuple #[],results_none rfl _ _ _,rfl,x.out,k,_,l,t.out,.inl ⟨u,rfl,R.out,P.out⟩⟩
 ·have g:=d.keep r.out;have j:=d.keep q.out;have S:=cell_of_one j;have T:=free_of_one j;have i:Q0 (fun b=>b=E) c (c.setCell ⟨E,0,none⟩ (.int .i64 11)):=Q0.set1 c E 0 _;have o:(c.setCell ⟨E,0,none⟩ (.int .i64 11)).heap[E]?=some (.cells #[.int .i64 11] 32 (0,0)):=by
   simp only [World.setCell,Array.getElem?_modify,j];simp
  have F:=i.heap g (fun h=>I h.symm);have m:Q0 (fun b=>b=E\/b=a) w (c.setCell ⟨E,0,none⟩ (.int .i64 11)):=(Ext.of d).trans (i.mono fun b _ h=>.inl h);obtain⟨t,Q,x⟩:=Zh3 o F m;clear o F m i g j d s y z q r;go_wp2;refine leaves_cons (f:=144) (args:=#[.pointer (some ⟨E,0,none⟩)]) zy (by simp [go_sem]) ?_;refine(Q26 _ [] _ 0 S T).mono ?_;rintro e V W ⟨rfl,rfl,rfl⟩;simp [Leaves,settle,results,Tryz.results143,go_sem];exact⟨x.out,⟨O,N,M,Q.out⟩,t.out⟩
theorem Me{a:Func}{p q:Tmp}{ty:TypeId}(h:a.results=#[.cell p ty,.tmp q]){tmps:Array Value}{w:World}{g:Nat}{ao:Option Addr}{n c:Nat}{t:TypeId}{x:Value}(j:tmps.getD p undef=.pointer (some ⟨g,0,none⟩)) (l:tmps.getD q undef=x) (b:(Tryz.prog.underlying ty).map (fun d=>match d with | .slice _=>true | _=>false)=some true) (i:w.heap[g]?=some (.cells #[.slice ao n c] t (0,0))) :
  (results a tmps).run Tryz.prog w=.ok (.tuple #[.slice ao n c,x]) w:=by
 have f:=cell_of_one i;have k:tmps[p]?.getD undef=.pointer (some ⟨g,0,none⟩):=by simpa using j
 have m:tmps[q]?.getD undef=x:=by simpa using l
 cases hd:Tryz.prog.underlying ty with
 | none=>simp [hd] at b
 | some d=>
  cases d with
  | slice e=>simp [results,h,k,m,asAddr,loadVar,isAgg,run_underlying hd,go_sem,f]
  | _=>simp [hd] at b
theorem Ej{w:World}{ps:Zw}{lo:Option Addr}{n lc:Nat}{vo:Option Addr}{vn vc:Nat}{ws:Wd}(b0:Z9 w (.slice lo n lc) ps) (b1:ps.length=n) (b2:∀ p∈ps,Yj p.1=true) (b6:Q4 w (.slice vo vn vc) ws) (b5:ws.length=vn) (b7:wE ws=0) (a7:Tab w) :
  Calls Tryz.prog 107 #[.slice lo n lc,.slice vo vn vc] w fun e w'=>∃ ao an c,e=.returned (.tuple #[.slice ao an c,.bool (Zf (ps.map (·.1)) ws).isSome])/\(∀ u,Zf (ps.map (·.1)) ws=some u->Qm w' (.slice ao an c) u)/\Ext w w':=by
 have b4:=fun(V:World) (hE:Ext w V)=>Ed (b0.ext hE) b1 b2 (b6.ext hE) b5 b7 (a7.keep hE id);have N:=Zh b4;clear b4 b0 b1 b2 b6 b5 b7 a7;obtain⟨c1,a3⟩:=zE (Zf (ps.map (·.1)) ws);rw [a3] at N ⊢;clear a3;have c2:∀(fn:Fn) (first cap:Array Value) (w:World),(Instr.makeFunc fn first cap).run Tryz.prog w=.ok (.func fn first cap) w:=fun _ _ _ _=>rfl;go_enter Tryz.func107,Tryz.ntmps107;go_upto_region 2 with (fail)
 obtain⟨C,A⟩:=zE ((((w.alloc (.cells #[.slice lo n lc] 22)).alloc (.cells #[.slice vo vn vc] 23)).alloc (.cells #[.slice none 0 0] 23)).alloc (.cells #[.int .i64 0] 32));have a4:Ext w C:=by rw [<-A];exact((((Q0.refl _ w).alloc _).alloc _).alloc _).alloc _
 have O:C.heap[w.heap.size]?=some (.cells #[.slice lo n lc] 22 (0,0)):=by rw [<-A];exact Q7 (Q7 (Q7 (new_at rfl)))
 have P:C.heap[w.heap.size+1]?=some (.cells #[.slice vo vn vc] 23 (0,0)):=by rw [<-A];exact Q7 (Q7 (new_at zy))
 have y:C.heap[w.heap.size+1+1]?=some (.cells #[.slice none 0 0] 23 (0,0)):=by rw [<-A];exact Q7 (new_at zy)
 have Q:C.heap[w.heap.size+1+1+1]?=some (.cells #[.int .i64 0] 32 (0,0)):=by rw [<-A];exact new_at zy
 rw [A];obtain⟨f,R⟩:=zE w.heap.size;rw [R] at O P y Q ⊢;obtain⟨I,W,X,Y,Z,L⟩:=Zh6 R O P y Q a4;clear A R O P y Q a4;go_wp2_with fail;refine(Q5r Z.out W.out X.out Y.out oz (N.out C L.out)).mono ?_;rintro e B ⟨rfl,a8,m,l,k,a6,a9⟩;have a5:Ext w B:=Q0.after L.out a8 (fun b hb E=>by have:=I.out;rcases E with E | E <;> omega);obtain⟨a0,a1,J⟩:=Zh3 a5 a6 a9;clear a8 a5 a6 a9 N W X Y Z L;rcases J.out with ⟨u,T,b3,U⟩ | ⟨T,U⟩
 ·subst T;have b8:=Zh b3;clear b3 J;have M:=Zh U;go_upto_region 3 with (fail)
  obtain⟨j,r⟩:=zE B.drew;have q:Ext B j:=by rw [<-r];exact(Q0.refl _ B).drew
  have g:j.heap[f+1+1]?=some (.cells #[.slice m l k] 23 (0,0))/\j.heap[f+1+1+1]?=some (.cells #[.int .i64 0] 32 (0,0)):=⟨q.keep a1.out,q.keep M.out⟩;refine Zo (S:=fun D=>D.heap[f+1+1]?=some (.cells #[.slice m l k] 23 (0,0))/\D.heap[f+1+1+1]?=some (.cells #[.int .i64 0] 32 (0,0))) [] kz (by rw [r];exact g) ?_;intro _;rw [r];clear r;refine tkE (i:=0) (d:=9) (v:=?_) rfl (Or.inl ⟨by rfl,?_⟩) g ?_;rotate_left
  ·intro w a;(try dsimp only at a);have o:=cell_of_one a.1;have t:=cell_of_one a.2;go_simp;try with_reducible rfl
  try simp only [Act.put,pq]
  refine tkE (i:=1) (d:=10) (v:=?_) rfl (Or.inl ⟨by rfl,?_⟩) g ?_;rotate_left
  ·intro w a;(try dsimp only at a);have o:=cell_of_one a.1;have t:=cell_of_one a.2;go_simp;try with_reducible rfl
  try simp only [Act.put,pq]
  refine tkE (i:=2) (d:=11) (v:=?_) rfl (Or.inl ⟨by rfl,?_⟩) g ?_;rotate_left
  ·intro w a;(try dsimp only at a);have o:=cell_of_one a.1;have t:=cell_of_one a.2;go_simp;try with_reducible rfl
  try simp only [Act.put,pq]
  have o:=cell_of_one g.1;have b9:=free_of_one g.1;have z:Q0 (fun b=>b=f+1+1) j (j.setCell ⟨f+1+1,0,none⟩ (.slice m l k)):=Q0.set1 j (f+1+1) 0 _;have F:(j.setCell ⟨f+1+1,0,none⟩ (.slice m l k)).heap[f+1+1]?=some (.cells #[.slice m l k] 23 (0,0))/\(j.setCell ⟨f+1+1,0,none⟩ (.slice m l k)).heap[f+1+1+1]?=some (.cells #[.int .i64 0] 32 (0,0)):=⟨by simp only [World.setCell,Array.getElem?_modify,g.1];simp,z.heap g.2 oz⟩;obtain⟨s,H,G,a2⟩:=Zh4 F z q g;clear F z q g;refine rE [3] ?_;refine Q1.cons rfl (fun K hK=>?_) Q1.nil;refine iw rfl ?_;go_simp;refine hK.out _ _ s.out (fun _=>?_);clear hK K
  (try simp only [Act.put,pq])
  refine tkE (i:=4) (d:=5) (v:=?_) rfl (Or.inl ⟨by rfl,?_⟩) s.out ?_;rotate_left
  ·intro w a;(try dsimp only at a);have o:=cell_of_one a.1;have t:=cell_of_one a.2;go_simp;try with_reducible rfl
  try simp only [Act.put,pq]
  refine Qp kz ?_ _;go_wp2;have c0:=Gt ((b8.out).ext G.out) H.out a2.out.1;refine bodyPost_ret (Me rfl rfl rfl kz s.out.1) rfl ⟨m,l,k,rfl,fun u2 y=>?_,?_⟩
  ·cases y;exact c0
  ·exact Q0.after (a0.out.trans G.out) H.out (fun b hb E=>by have:=I.out;omega)
 ·subst T;clear J;have M:=Zh U;go_upto_region 3 with (fail)
  obtain⟨j,r⟩:=zE B.drew;have q:Ext B j:=by rw [<-r];exact(Q0.refl _ B).drew
  have g:j.heap[f+1+1]?=some (.cells #[.slice m l k] 23 (0,0))/\j.heap[f+1+1+1]?=some (.cells #[.int .i64 11] 32 (0,0)):=⟨q.keep a1.out,q.keep M.out⟩;refine Zo (S:=fun D=>D.heap[f+1+1]?=some (.cells #[.slice m l k] 23 (0,0))/\D.heap[f+1+1+1]?=some (.cells #[.int .i64 11] 32 (0,0))) [] kz (by rw [r];exact g) ?_;intro _;rw [r];clear r;refine tkE (i:=0) (d:=9) (v:=?_) rfl (Or.inl ⟨by rfl,?_⟩) g ?_;rotate_left
  ·intro w a;(try dsimp only at a);have o:=cell_of_one a.1;have t:=cell_of_one a.2;go_simp;try with_reducible rfl
  try simp only [Act.put,pq]
  refine tkE (i:=1) (d:=10) (v:=?_) rfl (Or.inl ⟨by rfl,?_⟩) g ?_;rotate_left
  ·intro w a;(try dsimp only at a);have o:=cell_of_one a.1;have t:=cell_of_one a.2;go_simp;try with_reducible rfl
  try simp only [Act.put,pq]
  refine tkE (i:=2) (d:=11) (v:=?_) rfl (Or.inl ⟨by rfl,?_⟩) g ?_;rotate_left
  ·intro w a;(try dsimp only at a);have o:=cell_of_one a.1;have t:=cell_of_one a.2;go_simp;try with_reducible rfl
  try simp only [Act.put,pq]
  have o:=cell_of_one g.1;have b9:=free_of_one g.1;have z:Q0 (fun b=>b=f+1+1) j (j.setCell ⟨f+1+1,0,none⟩ (.slice m l k)):=Q0.set1 j (f+1+1) 0 _;have F:(j.setCell ⟨f+1+1,0,none⟩ (.slice m l k)).heap[f+1+1]?=some (.cells #[.slice m l k] 23 (0,0))/\(j.setCell ⟨f+1+1,0,none⟩ (.slice m l k)).heap[f+1+1+1]?=some (.cells #[.int .i64 11] 32 (0,0)):=⟨by simp only [World.setCell,Array.getElem?_modify,g.1];simp,z.heap g.2 oz⟩;obtain⟨s,H,G,a2⟩:=Zh4 F z q g;clear F z q g;refine rE [3] ?_;refine Q1.cons rfl (fun K hK=>?_) Q1.nil;refine iw rfl ?_;go_simp;refine hK.out _ _ s.out (fun _=>?_);clear hK K
  (try simp only [Act.put,pq])
  refine tkE (i:=4) (d:=5) (v:=?_) rfl (Or.inl ⟨by rfl,?_⟩) s.out ?_;rotate_left
  ·intro w a;(try dsimp only at a);have o:=cell_of_one a.1;have t:=cell_of_one a.2;go_simp;try with_reducible rfl
  try simp only [Act.put,pq]
  refine Qp kz ?_ _;go_wp2;refine bodyPost_ret (Me rfl rfl rfl kz s.out.1) rfl ⟨m,l,k,rfl,fun u2 y=>(by cases y),?_⟩;exact Q0.after (a0.out.trans G.out) H.out (fun b hb E=>by have:=I.out;omega)
theorem Q14{w:World}{ps:Zw}{lo:Option Addr}{n lc:Nat}{vo:Option Addr}{vn vc:Nat}{ws:Wd}{g:Nat}(H:Z9 w (.slice lo n lc) ps) (I:ps.length=n) (M:Q4 w (.slice vo vn vc) ws) (E:w.heap[g]?=some (.cells #[.slice vo vn vc] 23 (0,0))) (D:Tab w) :
  Calls Tryz.prog 106 #[.slice lo n lc,.slice (some ⟨g,0,none⟩) 1 1] w fun e w'=>e=.returned (.int .i64 (Zz (ps.map (·.1)) ws))/\Ext w w':=by
 have v:=fun(V:World) (b:Ext w V)=>Gs (H.ext b) I (D.keep b id);have z:=fun(V:World) (b:Ext w V)=>Ve (M.ext b);unfold Zz;obtain⟨c,s⟩:=zE (Zd (ps.map (·.1)));obtain⟨d,t⟩:=zE (wE ws);simp only [s] at v;simp only [t] at z;rw [s,t];obtain⟨l,m⟩:=zE (if c=0 then d else c);have J:c≠0->l=c:=fun h=>by rw [<-m,if_neg h]
 have K:c=0->l=d:=fun h=>by rw [<-m,if_pos h]
 rw [m];have N:=Zh J;have O:=Zh K;clear m J K;obtain⟨o,k,j⟩:=Zh3 v z E;clear v z s t H I M E D;go_enter Tryz.func106,Tryz.ntmps106;go_wp2_with fail;refine(o.out _ (Q0.refl _ _)).mono ?_;rintro e Y ⟨rfl,r⟩;by_cases q:c=0;case neg=>
  have Q:(c != 0)=true:=by rw [bne_iff_ne];exact q
  have y:c=l:=(N.out q).symm;subst y;clear o k j;go_wp2;go_ret;exact⟨rfl,r⟩
 subst q;have y:d=l:=(O.out uz).symm;subst y;have i:=Zh r;clear r o;go_wp2
 refine wp_loop (fun a A=>∃(f:Nat),f<=1/\a.defers=[]/\gS a [17,18,19]=(29,[.slice (some ⟨g,0,none⟩) 1 1,.int .i64 1,.int .i64 f])/\(f=1->d=0)/\Ext w A)
  (fun a _=>(1 - intOf (a.tmps.getD 19 undef)).toNat) ?_ ?_
 ·exact⟨0,by omega,rfl,rfl,fun h=>by omega,i.out⟩
 clear i;rintro⟨W,_⟩ A ⟨f,U,R,L,u,b⟩;subst R;obtain⟨X,rfl⟩:=Qt L;clear L;by_cases G:f=0;case neg=>
  obtain rfl:f=1:=by omega
  have S:=u rfl;subst S;clear u k j G;go_wp2;go_ret;exact⟨rfl,b⟩
 subst G;clear u;have F:=b.keep j.out;have P:=cell_of_one F;have p:=Zh b;clear b F;go_wp2_with fail;refine(k.out _ p.out).mono ?_;rintro e T ⟨rfl,C⟩;have i:=Zh (p.out.trans C);clear C p P k j;by_cases B:d=0;case neg=>
  have Q:(d != 0)=true:=by rw [bne_iff_ne];exact B
  go_wp2;go_ret;exact⟨rfl,i.out⟩
 subst B;go_wp2;exact⟨⟨1,by omega,tz,rfl,fun _=>by first | trivial | rfl,i.out⟩,by simp [intOf]⟩
theorem Tg(W:World):Qm W (.slice none 0 0) []:=⟨none,0,rfl,⟨⟨rfl,by simp [maxLen],none,0,rfl,fun h=>by simp at h⟩,by simp [Qw]⟩,Nat.le_refl _⟩
theorem Gk{w:World}{ps:Zw}{lo:Option Addr}{n lc:Nat}{vo:Option Addr}{vn vc:Nat}{ws:Wd}(A:Z9 w (.slice lo n lc) ps) (B:ps.length=n) (C:Q4 w (.slice vo vn vc) ws) (P:ws.length=vn) (y:Tab w) :
  Calls Tryz.prog 62 #[.slice lo n lc,.slice vo vn vc] w fun e w'=>∃ v,e=.returned (.tuple #[v,.int .i64 (Jl (ps.map (·.1)) ws)])/\Qm w' v (Xf (ps.map (·.1)) ws)/\Ext w w':=by
 have z:=fun(V:World) (hE:Ext w V) (g:Nat) (hg:V.heap[g]?=some (.cells #[.slice vo vn vc] 23 (0,0)))=>Q14 (A.ext hE) B (C.ext hE) hg (y.keep hE id);have c:=fun(V:World) (hE:Ext w V) (hok:∀ p∈ps,Yj p.1=true) (hwE:wE ws=0)=>Ej (A.ext hE) B hok (C.ext hE) P hwE (y.keep hE id)
 have D:Zz (ps.map (·.1)) ws=0->(∀ p∈ps,Yj p.1=true)/\wE ws=0:=fun h=>by
  unfold Zz at h
  split at h
  ·rename_i b
   unfold Zd at b
   split at b
   ·cases b
   ·split at b
    ·rename_i J
     rw [List.all_map,List.all_eq_true] at J;exact⟨J,h⟩
    ·cases b
  ·contradiction
 have i:=@Te (ps.map (·.1)) ws;have d:=@Lh (ps.map (·.1)) ws;have f:=fun v=>@Li (ps.map (·.1)) ws v;obtain⟨F,a⟩:=zE (Zz (ps.map (·.1)) ws);simp only [a] at z D i d f;clear a;obtain⟨S,a⟩:=zE (Zf (ps.map (·.1)) ws);simp only [a] at c d f;clear a;obtain⟨W,a⟩:=zE (Jl (ps.map (·.1)) ws);simp only [a] at i d f ⊢;clear a;obtain⟨X,a⟩:=zE (Xf (ps.map (·.1)) ws);simp only [a] at i d f ⊢;clear a;obtain⟨H,o,s,q,k,l⟩:=Zh6 z c D i d f;clear z c D i d f A B C P y;go_enter Tryz.func62,Tryz.ntmps62;go_wp2_with fail;obtain⟨E,m⟩:=zE (w.alloc (.cells #[.slice vo vn vc] 23));have t:Ext w E:=by rw [<-m];exact(Q0.refl _ w).alloc _
 have M:E.heap[w.heap.size]?=some (.cells #[.slice vo vn vc] 23 (0,0)):=by rw [<-m];exact new_at rfl
 rw [m];refine(H.out E t w.heap.size M).mono ?_;rintro e U ⟨rfl,K⟩;have j:=Zh (t.trans K);clear m M t K H;by_cases b:F=0;case neg=>
  have a1:(F != 0)=true:=by rw [bne_iff_ne];exact b
  obtain⟨rfl,rfl⟩:=q.out b;clear o s q k l;go_wp2;go_ret2;exact⟨_,rfl,Tg _,j.out⟩
 subst b;obtain⟨Q,R⟩:=s.out uz;have c:=o.out U j.out Q R;have G:=Zh c;clear c Q R o s q;go_wp2_with fail;refine G.out.mono ?_;rintro e a2 ⟨Z,Y,a0,rfl,N,L⟩;have I:=Zh (j.out.trans L);have r:=Zh N;clear L N G j;cases S with
 | none=>
  obtain⟨rfl,rfl⟩:=k.out uz rfl;clear k l r;go_wp2;go_ret2;exact⟨_,rfl,Tg _,I.out⟩
 | some u=>
  obtain⟨rfl,rfl⟩:=l.out u uz rfl;have O:=r.out _ rfl;have T:=Zh O;clear k l r O;go_wp2;go_ret2;exact⟨_,rfl,T.out,I.out⟩
theorem Pv(a b:Wd)(s:Nat × Nat):(Z0 a b s).length=a.length+1+b.length:=by simp [Z0];omega
theorem Gz{a b:Wd}{s:Nat × Nat}(e:Qw a)(f:Qw b)(g:Qe s):Qw (Z0 a b s):=by
 intro d c;unfold Z0 at c;rcases List.mem_append.1 c with c | c
 ·rcases List.mem_append.1 c with c | c
  ·exact e d c
  ·rw [List.mem_singleton] at c;subst c;exact g
 ·exact f d c
theorem Q2d{w:World}{f g:Value}{a b:Wd}{s:Nat × Nat}{P Q:Nat}{T:TypeId}(q:Q4 w f a)(r:Q4 w g b)(y:Qe s)(c:w.heap[P]?=some (.cells #[.int .u32 s.1,.int .u32 s.2] 26 (0,0)))
  (l:w.heap[Q]?=some (.cells #[f,.slice (some ⟨P,0,none⟩) 1 1,g] T (0,0))) (v:a.length+1+b.length<=1000) :
  Calls Tryz.prog 49 #[.slice (some ⟨Q,0,none⟩) 3 3] w fun e w'=>∃ uo uc,e=.returned (.slice uo (Z0 a b s).length uc)/\w'.ownsRow w.heap.size 26 2 (.slice uo (Z0 a b s).length uc) (Z0 a b s).length (Ql (Z0 a b s))/\Ext w w':=by
 have n:P<w.heap.size:=(Array.getElem?_eq_some_iff.1 c).1;have o:Q<w.heap.size:=(Array.getElem?_eq_some_iff.1 l).1;have p:Q4 w (.slice (some ⟨P,0,none⟩) 1 1) [s]:=by
  refine⟨⟨by simp [Kc],by unfold maxLen;simp,some ⟨P,0,none⟩,1,rfl,fun _=>⟨P,0,rfl,n,fun j hj=>?_⟩⟩,fun x hx=>by rw [List.mem_singleton] at hx;subst hx;exact y⟩;have d:j=0\/j=1:=by simp at hj;omega
  rcases d with rfl | rfl
  ·rw [cell_of_row w P _ _ _ _ c];rfl
  ·rw [cell_of_row w P _ _ _ _ c];rfl
 have t:=Dg (w:=w) (ao:=some ⟨Q,0,none⟩) (cap:=3) (us:=[a,[s],b]) (vs:=[f,.slice (some ⟨P,0,none⟩) 1 1,g]) (F:=Z0 a b s) (by simp [Z0]) ⟨rfl,by unfold maxLen;simp,some ⟨Q,0,none⟩,3,rfl,fun _=>⟨Q,0,rfl,o,fun j hj=>by
   have d:j=0\/j=1\/j=2:=by simp at hj;omega
   rcases d with rfl | rfl | rfl <;> (rw [cell_of_row w Q _ _ _ _ l];rfl)⟩⟩ (fun i hi=>by
   have u:i=0\/i=1\/i=2:=by simp at hi;omega
   rcases u with rfl | rfl | rfl
   ·exact q
   ·exact p
   ·exact r) (by rw [Pv];exact v)
 refine t.mono ?_;rintro e w' ⟨z,rfl,k,m⟩;obtain⟨uo,uc,rfl⟩:=Qk k;exact⟨uo,uc,rfl,k,m⟩
theorem Gj{w:World}{I J:Value}{a b:Wd}{s:Nat × Nat}(f:Q4 w I a)(g:Q4 w J b)(m:Qe s)(l:a.length+1+b.length<=1000) :
  Calls Tryz.prog 63 #[I,J,sV s] w fun e w'=>∃ uo uc,e=.returned (.slice uo (Z0 a b s).length uc)/\Qm w' (.slice uo (Z0 a b s).length uc) (Z0 a b s)/\Ext w w':=by
 obtain⟨u,t,rfl,M⟩:=f.slice;obtain⟨x,v,rfl,N⟩:=g.slice;obtain⟨d,E⟩:=zE a.length;obtain⟨H,D⟩:=zE b.length;rw [E] at f M l ⊢;rw [D] at g N l ⊢;have G:=Gz f.2 g.2 m;obtain⟨c,B⟩:=zE w.heap.size;obtain⟨n,o⟩:=s;obtain⟨j,i⟩:=zE (((w.alloc (.cells #[.int .u32 n,.int .u32 o] 26)).alloc (.cells #[.int .u32 n,.int .u32 o] 26)).alloc (.cells #[.slice u d t,.slice (some ⟨c+1,0,none⟩) 1 1,.slice x H v] 23));have k:Ext w j:=by rw [<-i];exact(((Q0.refl _ w).alloc _).alloc _).alloc _
 have y:j.heap[c+1]?=some (.cells #[.int .u32 n,.int .u32 o] 26 (0,0)):=by rw [<-i];exact Q7 (new_at (by simp [B]))
 have z:j.heap[c+2]?=some (.cells #[.slice u d t,.slice (some ⟨c+1,0,none⟩) 1 1,.slice x H v] 23 (0,0)):=by rw [<-i];exact new_at (by simp [B])
 have C:=Q2d (f.ext k) (g.ext k) m y z (by rw [E,D];exact l);obtain⟨p,q,r⟩:=Zh3 C k G;clear C y z f g m G k;unfold sV;go_enter Tryz.func63,Tryz.ntmps63;go_wp2_with fail;try rw [i]
 refine p.out.mono ?_;rintro e O ⟨uo,uc,rfl,F,A⟩;have L:=Zh (Qm.own F r.out);have K:=Zh (q.out.trans A);clear p q r F A i;go_wp2;go_ret;exact⟨_,_,rfl,L.out,K.out⟩
theorem Du{w:World}{ps:Zw}{lo:Option Addr}{n lc:Nat}{L M:Value}{a b:Wd}(H:Z9 w (.slice lo n lc) ps) (I:ps.length=n) (p:Q4 w L a) (q:Q4 w M b) (G:Tab w) :
  Calls Tryz.prog 60 #[.slice lo n lc,L,M] w fun e w'=>e=.returned (.int .i64 (Za (ps.map (·.1)) a b))/\Ext w w':=by
 obtain⟨X,W,rfl,R⟩:=p.slice;obtain⟨Z,Y,rfl,S⟩:=q.slice;have o:=Gs H I G;have c:=fun(V:World) (hE:Ext w V)=>Ve (p.ext hE);have l:=fun(V:World) (hE:Ext w V)=>Ve (q.ext hE);obtain⟨a0,J⟩:=zE a.length;obtain⟨a1,K⟩:=zE b.length;rw [J] at c ⊢;rw [K] at l ⊢;have m:Zd (ps.map (·.1))≠0->Za (ps.map (·.1)) a b=Zd (ps.map (·.1)):=fun h=>by unfold Za;rw [if_neg h]
 have i:Zd (ps.map (·.1))=0->wE a≠0->Za (ps.map (·.1)) a b=wE a:=fun h c=>by unfold Za;rw [if_pos h,if_neg c]
 have f:Zd (ps.map (·.1))=0->wE a=0->Za (ps.map (·.1)) a b=wE b:=fun h c=>by unfold Za;rw [if_pos h,if_pos c]
 obtain⟨x,F⟩:=zE (Za (ps.map (·.1)) a b);obtain⟨r,y⟩:=zE (Zd (ps.map (·.1)));obtain⟨s,z⟩:=zE (wE a);obtain⟨U,A⟩:=zE (wE b);rw [F] at m i f ⊢;rw [y] at o m i f;rw [z] at c i f;rw [A] at l f;obtain⟨t,u,v,O,P,Q⟩:=Zh6 o c l m i f;clear o c l y z A H I p q G R S J K m i f F;go_enter Tryz.func60,Tryz.ntmps60;go_wp2_with fail;refine t.out.mono ?_;rintro e a2 ⟨rfl,B⟩;have j:=Zh B;clear t B;by_cases d:r=0;case neg=>
  have T:(r != 0)=true:=by simpa using d
  have g:=O.out d;subst g;go_wp2;go_ret;exact⟨rfl,j.out⟩
 subst d;go_wp2_with fail;refine(u.out _ j.out).mono ?_;rintro e a3 ⟨rfl,C⟩;have k:=Zh (j.out.trans C);clear u C j;by_cases d:s=0;case neg=>
  have T:(s != 0)=true:=by simpa using d
  have g:=P.out uz d;subst g;go_wp2;go_ret;exact⟨rfl,k.out⟩
 subst d;have g:=Q.out uz uz;subst g;go_wp2_with fail;refine(v.out _ k.out).mono ?_;rintro e a4 ⟨rfl,D⟩;have N:=Zh (k.out.trans D);clear v D k;go_wp2;go_ret;exact⟨rfl,N.out⟩
theorem W3{ls:List Q5}{a b:Wd}(h:Za ls a b=0):Zd ls=0/\wE a=0/\wE b=0:=by
 unfold Za at h
 split at h
 ·rename_i c
  split at h
  ·rename_i d;exact⟨c,d,h⟩
  ·rename_i d;exact absurd h d
 ·rename_i c;exact absurd h c
theorem Sf{w:World}{ps:Zw}{lo:Option Addr}{n lc:Nat}{c0 c1:Value}{a b:Wd}{s:Nat × Nat}(S:Z9 w (.slice lo n lc) ps) (T:ps.length=n) (u:Q4 w c0 a) (x:Q4 w c1 b) (X:Qe s) (Q:Tab w) :
  Calls Tryz.prog 18 #[.slice lo n lc,c0,c1,sV s] w fun e w'=>∃ v,e=.returned (.tuple #[v,.int .i64 (Dc (ps.map (·.1)) a b s)])/\Qm w' v (Db (ps.map (·.1)) a b s)/\Ext w w':=by
 have K:=fun(V:World) (hE:Ext w V)=>Du (S.ext hE) T (u.ext hE) (x.ext hE) (Q.keep hE id);have d:=fun(V:World)=>Yg X V;have L:=fun(V:World) (hE:Ext w V) (p:a.length+1+b.length<=1000)=>Gj (u.ext hE) (x.ext hE) X p;have t:=fun(V:World) (hE:Ext w V) (b9:Option Addr) (b8:Nat) (z:Q4 V (.slice b9 (Z0 a b s).length b8) (Z0 a b s))=>Gk (S.ext hE) T z rfl (Q.keep hE id);have f:=@W3 (ps.map (·.1)) a b;obtain⟨d9,d8,rfl,c9⟩:=u.slice;obtain⟨e1,e0,rfl,d0⟩:=x.slice;have y:Za (ps.map (·.1)) a b≠0->Dc (ps.map (·.1)) a b s=Za (ps.map (·.1)) a b/\Db (ps.map (·.1)) a b s=[]:=fun h=>by unfold Dc Db;rw [if_neg h,if_neg h];exact⟨rfl,rfl⟩
 have m:Za (ps.map (·.1)) a b=0->okS s=false->Dc (ps.map (·.1)) a b s=14/\Db (ps.map (·.1)) a b s=[]:=fun h d=>by unfold Dc Db;rw [if_pos h,if_pos h,d];exact⟨rfl,rfl⟩
 have g:Za (ps.map (·.1)) a b=0->okS s=true->Dc (ps.map (·.1)) a b s=Jl (ps.map (·.1)) (Z0 a b s)/\Db (ps.map (·.1)) a b s=Xf (ps.map (·.1)) (Z0 a b s):=fun h d=>by unfold Dc Db;rw [if_pos h,if_pos h,d];exact⟨rfl,rfl⟩
 obtain⟨d5,b4⟩:=zE (Dc (ps.map (·.1)) a b s);obtain⟨d6,b5⟩:=zE (Db (ps.map (·.1)) a b s);obtain⟨Z,a7⟩:=zE (Za (ps.map (·.1)) a b);obtain⟨c2,a8⟩:=zE (okS s);obtain⟨a6,b3⟩:=zE (Z0 a b s);obtain⟨d4,a9⟩:=zE (Jl (ps.map (·.1)) (Z0 a b s));obtain⟨d7,b0⟩:=zE (Xf (ps.map (·.1)) (Z0 a b s));rw [b4,b5] at y m g ⊢;rw [a7] at K f y m g;rw [a8] at d m g;rw [a9,b0] at t g;rw [b3] at L t;obtain⟨C,D,q,a0,a3,c6,c7,c8⟩:=Zh8 K d L t f y m g;clear K d L t f y m g a7 a8 a9 b0 b3 b4 b5 S T u x Q c9 d0 X;obtain⟨i,j⟩:=s;unfold sV at D q ⊢;obtain⟨e3,U⟩:=zE a.length;obtain⟨e4,W⟩:=zE b.length;have c4:=Zh U;have c5:=Zh W;rw [U,W] at C q ⊢;clear U W;obtain⟨c,b1⟩:=zE w.heap.size;have Y:(w.alloc (.cells #[.int .u32 i,.int .u32 j] 26)).heap[c]?=some (.cells #[.int .u32 i,.int .u32 j] 26 (0,0)):=new_at b1.symm;have M:Ext w (w.alloc (.cells #[.int .u32 i,.int .u32 j] 26)):=(Q0.refl _ w).alloc _;go_enter Tryz.func18,Tryz.ntmps18;go_upto_region 1 with (fail)
 generalize (w.alloc (.cells #[.int .u32 i,.int .u32 j] 26))=e7 at Y M ⊢;have a5:=Zh Y;have F:=Zh M;clear Y M b1;go_wp2_with fail;refine(C.out _ F.out).mono ?_;rintro e A ⟨rfl,N⟩;have r:=Zh (N.keep a5.out);have G:=Zh (F.out.trans N);clear C N a5 F;by_cases p:Z=0;case neg=>
  have e2:(Z != 0)=true:=by simpa using p
  obtain⟨l,o⟩:=c6.out p;subst l o;go_wp2;refine bodyPost_ret (Qi rfl _ _ _) rfl ⟨_,rfl,Qm.nil _,G.out⟩
 subst p;have f:=a3.out rfl;have d1:=U1 f.2.1;have d2:=U1 f.2.2;rw [c4.out] at d1;rw [c5.out] at d2;clear f a3;have I:A.cell? ⟨c,0,none⟩=some (.int .u32 i):=by rw [cell_of_row A c 0 _ _ _ r.out];rfl
 have J:A.cell? ⟨c,1,none⟩=some (.int .u32 j):=by rw [cell_of_row A c 1 _ _ _ r.out];rfl
 go_wp2_with fail;refine(D.out _).mono ?_;rintro e B ⟨rfl,O⟩;have H:=Zh (O.keep r.out);have k:=Zh (G.out.trans O);clear D O r G I J;cases c2;case false=>
  obtain⟨l,o⟩:=c7.out uz uz;subst l o;go_wp2;refine bodyPost_ret (Qi rfl _ _ _) rfl ⟨_,rfl,Qm.nil _,k.out⟩
 obtain⟨l,o⟩:=c8.out uz uz;subst l o;have I:B.cell? ⟨c,0,none⟩=some (.int .u32 i):=by rw [cell_of_row B c 0 _ _ _ H.out];rfl
 have J:B.cell? ⟨c,1,none⟩=some (.int .u32 j):=by rw [cell_of_row B c 1 _ _ _ H.out];rfl
 go_wp2_with fail;refine(q.out _ k.out oz).mono ?_;rintro e e8 ⟨b9,b8,rfl,⟨_,_,d3,z,_⟩,P⟩;cases d3;have b6:=a0.out _ (k.out.trans P) _ _ z;have a1:=Zh b6;have a2:=Zh (k.out.trans P);clear q a0 b6 z P k H I J;go_wp2_with fail;refine a1.out.mono ?_;rintro e e9 ⟨v,rfl,b7,b2⟩;have a4:=Zh b7;have c3:=Zh (a2.out.trans b2);clear a1 b7 b2 a2;obtain⟨e6,e5,rfl,_⟩:=a4.out;go_wp2;refine bodyPost_ret (Qi rfl _ _ _) rfl ⟨_,rfl,a4.out,c3.out⟩
theorem Q8d:(Tryz.prog.info? 9).map (fun i=>(i.zero,i.size,i.bytes))=some (some (.string .empty),1,16):=by kernel_rfl
def Un(DS:List Wd)(N k:Nat):List Value:=(List.range N).map fun i=>Value.string (if i<k then X4 (DS.getD i []) else ByteArray.empty)
def Fl(DS:List Wd):List Value:=DS.map fun u=>Value.string (X4 u)
theorem Cd(DS:List Wd)(N:Nat):Un DS N 0=List.replicate N (.string .empty):=by
 unfold Un;apply List.ext_getElem
 ·simp
 ·intro c a b;simp
theorem Q20{DS:List Wd}{N:Nat}(h:DS.length=N):Un DS N N=Fl DS:=by
 unfold Un Fl;apply List.ext_getElem
 ·simp [h]
 ·intro a b e;have c:a<N:=by simpa using b
  have d:a<DS.length:=by omega
  simp [c,d]
theorem Q0w{DS:List Wd}{N k:Nat}(_:k<N):(Un DS N k).set k (.string (X4 (DS.getD k [])))=Un DS N (k+1):=by
 unfold Un;apply List.ext_getElem
 ·simp
 ·intro a e d;have f:a<N:=by simpa using d
  rw [List.getElem_set];by_cases b:k=a
  ·subst b;simp
  ·rw [if_neg b];simp only [List.getElem_map,List.getElem_range]
   congr 1
   by_cases c:a<k
   ·rw [if_pos c,if_pos oz]
   ·rw [if_neg c,if_neg oz]
theorem Q0i{DS:List Wd}{N k i:Nat}(hi:i<N):∃ x,(Un DS N k)[i]?=some (.string x):=⟨_,by unfold Un;rw [List.getElem?_map,List.getElem?_range hi];rfl⟩
def Ns(ls:List Q5)(a b ss:Wd):List Wd:=ss.map fun s=>Xf ls (Z0 a b s)
def T2(ls:List Q5)(a b ss:Wd):List Int:=ss.map fun s=>Jl ls (Z0 a b s)
theorem Lu{ls:List Q5}{w:Wd}(d:∀ l∈ls,∀ x∈l.outs,Jh x)(c:Qw w):(Xf ls w).length<=32/\Qw (Xf ls w):=by
 by_cases a:Zz ls w=0
 ·have e:wE w=0:=by
   unfold Zz at a
   split at a
   ·exact a
   ·contradiction
  cases hd:Zf ls w with
  | none=>rw [(Lh a hd).2];exact⟨by simp,fun s hs=>by cases hs⟩
  | some v=>
   rw [(Li a hd).2];have b:=Lv d c e hd;exact⟨U1 b.1,b.2⟩
 ·rw [(Te a).2];exact⟨by simp,fun s hs=>by cases hs⟩
theorem V6{w:World}{v:Value}{ps:Zw}(h:Z9 w v ps):∀ l∈ps.map (·.1),∀ x∈l.outs,Jh x:=fun l hl=>by
 obtain⟨p,hp,rfl⟩:=List.mem_map.1 hl;obtain⟨_,_,_,_,_,_,_,_,_,h⟩:=h.2 p hp;exact h.2
theorem Jm{w:World}{v:Value}{u:Wd}(h:Qm w v u):∃ ao c,v=.slice ao u.length c/\Q4 w (.slice ao u.length c) u:=by
 obtain⟨ao,c,a,b,_⟩:=h;exact⟨ao,c,a,b⟩
theorem Fi{w:World}{ps:Zw}{lo:Option Addr}{n lc:Nat}{k6 k7:Value}{b c ss:Wd}{a9:Option Addr}{N M:Nat}(a2:Z9 w (.slice lo n lc) ps) (d1:ps.length=n) (H:Q4 w k6 b) (I:Q4 w k7 c) (y:Q4 w (.slice a9 N M) ss) (z:ss.length=N) (n0:N<=M) (c6:Tab w) :
  Calls Tryz.prog 68 #[.slice lo n lc,k6,k7,.slice a9 N M] w fun e w'=>∃ vo vc,e=.returned (.tuple #[.slice vo (Zi (ps.map (·.1)) b c ss).length vc,.int .i64 (Zg (ps.map (·.1)) b c ss)])/\w'.ownsRow w.heap.size 9 1 (.slice vo (Zi (ps.map (·.1)) b c ss).length vc) (Zi (ps.map (·.1)) b c ss).length (Fl (Zi (ps.map (·.1)) b c ss))/\Ext w w':=by
 have j4:∀ f,Qe f->(Xf (ps.map (·.1)) (Z0 b c f)).length<=1000:=fun f hx=>by have:=(Lu (V6 a2) (Gz H.2 I.2 hx)).1;omega
 have j5:=y.1.2.1;rw [z] at j5;unfold maxLen at j5;obtain⟨m3,m2,rfl,m8⟩:=H.slice;obtain⟨m5,m4,rfl,m9⟩:=I.slice;have F:=Du a2 d1 H I c6;have m:=fun(V:World) (j:Ext w V)=>Pw 64 (y.ext j) z n0;have g5:=fun(V:World) (j:Ext w V) (f:Nat × Nat) (hx:Qe f) (d:b.length+1+c.length<=1000)=>Gj (H.ext j) (I.ext j) hx d;have g6:=fun(V:World) (j:Ext w V) (f:Nat × Nat) (k5:Option Addr) (k4:Nat) (a8:Q4 V (.slice k5 (Z0 b c f).length k4) (Z0 b c f))=>Gk (a2.ext j) d1 a8 rfl (c6.keep j id);have u:=@W3 (ps.map (·.1)) b c;have a4:Za (ps.map (·.1)) b c≠0->Zg (ps.map (·.1)) b c ss=Za (ps.map (·.1)) b c:=fun h=>by unfold Zg;rw [if_neg h]
 have L:Za (ps.map (·.1)) b c=0->Yp ss 64≠0->Zg (ps.map (·.1)) b c ss=Yp ss 64:=fun h m=>by unfold Zg;rw [if_pos h,if_neg m]
 have A:Za (ps.map (·.1)) b c=0->Yp ss 64=0->Zg (ps.map (·.1)) b c ss=Z5 (T2 (ps.map (·.1)) b c ss):=fun h m=>by unfold Zg;rw [if_pos h,if_pos m];rfl
 have d6:Zg (ps.map (·.1)) b c ss≠0->Zi (ps.map (·.1)) b c ss=[]:=fun h=>by unfold Zi;rw [if_neg h]
 have a5:Zg (ps.map (·.1)) b c ss=0->Zi (ps.map (·.1)) b c ss=Ns (ps.map (·.1)) b c ss:=fun h=>by unfold Zi;rw [if_pos h];rfl
 have d8:Yp ss 64=0->N<=64:=fun h=>by
  unfold Yp at h
  split at h
  ·cases h
  ·omega
 obtain⟨o0,c4⟩:=zE (Zg (ps.map (·.1)) b c ss);obtain⟨o1,c5⟩:=zE (Zi (ps.map (·.1)) b c ss);obtain⟨DS,U⟩:=zE (Ns (ps.map (·.1)) b c ss);obtain⟨B,X⟩:=zE (T2 (ps.map (·.1)) b c ss);have g9:DS.length=N:=by rw [<-U];simp [Ns,z]
 have i7:B.length=N:=by rw [<-X];simp [T2,z]
 have g8:∀ k (h:k<ss.length),DS.getD k []=Xf (ps.map (·.1)) (Z0 b c ss[k]):=fun k h=>by rw [<-U];unfold Ns;simp [h]
 have i6:∀ k (h:k<ss.length) (m:k<B.length),B[k]=Jl (ps.map (·.1)) (Z0 b c ss[k]):=fun k h m=>by subst X;exact List.getElem_map _
 obtain⟨e0,g4⟩:=zE (Za (ps.map (·.1)) b c);obtain⟨e1,b8⟩:=zE (Yp ss 64);rw [c4,c5] at d6 a5;rw [c4] at a4 L A ⊢;rw [c5];rw [U] at a5;rw [X] at A;rw [g4] at F u a4 L A;rw [b8] at L A d8;simp only [b8] at m;obtain⟨b1,e2,e3,k9,e8,g1,g2,g3⟩:=Zh8 F m g5 g6 u a4 L A;obtain⟨b7,m1,f7,b2,e7,l0,l2,l6⟩:=Zh8 d6 a5 d8 g9 i7 g8 i6 j4;have f2:=Zh y;have f3:=Zh z;clear F m g5 g6 u a4 L A d6 a5 d8 g4 b8 c4 c5 U X g9 i7 g8 i6 a2 d1 H I c6 m8 m9 y z j4;obtain⟨n6,d2⟩:=zE b.length;obtain⟨n7,d3⟩:=zE c.length;have l7:=Zh d2;have l8:=Zh d3;rw [d2,d3] at b1 e3 ⊢;clear d2 d3;go_enter Tryz.func68,Tryz.ntmps68;go_wp2_with fail;refine b1.out.mono ?_;rintro e p3 ⟨rfl,i0⟩;have O:=Zh i0;clear b1 i0;by_cases d:e0=0;case neg=>
  have j7:(e0 != 0)=true:=by simpa using d
  have p:=g1.out d;subst p;have x:=b7.out d;subst x;go_wp2;refine bodyPost_ret (Qi rfl _ _ _) rfl ⟨_,_,rfl,World.ownsRow_nil _ _ _ _,O.out⟩
 subst d;have u:=e8.out rfl;have n3:=U1 u.2.1;have n4:=U1 u.2.2;rw [l7.out] at n3;rw [l8.out] at n4;clear u e8 g1;go_wp2_with fail;refine(e2.out _ O.out).mono ?_;rintro e k8 ⟨rfl,i1⟩;have P:=Zh (O.out.trans i1);clear e2 i1 O;by_cases d:e1=0;case neg=>
  have j7:(e1 != 0)=true:=by simpa using d
  have p:=g2.out uz d;subst p;have x:=b7.out d;subst x;go_wp2;refine bodyPost_ret (Qi rfl _ _ _) rfl ⟨_,_,rfl,World.ownsRow_nil _ _ _ _,P.out⟩
 subst d;have p:=g3.out uz uz;have o6:=f7.out uz;have f6:=Zh p;clear p g2 g3 f7;obtain⟨D,j0⟩:=zE w.heap.size;have j1:D<=k8.heap.size:=by have:=P.out.size;omega
 have g0:=Zh j0;clear j0
 go_wp2_with (at_make;refine Jg rfl (.tmp 30) (.tmp 30) 97 rfl D 9 _ 16 Tryz.underlying97 Q8d rfl .i64 .i64 N N N rfl rfl rfl rfl ?c1 ?c2 j1 ?_)
 case c1=>omega
 case c2=>unfold maxLen;omega
 intro p4 Y i2;rw [<-Cd DS N] at Y;obtain⟨s,j3⟩:=zE k8.heap.size;rw [j3] at Y j1 ⊢;have f4:=Zh Y;have e6:=Zh (P.out.trans i2);clear Y i2 j3 P;go_wp2
 refine wp_loop (fun a l=>∃(k:Nat),k<=N/\a.defers=[]/\gS a [0,1,2,3,12,32,33,34]=(58,[.slice lo n lc,.slice m3 n6 m2,.slice m5 n7 m4,.slice a9 N M,.slice (some ⟨s,0,none⟩) N N,.slice a9 N M,.int .i64 N,.int .i64 k])/\l.ownsRow D 9 1 (.slice (some ⟨s,0,none⟩) N N) N (Un DS N k)/\Z5 (B.take k)=0/\Ext w l)
  (fun a _=>N - (intOf (a.tmps.getD 34 undef)).toNat) ?_ ?_
 ·exact⟨0,by omega,rfl,rfl,f4.out,rfl,e6.out⟩
 clear f4 e6;rintro⟨p0,_⟩ l ⟨k,o8,n1,k0,i8,J,j⟩;subst n1;obtain⟨p1,rfl⟩:=Qt k0;clear k0;obtain⟨S,Q,r⟩:=Zh3 i8 J j;clear i8 J j;by_cases a1:k<N;case neg=>
  obtain rfl:k=N:=by omega
  have F:¬ (k:Int)<(k:Int):=by omega
  have J:=Q.out;rw [List.take_of_length_le (by rw [e7.out];exact Nat.le_refl _),<-f6.out] at J;subst J;have x:=m1.out uz;subst x;have d4:=S.out;rw [Q20 b2.out] at d4;have l9:=Zh d4;clear d4 S;go_wp2;refine bodyPost_ret (Qi rfl _ _ _) rfl ⟨some ⟨s,0,none⟩,k,by rw [b2.out];rfl,by rw [b2.out,g0.out];exact l9.out,r.out⟩
 have F:(k:Int)<(N:Int):=by omega
 have o5:(0:Int)<=(k:Int):=by omega
 have K:k<ss.length:=by rw [f3.out];exact a1
 have d0:k<B.length:=by rw [e7.out];exact a1
 have j2:=(f2.out.ext r.out).at K;rw [f3.out] at j2;obtain⟨o4,o9,o3,a3,n2,Z,a0⟩:=j2;simp only [zV,true_and] at a3;obtain⟨rfl,rfl⟩:=a3;rw [List.getD_eq_getElem?_getD,List.getElem?_eq_getElem K,Option.getD_some] at Z a0;have d5:=f2.out.2 _ (List.getElem_mem K);have t:=l0.out k K;have c8:=l2.out k K d0;have v:=Kh d0 Q.out;have o:=Km d0 Q.out;obtain⟨f,y⟩:=zE (ss[k]);rw [y] at Z a0 d5 t c8;rw [c8] at v o;rw [<-f6.out] at o;clear y c8;obtain⟨g,i⟩:=f;dsimp only at Z a0;have f5:Hid (Qe (g,i)):=Zh d5;obtain⟨e5,f0,e9⟩:=Zh3 t v o;clear d5 t v o;obtain⟨q,g7⟩:=zE l.heap.size;have a6:(l.alloc (.cells #[.int .u32 g,.int .u32 i] 26)).heap[q]?=some (.cells #[.int .u32 g,.int .u32 i] 26 (0,0)):=new_at g7.symm;have c0:Ext l (l.alloc (.cells #[.int .u32 g,.int .u32 i] 26)):=(Q0.refl _ l).alloc _;go_upto_region 11 with (fail)
 generalize (l.alloc (.cells #[.int .u32 g,.int .u32 i] 26))=C at a6 c0 ⊢;have m6:C.cell? ⟨q,0,none⟩=some (.int .u32 g):=by rw [cell_of_row C q 0 _ _ _ a6];rfl
 have m7:C.cell? ⟨q,1,none⟩=some (.int .u32 i):=by rw [cell_of_row C q 1 _ _ _ a6];rfl
 have b3:=Zh c0;clear a6 c0 g7 Z a0 n2;have c9:=e3.out C (r.out.trans b3.out) (g,i) f5.out oz;unfold sV at c9;have f1:=Zh c9;clear c9;go_wp2_with fail;refine f1.out.mono ?_;rintro e n8 ⟨k5,k4,rfl,j9,i3⟩;obtain⟨_,_,a3,a8⟩:=Jm j9;cases a3;have b4:=Zh (b3.out.trans i3);have c7:=k9.out n8 (r.out.trans b4.out) (g,i) _ _ a8;have j6:=l6.out (g,i) f5.out;obtain⟨d9,b9⟩:=zE (Jl (ps.map (·.1)) (Z0 b c (g,i)));obtain⟨b0,W⟩:=zE (Xf (ps.map (·.1)) (Z0 b c (g,i)));rw [b9,W] at c7;rw [W] at j6;have t:=e5.out;rw [W] at t;have v:=f0.out;have o:=e9.out;rw [b9] at v o;obtain⟨e4,l1,l5,l4⟩:=Zh4 c7 t v o;clear c7 t v o a8 j9 i3 b9 W e5 f0 e9 f1 b3 m6 m7;go_wp2_with fail;refine e4.out.mono ?_;rintro e p5 ⟨p2,rfl,j8,i4⟩;obtain⟨vo,vc,rfl,k2⟩:=Jm j8;have b5:=Zh (b4.out.trans i4);have f9:=Zh k2;clear e4 j8 i4 b4 k2;by_cases d:d9=0;case neg=>
  have j7:(d9 != 0)=true:=by simpa using d
  have p:=l4.out d;subst p;have x:=b7.out d;subst x;go_wp2;refine bodyPost_ret (Qi rfl _ _ _) rfl ⟨_,_,rfl,World.ownsRow_nil _ _ _ _,r.out.trans b5.out⟩
 subst d;have k1:=Wy f9.out rfl j6;have f8:=Zh k1;clear k1 f9;go_wp2_with fail;refine f8.out.mono ?_;rintro e n9 ⟨rfl,i5⟩;have b6:=Zh (b5.out.trans i5);clear f8 i5 b5;have G:=Qb S.out b6.out;obtain⟨p6,k3⟩:=Q0i (DS:=DS) (k:=k) a1;have n5:=G.cellAt k oz;rw [k3] at n5;have o7:=G.frozenAt k;have a7:=Yc G k (.string (X4 b0));have d7:=Q0w (DS:=DS) a1;rw [l1.out] at d7;rw [d7] at a7;have c3:Ext w (n9.setCell ⟨s,k,none⟩ (.string (X4 b0))):=(r.out.trans b6.out).setCell (.inl (by rw [g0.out];exact(G.lt s rfl).1)) _;obtain⟨o2,i9⟩:=zE (X4 b0);rw [i9] at a7 c3 ⊢;have m0:=Zh a7;have l3:=Zh c3;clear a7 c3 d7 k3 G S r b6 Q i9;go_wp2;exact⟨⟨k+1,by omega,by first | trivial | rfl,rfl,m0.out,l5.out,l3.out⟩,nz⟩
def Jv(DS:List Wd)(N k:Nat):List Nat:=(List.range N).map fun i=>if i<k then Y8 DS i else 0
theorem Bs(DS:List Wd)(N:Nat):Yt (Jv DS N 0)=List.replicate N (.int .i64 0):=by
 unfold Jv Yt;apply List.ext_getElem
 ·simp
 ·intro c a b;simp
theorem Ek{DS:List Wd}{N:Nat}(h:DS.length=N):Jv DS N N=Ln DS:=by
 unfold Jv Ln;rw [h];apply List.ext_getElem
 ·simp
 ·intro c a d;have b:c<N:=by simpa using a
  simp [b]
theorem Ee{DS:List Wd}{N k:Nat}(_:k<N):(Yt (Jv DS N k)).set k (.int .i64 (Y8 DS k:Nat))=Yt (Jv DS N (k+1)):=by
 unfold Jv Yt;apply List.ext_getElem
 ·simp
 ·intro a e d;have f:a<N:=by simpa using d
  rw [List.getElem_set];by_cases b:k=a
  ·subst b;simp
  ·rw [if_neg b];simp only [List.getElem_map,List.getElem_range];by_cases c:a<k
   ·rw [if_pos c,if_pos oz]
   ·rw [if_neg c,if_neg oz]
theorem Cm{DS:List Wd}{N k i:Nat}(hi:i<N):∃ x:Nat,(Yt (Jv DS N k))[i]?=some (.int .i64 x):=⟨_,by unfold Jv Yt;rw [List.getElem?_map,List.getElem?_map,List.getElem?_range hi];rfl⟩
theorem Tw{DS:List Wd}{k:Nat}(a:k<DS.length):(Fl DS).getD k undef=.string (X4 (DS.getD k [])):=by
 unfold Fl;simp [a]
theorem Gl(u:Wd):(X4 u).size=8*u.length:=by
 unfold X4;show (Qr u).toArray.size=_;rw [List.size_toArray,Vi]
theorem Vr(u:Wd):(X4 u).data.toList=Qr u:=rfl
theorem Q50{ls:List Q5}{a b ss:Wd}(h:∀ s∈ss,Qw (Xf ls (Z0 a b s))):Hu (Zi ls a b ss):=by
 unfold Zi
 split
 ·intro e c;obtain⟨s,d,rfl⟩:=List.mem_map.1 c;exact h s d
 ·intro e c;cases c
theorem Jb{P:Program}{k e:TypeId}{w:World}{b n z:Nat}{f g:List UInt8->Option Int}{ops:Array Oper}{rest:List Oper}{o:Oper}{a:Act}{Q:Exit->Act->World->Prop}(hg:o.guard=none)(m x v:Operand)(t:TypeId)(hop:o.op=Op.mapUpdate t m x v)
  (hk:P.underlying k=some .string) (ht:P.underlying t=some (.map k e)) (he:P.underlying e=some (.int .i64)) (hm:a.eval m=.map (some b)) (h:Zb P k e w b n f z) (hn:n<maxLen)
  (s:ByteArray) (hx:a.eval x=.string s) (hs:s.size<=maxLen) (c:Int) (hv:a.eval v=.int .i64 c) (hc:(Lit.int .i64 c).wf=true) (hG:∀ y,g y=if y=s.data.toList then some c else f y)
  (hK:∀ V,(∃ z,Zb P k e V b (n+1) g z)->Q0 (fun q=>q=b) w V->wpList P ops Q rest (a.put o.dst undef) V):wpList P ops Q (o::rest) a w:=
 Ma hg m x v t hop hk ht he b n hm h hn s hx hs c hv hc fun V h1 h2=>hK V ⟨_,h1.fn hG⟩ h2
theorem Bf{w:World}{v j k:Value}{ps:Zw}{a b ss:Wd}(g:Z9 w v ps)(e:Q4 w j a)(f:Q4 w k b)(i:Qw ss):Hu (Zi (ps.map (·.1)) a b ss)/\∀ u∈Zi (ps.map (·.1)) a b ss,u.length<=32:=by
 refine⟨Q50 fun d c=>(Lu (V6 g) (Gz e.2 f.2 (i d c))).2,fun u hu=>?_⟩;unfold Zi at hu
 split at hu
 ·obtain⟨d,c,rfl⟩:=List.mem_map.1 hu;exact(Lu (V6 g) (Gz e.2 f.2 (i d c))).1
 ·cases hu
theorem Ng{ls:List Q5}{a b ss:Wd}(h:Zg ls a b ss=0):ss.length<=64:=by
 unfold Zg at h
 split at h
 ·split at h
  ·rename_i c
   unfold Yp at c
   split at c
   ·cases c
   ·omega
  ·rename_i c;exact absurd h c
 ·rename_i c;exact absurd h c
theorem Fh{ls:List Q5}{a b ss:Wd}(h:Zg ls a b ss=0):(Zi ls a b ss).length=ss.length:=by
 unfold Zi;rw [if_pos h,List.length_map]
theorem Ry{ls:List Q5}{a b ss:Wd}(h:Zg ls a b ss≠0):Zi ls a b ss=[]:=by
 unfold Zi;rw [if_neg h]
theorem Dm{w:World}{ps:Zw}{lo:Option Addr}{n lc:Nat}{i4 i5:Value}{f i ss:Wd}{i3:Option Addr}{N e0:Nat}(d0:Z9 w (.slice lo n lc) ps) (g6:ps.length=n) (a0:Q4 w i4 f) (H:Q4 w i5 i) (d5:Q4 w (.slice i3 N e0) ss) (c3:ss.length=N) (j8:N<=e0) (g0:Tab w) :
  Calls Tryz.prog 22 #[.slice lo n lc,i4,i5,.slice i3 N e0] w fun e w'=>∃ vo vc,e=.returned (.tuple #[.slice vo (Zi (ps.map (·.1)) f i ss).length vc,.int .i64 (Zg (ps.map (·.1)) f i ss)])/\w'.ownsRow w.heap.size 3 1 (.slice vo (Zi (ps.map (·.1)) f i ss).length vc) (Zi (ps.map (·.1)) f i ss).length (Yt (Ln (Zi (ps.map (·.1)) f i ss)))/\Ext w w':=by
 have a5:=Fi d0 g6 a0 H d5 c3 j8 g0;obtain⟨d3,d2⟩:=Bf d0 a0 H d5.2;have a4:=@Ng (ps.map (·.1)) f i ss;have t:=@Fh (ps.map (·.1)) f i ss;have c7:=@Ry (ps.map (·.1)) f i ss;obtain⟨k5,k4,rfl,j6⟩:=a0.slice;obtain⟨k7,k6,rfl,j7⟩:=H.slice;obtain⟨f2,c4⟩:=zE (Zg (ps.map (·.1)) f i ss);obtain⟨DS,c0⟩:=zE (Zi (ps.map (·.1)) f i ss);rw [c4,c0] at a5 t c7 ⊢;rw [c4] at a4;rw [c0] at d3 d2;rw [c3] at a4 t;obtain⟨l4,g7⟩:=zE f.length;obtain⟨l5,g8⟩:=zE i.length;rw [g7,g8] at a5 ⊢;obtain⟨e8,i9,i8,e4,f0,e1⟩:=Zh6 a5 d3 d2 a4 t c7;clear a5 d3 d2 a4 t c7 c4 c0 d0 g6 a0 H d5 c3 g0 j6 j7 g7 g8;go_enter Tryz.func22,Tryz.ntmps22;go_wp2_with fail;refine e8.out.mono ?_;rintro e r ⟨vo,vc,rfl,p,f4⟩;have l:=Zh p;have O:=Zh f4;clear e8 p f4;by_cases d8:f2=0;case neg=>
  have l3:(f2 != 0)=true:=by simpa using d8
  have H:=e1.out d8;subst H;go_wp2;refine bodyPost_ret (Qi rfl _ _ _) rfl ⟨_,_,rfl,World.ownsRow_nil _ _ _ _,O.out⟩
 subst d8;have l0:=e4.out uz;have t:=f0.out uz;have p:=l.out;rw [t] at p;rw [t];have B:=Zh p;have S:=Zh t;clear p t l f0 e4 e1;obtain⟨u,c5⟩:=zE w.heap.size;have U:=Zh c5;have j5:u<=r.heap.size:=by have:=O.out.size;omega
 rw [c5] at B;clear c5;have k1:(Instr.makeMap 100 none).run Tryz.prog r=.ok (.map (some r.heap.size)) (r.alloc (.map #[] 0)):=rfl;obtain⟨o,E⟩:=zE r.heap.size;have d4:Zb Tryz.prog 9 3 (r.alloc (.map #[] 0)) o 0 (fun _=>none) 0:=Zb.made rfl E;have v:Ext r (r.alloc (.map #[] 0)):=(Q0.refl _ r).alloc _;have f6:u<=o:=by omega
 go_upto_region 5 with (fail)
 clear k1;generalize (r.alloc (.map #[] 0))=i6 at d4 v ⊢;obtain⟨a9,e2,b0,e6⟩:=Zh4 d4 (O.out.trans v) f6 (Qb B.out v);have c6:u<=i6.heap.size:=by have:=v.size;omega
 have e5:Hid (∀ q,(Value.slice vo N vc).ownBlock=some q->q<o):=Zh fun q c=>by rw [<-E];exact(B.out.lt q c).2
 clear d4 v f6 E B O j5
 go_wp2_with (at_make;refine Jg rfl (.tmp 31) (.tmp 31) 36 rfl u 3 _ 8 Tryz.underlying36 Tryz.infoD rfl .i64 .i64 N N N rfl rfl rfl rfl ?c1 ?c2 c6 ?_)
 case c1=>omega
 case c2=>unfold maxLen;omega
 intro l9 Y W;rw [<-Bs DS N] at Y;obtain⟨g,g3⟩:=zE i6.heap.size;rw [g3] at Y c6 ⊢;obtain⟨e7,e3,A,e9⟩:=Zh4 Y (e2.out.trans W) (a9.out.keep W id) (Qb e6.out W);have y:Hid (o<g):=Zh (by have:=a9.out.lt;omega);clear Y W g3 e2 a9 e6 c6;have b1:Hid (∀ q,(Value.slice vo N vc).ownBlock=some q->q<o):=Zh e5.out;clear e5;go_wp2
 refine wp_loop (fun a z=>∃(k:Nat),k<=N/\a.defers=[]/\gS a [0,12,13,33,34,35]=(58,[.slice lo n lc,.map (some o),.slice (some ⟨g,0,none⟩) N N,.slice vo N vc,.int .i64 N,.int .i64 k])/\z.ownsRow u 3 1 (.slice (some ⟨g,0,none⟩) N N) N (Yt (Jv DS N k))/\(∃ i7,Zb Tryz.prog 9 3 z o k (V3 DS k) i7)/\z.ownsRow u 9 1 (.slice vo N vc) N (Fl DS)/\Ext w z)
  (fun a _=>N - (intOf (a.tmps.getD 35 undef)).toNat) ?_ ?_
 ·exact⟨0,by omega,rfl,rfl,e7.out,⟨0,A.out⟩,e9.out,e3.out⟩
 clear e7 A e9 e3;rintro⟨l7,_⟩ z ⟨k,l2,j9,L,f7,⟨i7,E⟩,f8,f3⟩;subst j9;obtain⟨l8,rfl⟩:=Qt L;clear L;obtain⟨l,J,Q,M⟩:=Zh4 f7 E f8 f3;clear f7 E f8 f3;by_cases a2:k<N;case neg=>
  obtain rfl:k=N:=by omega
  have C:¬ (k:Int)<(k:Int):=by omega
  have p:=l.out;rw [Ek S.out] at p;have B:=Zh p;clear p l;go_wp2;refine bodyPost_ret (Qi rfl _ _ _) rfl ⟨some ⟨g,0,none⟩,k,by rw [S.out];rfl,by rw [S.out,U.out];exact B.out,M.out⟩
 have C:(k:Int)<(N:Int):=by omega
 have k9:(0:Int)<=(k:Int):=by omega
 have c9:k<DS.length:=by rw [S.out];exact a2
 obtain⟨k8,l6,c2,c,l1,c8⟩:=Zq (Rd.of_own Q.out) a2;simp only [zV,true_and] at c;obtain⟨rfl,rfl⟩:=c;rw [Tw c9] at c8;have a1:=Q82 i9.out k;have K:=Q5q (DS:=DS) (n:=k);have a3:=fun(j:Int)=>Q4e (DS:=DS) (n:=k) (j:=j);have k2:=(Sc DS k).1;have L:(DS.getD k []).length<=32:=by
  rw [List.getD_eq_getElem?_getD,List.getElem?_eq_getElem c9];exact i8.out _ (List.getElem_mem c9)
 obtain⟨V,g2⟩:=zE (DS.getD k []);rw [g2] at c8 a1 K a3 L;have d7:(X4 V).size<=maxLen:=by rw [Gl];unfold maxLen;omega
 have d6:=Vr V;obtain⟨b8,g1⟩:=zE (X4 V);rw [g1] at c8 d7 d6;obtain⟨d9,a6⟩:=zE (V3 DS k (Qr V));rw [a6] at a1 K a3;rw [<-d6] at a6 K;have j4:=l.out;obtain⟨m0,i2⟩:=Cm (DS:=DS) (k:=k) a2;have i0:=Ee (DS:=DS) a2;obtain⟨P,b2,a8,b3,f1,b5,b7⟩:=Zh7 a1 K a3 a6 i2 i0 d7;clear a1 K a3 a6 i2 i0 d7 d6 g1 g2 j4 L;cases d9;case none=>
  have I:=P.out;have g9:=b2.out rfl;have j1:=Zh g9;simp only at I;have j0:=Zh I;clear I g9 P b2 a8;have i1:(Lit.int .i64 (k:Int)).wf=true:=by
   show (decide (IntKind.i64.min<=(k:Int)) && decide ((k:Int)<=IntKind.i64.max))=true;rw [Bool.and_eq_true,decide_eq_true_iff,decide_eq_true_iff];have C:IntKind.i64.min=-9223372036854775808:=rfl;have j3:IntKind.i64.max=9223372036854775807:=rfl;rw [C,j3];omega
  have j2:=Zh i1;clear i1
  go_wp2_with (first
   | (at_lookup;refine Yf rfl (.tmp 41) (.tmp 42) 100 rfl Tryz.underlying9 Tryz.underlying100 Tryz.underlying3 (Tryz.zeroValue3 _) o k rfl J.out b8 rfl b7.out none b3.out ?_)
   | (at_mapUpdate;refine Jb rfl (.tmp 49) (.tmp 50) (.tmp 51) 100 rfl Tryz.underlying9 Tryz.underlying100 Tryz.underlying3 rfl J.out (by unfold maxLen;omega) b8 rfl b7.out (k:Int) rfl j2.out j1.out ?_))
  intro b9 m1 f5 Z;have X:=Qd l.out Z (fun q c e=>by simp [Value.ownBlock] at c;have:=y.out;omega);have f9:=Qd Q.out Z (fun q c e=>by subst e;have:=b1.out _ c;omega);have v:Ext w b9:=M.out.after Z (fun b C e=>by have:=b0.out;have:=U.out;omega);have d1:=X.cellAt k oz;rw [f1.out] at d1;have k0:=X.frozenAt k;have x:=Yc X k (.int .i64 (Y8 DS k:Nat));rw [b5.out,<-j0.out] at x;have s:=Q0.set1 b9 g k (.int .i64 (k:Int));have G:=Qd f9 s (fun q c e=>by have:=b1.out _ c;have:=y.out;omega);have F:=f5.keep s (by have:=y.out;omega);have D:Ext w (b9.setCell ⟨g,k,none⟩ (.int .i64 (k:Int))):=v.after s (fun b C e=>by have:=b0.out;have:=U.out;have:=y.out;omega);obtain⟨b6,b4,A,a7⟩:=Zh4 x G F D;clear x G F D s f5 v f9 X Z l Q M J;go_wp2;exact⟨⟨k+1,by omega,by first | trivial | rfl,rfl,b6.out,⟨_,A.out⟩,b4.out,a7.out⟩,nz⟩
 case some j=>
  have I:=P.out;simp only at I;subst I;have g4:=a8.out _ rfl;clear P b2 a8;have d1:=l.out.cellAt k oz;rw [f1.out] at d1;have k0:=l.out.frozenAt k;have x:=Yc l.out k (.int .i64 (Y8 DS k:Nat));rw [b5.out] at x;have s:=Q0.set1 z g k (.int .i64 (Y8 DS k:Nat));have G:=Qd Q.out s (fun q c e=>by have:=b1.out _ c;have:=y.out;omega);have F:=((J.out.fn (g:=V3 DS (k+1)) g4).mono (Nat.le_succ k)).keep s (by have:=y.out;omega);have D:Ext w (z.setCell ⟨g,k,none⟩ (.int .i64 (Y8 DS k:Nat))):=M.out.after s (fun b C e=>by have:=b0.out;have:=U.out;have:=y.out;omega);obtain⟨k3,g5⟩:=zE (Y8 DS k);rw [g5] at x G F D k2 b3;obtain⟨b6,b4,A,a7⟩:=Zh4 x G F D;clear x G F D s g4 g5 b5
  go_wp2_with (at_lookup;refine Yf rfl (.tmp 41) (.tmp 42) 100 rfl Tryz.underlying9 Tryz.underlying100 Tryz.underlying3 (Tryz.zeroValue3 _) o k rfl J.out b8 rfl b7.out (some (k3:Int)) b3.out ?_)
  exact⟨⟨k+1,by omega,by first | trivial | rfl,rfl,b6.out,⟨_,A.out⟩,b4.out,a7.out⟩,nz⟩
def Xz(DS PL:List Wd)(N k:Nat):List Int:=(List.range N).map fun i=>if i<k then Xt PL (DS.getD i []) N else 0
theorem Sd(DS PL:List Wd)(N:Nat):Qh (Xz DS PL N 0)=List.replicate N (.int .i64 0):=by
 unfold Xz Qh;apply List.ext_getElem
 ·simp
 ·intro c a b;simp
theorem Ca{DS PL:List Wd}{N:Nat}(h:DS.length=N)(c:PL.length=N):Xz DS PL N N=Wo DS PL:=by
 unfold Xz Wo;rw [c];apply List.ext_getElem
 ·simp [h]
 ·intro a b f;have d:a<N:=by simpa using b
  have e:a<DS.length:=by omega
  simp [d,e]
theorem Sx{DS PL:List Wd}{N k:Nat}(_:k<N):(Qh (Xz DS PL N k)).set k (.int .i64 (Xt PL (DS.getD k []) N))=Qh (Xz DS PL N (k+1)):=by
 unfold Xz Qh;apply List.ext_getElem
 ·simp
 ·intro a e d;have f:a<N:=by simpa using d
  rw [List.getElem_set];by_cases b:k=a
  ·subst b;simp
  ·rw [if_neg b];simp only [List.getElem_map,List.getElem_range];by_cases c:a<k
   ·rw [if_pos c,if_pos oz]
   ·rw [if_neg c,if_neg oz]
theorem Tp{DS PL:List Wd}{N k i:Nat}(hi:i<N):∃ x:Int,(Qh (Xz DS PL N k))[i]?=some (.int .i64 x):=⟨_,by unfold Xz Qh;rw [List.getElem?_map,List.getElem?_map,List.getElem?_range hi];rfl⟩
def Uh(a b ss:Wd):List Wd:=ss.map (Z0 a b)
theorem Ci{a b ss:Wd}{k:Nat}(h:k<ss.length):(Uh a b ss).getD k []=Z0 a b ss[k]:=by unfold Uh;simp [h]
theorem Q0h{a b ss:Wd}(c:Qw a)(d:Qw b)(e:Qw ss):Hu (Uh a b ss):=by
 intro j f;obtain⟨i,g,rfl⟩:=List.mem_map.1 f;exact Gz c d (e i g)
theorem Eg{ls:List Q5}{a b ss:Wd}(h:Zg ls a b ss=0):a.length<=32/\b.length<=32:=by
 unfold Zg at h
 split at h
 ·rename_i c
  have:=W3 c;exact⟨U1 this.2.1,U1 this.2.2⟩
 ·rename_i c;exact absurd h c
def Um(ls:List Q5)(a b ss:Wd):List Int:=if Zg ls a b ss=0 then Wo (Zi ls a b ss) (Uh a b ss) else []
theorem S2{w:World}{ps:Zw}{lo:Option Addr}{n lc:Nat}{m4 m5:Value}{c f ss:Wd}{f9:Option Addr}{N d1:Nat}(e3:Z9 w (.slice lo n lc) ps) (l9:ps.length=n) (W:Q4 w m4 c) (E:Q4 w m5 f) (F:Q4 w (.slice f9 N d1) ss) (a0:ss.length=N) (p0:N<=d1) (l3:Tab w) :
  Calls Tryz.prog 24 #[.slice lo n lc,m4,m5,.slice f9 N d1] w fun e w'=>∃ vo vc,e=.returned (.tuple #[.slice vo (Um (ps.map (·.1)) c f ss).length vc,.int .i64 (Zg (ps.map (·.1)) c f ss)])/\w'.ownsRow w.heap.size 3 1 (.slice vo (Um (ps.map (·.1)) c f ss).length vc) (Um (ps.map (·.1)) c f ss).length (Qh (Um (ps.map (·.1)) c f ss))/\Ext w w':=by
 have f0:=Fi e3 l9 W E F a0 p0 l3;obtain⟨e5,e4⟩:=Bf e3 W E F.2;have c7:=@Ng (ps.map (·.1)) c f ss;have c3:=@Eg (ps.map (·.1)) c f ss;have y:=@Fh (ps.map (·.1)) c f ss;have f2:=Q0h W.2 E.2 F.2;have M:=fun(k:Nat) (h:k<ss.length)=>Ci (a:=c) (b:=f) h;have f1:(Uh c f ss).length=N:=by unfold Uh;rw [List.length_map,a0]
 have L:=fun(i:World) (D:Ext w i) (a4:Nat × Nat) (hx:Qe a4) (a3:c.length+1+f.length<=1000)=>Gj (W.ext D) (E.ext D) hx a3;have f3:Zg (ps.map (·.1)) c f ss≠0->Um (ps.map (·.1)) c f ss=[]:=fun h=>by unfold Um;rw [if_neg h]
 have O:Zg (ps.map (·.1)) c f ss=0->Um (ps.map (·.1)) c f ss=Wo (Zi (ps.map (·.1)) c f ss) (Uh c f ss):=fun h=>by unfold Um;rw [if_pos h]
 have f5:(Wo (Zi (ps.map (·.1)) c f ss) (Uh c f ss)).length=(Zi (ps.map (·.1)) c f ss).length:=by unfold Wo;rw [List.length_map]
 obtain⟨o0,n9,rfl,o8⟩:=W.slice;obtain⟨o2,o1,rfl,o9⟩:=E.slice;obtain⟨p9,l0⟩:=zE (Um (ps.map (·.1)) c f ss);obtain⟨k0,b7⟩:=zE (Zg (ps.map (·.1)) c f ss);obtain⟨DS,b2⟩:=zE (Zi (ps.map (·.1)) c f ss);obtain⟨PL,b6⟩:=zE (Uh c f ss);rw [b7,l0] at f3 O ⊢;rw [b2,b6] at O f5;rw [b7,b2] at f0 y;rw [b7] at c7 c3;rw [b2] at e5 e4;rw [b6] at f2 f1;simp only [b6] at M;rw [a0] at c7 y;obtain⟨i5,n3,n2,d4,j8,j9,d2,d6⟩:=Zh8 M f2 f1 L f3 O c3 f0;obtain⟨m7,m6,g6,j6,j2,d5,i0⟩:=Zh7 e5 e4 c7 y f5 F a0;clear f0 e5 e4 c7 y b7 b2 l0 b6 e3 l9 W E F a0 l3 o8 o9 M f2 f1 L f3 O c3 f5;obtain⟨p4,e7⟩:=zE c.length;obtain⟨p5,e8⟩:=zE f.length;rw [e7,e8] at d6 d2 d4 ⊢;have m9:=Zh e7;have n0:=Zh e8;clear e7 e8;go_enter Tryz.func24,Tryz.ntmps24;go_wp2_with fail;refine d6.out.mono ?_;rintro e s ⟨vo,vc,rfl,r,V⟩;have A:=Zh r;have z:=Zh V;clear d6 r V;by_cases a3:k0=0;case neg=>
  have q4:(k0 != 0)=true:=by simpa using a3
  have E:=j8.out a3;subst E;go_wp2;refine bodyPost_ret (Qi rfl _ _ _) rfl ⟨_,_,rfl,World.ownsRow_nil _ _ _ _,z.out⟩
 subst a3;have q1:=g6.out uz;have y:=j6.out uz;obtain⟨X,q3⟩:=d2.out uz;have O:=j9.out uz;have r:=A.out;have P:=j2.out;rw [y] at r P;rw [y];obtain⟨i8,n6,U,j7⟩:=Zh4 O P r y;clear r y A j6 g6 d2 j8 j9 O P j2;obtain⟨u,d8⟩:=zE w.heap.size;have a8:=Zh d8;have o7:u<=s.heap.size:=by have:=z.out.size;omega
 rw [d8] at U;clear d8;have p3:(Instr.makeMap 100 none).run Tryz.prog s=.ok (.map (some s.heap.size)) (s.alloc (.map #[] 0)):=rfl;obtain⟨j,v⟩:=zE s.heap.size;have e6:Zb Tryz.prog 9 3 (s.alloc (.map #[] 0)) j 0 (Fa PL 0) 0:=Zb.made rfl v;have K:Ext s (s.alloc (.map #[] 0)):=(Q0.refl _ s).alloc _;have k8:u<=j:=by omega
 go_upto_region 5 with (fail)
 clear p3;generalize (s.alloc (.map #[] 0))=q7 at e6 K ⊢;obtain⟨g8,a5,g9,i3⟩:=Zh4 e6 (z.out.trans K) k8 (Qb U.out K);have i2:Hid (∀ q,(Value.slice vo N vc).ownBlock=some q->q<j):=Zh fun q l=>by rw [<-v];exact(U.out.lt q l).2
 clear e6 K k8 v U z o7;have i1:Hid (∀ q,(Value.slice vo N vc).ownBlock=some q->q<j):=Zh i2.out;clear i2;go_wp2
 refine wp_loop (fun a i=>∃(k:Nat),k<=N/\a.defers=[]/\gS a [0,1,2,10,12,32,33,34]=(71,[.slice lo n lc,.slice o0 p4 n9,.slice o2 p5 o1,.slice vo N vc,.map (some j),.slice f9 N d1,.int .i64 N,.int .i64 k])/\(∃ g0,Zb Tryz.prog 9 3 i j k (Fa PL k) g0)/\i.ownsRow u 9 1 (.slice vo N vc) N (Fl DS)/\Ext w i)
  (fun a _=>N - (intOf (a.tmps.getD 34 undef)).toNat) ?_ ?_
 ·exact⟨0,by omega,rfl,rfl,⟨0,g8.out⟩,i3.out,a5.out⟩
 clear g8 i3 a5;rintro⟨p7,_⟩ i ⟨k,q2,e1,G,⟨g0,v⟩,a1,D⟩;subst e1;obtain⟨p8,rfl⟩:=Qt G;clear G;obtain⟨t,I,p⟩:=Zh3 v a1 D;clear v a1 D;by_cases p1:k<N
 ·have C:(k:Int)<(N:Int):=by omega
  have o6:(0:Int)<=(k:Int):=by omega
  have c6:k<ss.length:=by rw [i0.out];exact p1
  have l4:=(d5.out.ext p.out).at c6;rw [i0.out] at l4;obtain⟨o5,p6,q0,l,l7,b9,c0⟩:=l4;simp only [zV,true_and] at l;obtain⟨rfl,rfl⟩:=l;rw [List.getD_eq_getElem?_getD,List.getElem?_eq_getElem c6,Option.getD_some] at b9 c0;have e9:=d5.out.2 _ (List.getElem_mem c6);have M:=i5.out k c6;obtain⟨a4,F⟩:=zE (ss[k]);rw [F] at b9 c0 e9 M;clear F;obtain⟨m,o⟩:=a4;dsimp only at b9 c0;have n1:Hid (Qe (m,o)):=Zh e9;have i6:=Zh M;clear e9 M;obtain⟨H,k1⟩:=zE i.heap.size;have d0:(i.alloc (.cells #[.int .u32 m,.int .u32 o] 26)).heap[H]?=some (.cells #[.int .u32 m,.int .u32 o] 26 (0,0)):=new_at k1.symm;have V:Ext i (i.alloc (.cells #[.int .u32 m,.int .u32 o] 26)):=(Q0.refl _ i).alloc _;go_upto_region 8 with (fail)
  generalize (i.alloc (.cells #[.int .u32 m,.int .u32 o] 26))=Z at d0 V ⊢;have o3:Z.cell? ⟨H,0,none⟩=some (.int .u32 m):=by rw [cell_of_row Z H 0 _ _ _ d0];rfl
  have o4:Z.cell? ⟨H,1,none⟩=some (.int .u32 o):=by rw [cell_of_row Z H 1 _ _ _ d0];rfl
  have z:=Zh V;clear d0 V k1 b9 c0 l7;have L:=d4.out Z (p.out.trans z.out) (m,o) n1.out oz;unfold sV at L;have g5:=Zh L;clear L;go_wp2_with fail;refine g5.out.mono ?_;rintro e q9 ⟨q6,q5,rfl,m0,k3⟩;obtain⟨_,_,l,m1⟩:=Jm m0;cases l;have c5:=Pv c f (m,o);rw [m9.out,n0.out] at c5;have f7:=Wy m1 rfl (by rw [c5];omega);have c8:=Q5w PL k;rw [i6.out] at c8;have S:(X4 (Z0 c f (m,o))).size<=maxLen:=by rw [Gl,c5];unfold maxLen;omega
  have Q:=Vr (Z0 c f (m,o));obtain⟨b0,a2⟩:=zE (X4 (Z0 c f (m,o)));rw [a2] at f7 S Q;rw [<-Q] at c8;obtain⟨g3,j5,a7,n4⟩:=Zh4 (z.out.trans k3) f7 S c8;clear m0 m1 c5 f7 c8 S Q a2 k3 z o3 o4 g5 i6;go_wp2_with fail;refine j5.out.mono ?_;rintro e r0 ⟨rfl,k4⟩;have b4:=g3.out.trans k4;obtain⟨g7,j1,g4⟩:=Zh3 (t.out.keep b4 id) (Qb I.out b4) (p.out.trans b4);clear j5 k4 b4 t I p g3;have m2:(Lit.int .i64 (k:Int)).wf=true:=by
   show (decide (IntKind.i64.min<=(k:Int)) && decide ((k:Int)<=IntKind.i64.max))=true;rw [Bool.and_eq_true,decide_eq_true_iff,decide_eq_true_iff];have C:IntKind.i64.min=-9223372036854775808:=rfl;have J:IntKind.i64.max=9223372036854775807:=rfl;rw [C,J];omega
  have n7:=Zh m2;clear m2
  go_wp2_with (at_mapUpdate;refine Jb rfl (.tmp 39) (.tmp 44) (.tmp 45) 100 rfl Tryz.underlying9 Tryz.underlying100 Tryz.underlying3 rfl g7.out (by unfold maxLen;omega) b0 rfl a7.out (k:Int) rfl n7.out n4.out ?_)
  intro n8 r2 k6 d7;have l1:=Qd j1.out d7 (fun q l e=>by subst e;have:=i1.out _ l;omega);have K:Ext w n8:=g4.out.after d7 (fun b C e=>by have:=g9.out;have:=a8.out;omega);obtain⟨n5,m8,a5⟩:=Zh3 l1 k6 K;clear l1 k6 K d7 g7 j1 g4;go_wp2;exact⟨⟨k+1,by omega,by first | trivial | rfl,rfl,⟨_,m8.out⟩,n5.out,a5.out⟩,nz⟩
 obtain rfl:k=N:=by omega
 have C:¬ (k:Int)<(k:Int):=by omega
 clear d4 i5 d5;have d9:u<=i.heap.size:=by have:=p.out.size;have:=a8.out;omega
 go_wp2_with (at_make;refine Jg rfl (.tmp 48) (.tmp 48) 36 rfl u 3 _ 8 Tryz.underlying36 Tryz.infoD rfl .i64 .i64 k k k rfl rfl rfl rfl ?c1 ?c2 d9 ?_)
 case c1=>omega
 case c2=>unfold maxLen;omega
 intro q8 b5 b3;rw [<-Sd DS PL k] at b5;obtain⟨B,l6⟩:=zE i.heap.size;rw [l6] at b5 d9 ⊢;obtain⟨i4,g2,Y,j0⟩:=Zh4 b5 (p.out.trans b3) (t.out.keep b3 id) (Qb I.out b3);have d3:Hid (j<B):=Zh (by have:=t.out.lt;omega);clear b5 b3 l6 p t I d9 C;go_wp2
 refine wp_loop (fun a i=>∃(g:Nat),g<=k/\a.defers=[]/\gS a [0,12,15,50,51,52]=(71,[.slice lo n lc,.map (some j),.slice (some ⟨B,0,none⟩) k k,.slice vo k vc,.int .i64 k,.int .i64 g])/\i.ownsRow u 3 1 (.slice (some ⟨B,0,none⟩) k k) k (Qh (Xz DS PL k g))/\Zb Tryz.prog 9 3 i j k (Fa PL k) g0/\i.ownsRow u 9 1 (.slice vo k vc) k (Fl DS)/\Ext w i)
  (fun a _=>k - (intOf (a.tmps.getD 52 undef)).toNat) ?_ ?_
 ·exact⟨0,by omega,rfl,rfl,i4.out,Y.out,j0.out,g2.out⟩
 clear i4 Y j0 g2;rintro⟨p7,_⟩ i ⟨g,L,e1,G,k9,v,a1,D⟩;subst e1;obtain⟨p8,rfl⟩:=Qt G;clear G;obtain⟨A,t,I,p⟩:=Zh4 k9 v a1 D;clear k9 v a1 D;by_cases c4:g<k;case neg=>
  obtain rfl:g=k:=by omega
  have C:¬ (g:Int)<(g:Int):=by omega
  have r:=A.out;rw [Ca j7.out n2.out,<-i8.out] at r;have P:=n6.out;rw [<-i8.out] at P;have U:=Zh r;have j3:=Zh P;clear r A P;go_wp2;refine bodyPost_ret (Qi rfl _ _ _) rfl ⟨some ⟨B,0,none⟩,g,by rw [j3.out];rfl,by rw [j3.out,a8.out];exact U.out,p.out⟩
 have C:(g:Int)<(k:Int):=by omega
 have o6:(0:Int)<=(g:Int):=by omega
 have e2:g<DS.length:=by rw [j7.out];exact c4
 obtain⟨o5,p6,c2,l,l7,e0⟩:=Zq (Rd.of_own I.out) c4;simp only [zV,true_and] at l;obtain⟨rfl,rfl⟩:=l;rw [Tw e2] at e0;have X:=Q44 n3.out (Ho m7.out g) k;have G:(DS.getD g []).length<=32:=by
  rw [List.getD_eq_getElem?_getD,List.getElem?_eq_getElem e2];exact m6.out _ (List.getElem_mem e2)
 obtain⟨r1,m3⟩:=Tp (DS:=DS) (PL:=PL) (k:=g) c4;have f4:=Sx (DS:=DS) (PL:=PL) c4;have l8:=Rf PL (DS.getD g []) k;obtain⟨a9,k5⟩:=zE (Xt PL (DS.getD g []) k);rw [k5] at X f4 l8;obtain⟨b1,l5⟩:=zE (DS.getD g []);rw [l5] at e0 X G;have S:(X4 b1).size<=maxLen:=by rw [Gl];unfold maxLen;omega
 have Q:=Vr b1;obtain⟨b0,a2⟩:=zE (X4 b1);rw [a2] at e0 S Q;obtain⟨f8,c9⟩:=zE (Fa PL k (Qr b1));rw [c9] at X;rw [<-Q] at c9;have p2:=A.out.cellAt g oz;rw [m3] at p2;have c3:=A.out.frozenAt g;have f6:=Yc A.out g (.int .i64 a9);rw [f4] at f6;have b8:=Q0.set1 i B g (.int .i64 a9);have l2:=Qd I.out b8 (fun q l e=>by have:=i1.out _ l;have:=d3.out;omega);have k7:=t.out.keep b8 (by have:=d3.out;omega);have k2:Ext w (i.setCell ⟨B,g,none⟩ (.int .i64 a9)):=p.out.after b8 (fun b C e=>by have:=g9.out;have:=a8.out;have:=d3.out;omega);obtain⟨i7,a7,a6,j4,i9,Y,g1⟩:=Zh7 c9 S X f6 l2 k7 k2;clear c9 S X f6 l2 k7 k2 b8 f4 m3 k5 l5 a2 Q G l8;cases f8;case none=>
  have J:=a6.out;simp only at J;subst J;clear a6
  go_wp2_with (at_lookup;refine Yf rfl (.tmp 58) (.tmp 59) 100 rfl Tryz.underlying9 Tryz.underlying100 Tryz.underlying3 (Tryz.zeroValue3 _) j k rfl t.out b0 rfl a7.out none i7.out ?_)
  exact⟨⟨g+1,by omega,by first | trivial | rfl,rfl,j4.out,Y.out,i9.out,g1.out⟩,nz⟩
 case some q=>
  have J:=a6.out;simp only at J;subst J;clear a6
  go_wp2_with (at_lookup;refine Yf rfl (.tmp 58) (.tmp 59) 100 rfl Tryz.underlying9 Tryz.underlying100 Tryz.underlying3 (Tryz.zeroValue3 _) j k rfl t.out b0 rfl a7.out (some a9) i7.out ?_)
  exact⟨⟨g+1,by omega,by first | trivial | rfl,rfl,j4.out,Y.out,i9.out,g1.out⟩,nz⟩
end Go.Proofs.YtejenndedjabhaaGreatDoor
