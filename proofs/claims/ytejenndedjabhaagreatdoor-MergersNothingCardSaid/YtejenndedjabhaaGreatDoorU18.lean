/- derive.forms: -/
import Derived.Test.YtejenndedjabhaaGreatDoorU16
set_option maxRecDepth 100000
set_option maxHeartbeats 16000000
namespace Go.Proofs.YtejenndedjabhaaGreatDoor
open Go.RowKit Go.Ab
attribute [local go_sem] Oper.semAt_some Z3 Qj
def Xz:List Q4->Wd->Nat->List (Nat × Wd)
 | [],u,i=>[(i,u)]
 | l::ls,u,i=>(i,u)::(if trE l u=0 then Xz ls (J4 l u) (i+1) else [])
def Ws:List PanicEntry:=[{ v:=.iface 193 (.int .i64 11),recovered:=false }]
def Gv(ls:List Q4)(ws:Wd):Option (List PanicEntry):=if (Zf ls ws).isSome=true then none else some Ws
def Q78(_:Nat)(x:Nat × Wd)(W:World)(ys:Array Value):Prop:=∃ v,ys=#[.int .i64 (x.1:Int),v]/\Qn W v x.2
theorem L1:∀(ls:List Q4) (ws:Wd) (i:Nat) (u:Wd),Zf ls ws=some u->∃ pre,Xz ls ws i=pre++[(i+ls.length,u)]
 | [],ws,i,u,h=>by cases h;exact⟨[],rfl⟩
 | l::ls,ws,i,u,h=>by
  unfold Zf at h
  split at h
  ·rename_i h0
   obtain⟨pre,hp⟩:=L1 ls _ (i+1) u h;refine⟨(i,ws)::pre,?_⟩;unfold Xz;rw [if_pos h0,hp,List.length_cons,show i+(ls.length+1)=i+1+ls.length by omega];rfl
  ·cases h
theorem L7(ls:List Q4)(u:Wd)(i:Nat):Xz ls u i=(i,u)::(Xz ls u i).tail:=by cases ls <;> rfl
theorem P3{A B:World}{v:Value}{u:Wd}{D l:Nat}{M:Option Addr}{L K:Nat}{t:TypeId}{fr:Nat × Nat}(h:Qn A v u)(g:Q0 (fun b=>b=D\/b=l) A B) (z:A.heap[D]?=some (.cells #[.slice M L K] t fr)) (F:∃ o,A.heap[l]?=some o/\o.isCells=false):Qn B v u:=by
 obtain⟨k,n,rfl,⟨⟨q,r,m,p,H,w⟩,x⟩,y⟩:=h;refine⟨k,n,rfl,⟨⟨q,r,m,p,H,fun hn=>?_⟩,x⟩,y⟩;obtain⟨c,e,C,E,d⟩:=w hn;have G:¬ (c=D\/c=l):=by
  rintro(rfl | rfl)
  ·have a:=d 0 oz;rw [Nat.add_zero] at a;unfold World.cell? at a;simp only [z] at a;cases e with
   | zero=>
    rw [List.getD_eq_getElem?_getD] at a;cases u with
    | nil=>simp at hn
    | cons s u=>simp [Qx] at a
   | succ e=>simp at a
  ·obtain⟨o,I,J⟩:=F;obtain⟨N,f,i⟩:=Gc (d 0 oz);simp only at f;rw [I] at f;cases f;rw [J] at i;cases i
 exact⟨c,e,C,Nat.lt_of_lt_of_le E g.size,fun j hj=>g.cell_some (d j hj) G⟩
theorem Q0g{w0 w:World}{BL BW D n:Nat}{ps:Ze}{lo:Option Addr}{lc:Nat}{vo:Option Addr}{vn vc:Nat}{ws:Wd}(d1:Ext w0 w)(u6:w0.heap.size<=D)(a9:Z5 w0 (.slice lo n lc) ps) (b0:ps.length=n) (m5:∀ p∈ps,Y9 p.1=true)
  (f2:Q5 w0 (.slice vo vn vc) ws) (f1:ws.length=vn) (f3:wE ws=0) (k9:Tab w0) (d8:w.heap[BL]?=some (.cells #[.slice lo n lc] 22 (0,0))) (l3:w.heap[BW]?=some (.cells #[.slice vo vn vc] 23 (0,0))) (m4:BL≠D) (t5:BW≠D) :
  Q5a Tryz.prog 175 #[.pointer (some ⟨BW,0,none⟩),.pointer (some ⟨BL,0,none⟩)] (fun _ _=>False) Q78 (Xz (ps.map (·.1)) ws 0) (Gv (ps.map (·.1)) ws) (fun b=>b=D) (fun A=>∃ so sn sc,A.heap[D]?=some (.cells #[.slice so sn sc] 23 (0,0))) w:=by
 intro f7 c6 u1 s5 z u9 u8 k6 t3 k3 d6 c9;have v1:=(Array.getElem?_eq_some_iff.1 d8).1;have l0:=z.heap d8 m4;have l4:=z.heap l3 t5;have d2:Ext w0 s5:=Q0.after d1 z (fun b hb Y=>by omega);have v0:=d1.size;have m7:ps.length<=maxLen:=a9.1.2.1;rw [b0] at m7;unfold maxLen at m7;have t7:ws.length<=32:=Jy f3;have n8:=f2.2;have l5:=fun(d:World) (i:Ext w0 d)=>Hs (f2.ext i) oz;have k7:∀ g A B,c6 g A->Ext A B->c6 g B:=fun g A B a6 he=>k6 g A B a6 (Ext.of he);have n1:∀ d,Ext w0 d->∀ B,Q0 (fun b=>b=D\/b=f7) d B->Ext w0 B:=fun d i B z=>Q0.after i z (fun b hb m=>by rcases m with m | m <;> omega);obtain⟨f,a1⟩:=zE (ps.map (·.1));obtain⟨E,d3⟩:=zE (Xz f ws 0);rw [a1,d3] at d6 ⊢
 have l9:∀ c (m1:c<n),∃ p,ps[c]?=some p/\Y9 p.1=true/\f[c]?=some p.1/\(∀ x∈p.1.outs,Je x):=fun c m1=>by
  have s:c<ps.length:=by omega
  refine⟨ps[c],List.getElem?_eq_getElem s,m5 _ (List.getElem_mem s),by rw [<-a1,List.getElem?_map,List.getElem?_eq_getElem s];rfl,?_⟩;obtain⟨_,_,_,_,_,_,_,_,_,t6⟩:=a9.2 _ (List.getElem_mem s);exact t6.2
 have m3:f.length=n:=by rw [<-a1,List.length_map,b0]
 obtain⟨q5,p9,g7,j1,g2,i3,q2,g5⟩:=Zh8 (fun(d:World) (i:Ext w0 d)=>a9.ext i) l5 k7 d6 k3 n1 l9 d3;obtain⟨c3,i6,s3,g6,r8,X,r4⟩:=Zh7 m3 n8 f3 c9 (fun(d:World) (i:Ext w0 d)=>k9.keep i id) f1 b0;rw [f1] at t7;clear a9 l5 k7 d6 k3 n1 l9 d3 m3 n8 f3 c9 k9 k6 t3 d1 f2 m5 a1 z d8 l3 f1 b0;show Calls _ _ #[.func (.yield f7) #[] #[],.pointer (some ⟨BW,0,none⟩),.pointer (some ⟨BL,0,none⟩)] _ _;go_enter Tryz.func175,Tryz.ntmps175;have t0:=cell_of_one l4;go_wp2_with fail;have d9:=p9.out _ d2;rw [X.out] at d9;refine d9.mono ?_;rintro Y f9 ⟨r,q,rfl,k8,a2⟩;have k4:Ext w0 f9:=d2.trans a2;have l1:=a2.keep l0;have C:Qn f9 (.slice r vn q) ws:=by have:=Qn.own (u:=ws) (by rw [X.out];exact k8) i6.out;rw [X.out] at this;exact this
 have e1:=g7.out _ _ _ g6.out a2;have f0:E=[]++(0,ws)::(Xz f ws 0).tail:=by
  rw [<-g5.out];cases f with
  | nil=>rfl
  | cons a b=>rfl
 obtain⟨t1,t9,s7,s8,f6,K⟩:=j1.out [] (0,ws) _ f9 #[.int .i64 0,.slice r vn q] f0 e1 ⟨_,rfl,C⟩;obtain⟨⟨so,sn,sc,I⟩,Q⟩:=g2.out _ _ e1;obtain⟨r7,H,G,g4,g1,S,W⟩:=Zh7 f0 K C k4 l1 I Q;clear K C k4 l1 I Q e1 f0 k8 a2 d9 t0 l0 l4 d2;go_upto_region 1 with (fail)
 refine(wpIn_wide (n:=0)).1 ?_;gi_wp2;refine H.out.mono ?_;rintro Y w2 (⟨rfl,Z,k⟩ | ⟨rfl,Z,k⟩);case inr=>
  gi_wp2;go_wp2;refine bodyPost_ret (results_none rfl _ _ _) rfl ?_;exact .inl ⟨⟨_,rfl⟩,.inr ⟨[],(0,ws),_,r7.out,Z⟩⟩
 have J:=i3.out _ g4.out _ k;have n3:=P3 G.out k S.out W.out;have l2:=k.heap g1.out (by rintro(m | m);exact m4 m;omega);obtain⟨i4,o,F⟩:=Zh3 n3 Z J;clear n3 Z J k H G g4 g1 S W f6;have s9:=cell_of_one l2;gi_wp2;go_wp2
 refine wp_loop (fun a d=>∃(c:Nat) (g:List (Nat × Wd)) (e:Wd) (r:Option Addr) (b5 q:Nat),a.defers=[]/\gS a [0,4,15,16,17]=(40,[.func (.yield f7) #[] #[],.slice r b5 q,.slice lo n lc,.int .i64 n,.int .i64 c])/\c<=n/\E=g++Xz (f.drop c) e c/\Zf (f.take c) ws=some e/\c6 (g++[(c,e)]) d/\Qn d (.slice r b5 q) e/\e.length=b5/\wE e=0/\Z8 e/\Ext w0 d)
  (fun a _=>((n:Int) - intOf (a.tmps.getD 17 undef)).toNat) ?_ ?_
 ·exact⟨0,[],ws,r,vn,q,rfl,rfl,Nat.zero_le _,by rw [<-g5.out];rfl,rfl,o.out,i4.out,X.out,s3.out,i6.out,F.out⟩
 clear i4 o F g6 s9 l2;rintro⟨w1,_⟩ d ⟨c,g,e,r,b5,q,t4,n2,m1,l8,l7,a6,C,n5,n9,o0,i⟩;subst t4;obtain⟨u,rfl⟩:=Qu n2;clear n2;obtain⟨c1,T,c2,G,s0,i7,i8,U⟩:=Zh8 l8 l7 a6 C n5 n9 o0 i;clear l8 l7 a6 C n5 n9 o0 i;by_cases e2:c<n;case neg=>
  obtain rfl:c=n:=by omega
  have s:¬ ((c:Int)<(c:Int)):=by omega
  have j:E=g++[(c,e)]:=by
   have:=c1.out;rw [List.drop_eq_nil_of_le (by rw [c3.out];exact Nat.le_refl _)] at this;exact this
  have O:Gv f ws=none:=by
   have:=T.out;rw [Q4r (by rw [c3.out];exact Nat.le_refl _)] at this;unfold Gv;rw [this];rfl
  have c5:=Zh j;have c0:=Zh O;clear j O;go_wp2;go_end0
  exact .inl ⟨⟨_,rfl⟩,.inl ⟨c0.out,by rw [c5.out];exact c2.out⟩⟩
 have s:(c:Int)<(n:Int):=by omega
 have c9:(0:Int)<=(c:Int):=by omega
 obtain⟨p,e4,e3,e5,e6⟩:=q2.out c e2;have m2:=q5.out d U.out;have k:c<ps.length:=by rw [r4.out];exact e2
 obtain⟨t2,t8,u4,R,u7,b1,a8,d0⟩:=m2.at k;have m6:ps[c]=p:=by rw [List.getElem?_eq_getElem k] at e4;exact Option.some.inj e4
 rw [m6] at b1 a8 d0;simp only [zV] at R;obtain⟨rfl,e7,rfl⟩:=R;obtain⟨b2,v3⟩:=p;dsimp only at b1 a8 d0 e3 e5 e6;obtain⟨p2,o5,p7,o7,p0,j6,j8,p3,j2,k0,o6,p8,o8,p1,j7,j9,p4,j3,k1,o4,j4,o3,p6,j5,p5,o9,M,g8,r3,r5,q3,r2,r1,q7,q8,q9,r0,q6,v4,v5,v6,v7,v8⟩:=X2 a8;subst M;have v2:IntKind.i64.wrap ((c:Int)+1)=(c:Int)+1:=IntWalk.i64_in _ oz;obtain⟨i2,i1,i0,g9⟩:=Zh4 b1 e6 e5 e3;clear e7 m6 e4 m2 a8 d0 k b1 e6 e5 e3 r3 r5 q3 r2 r1 q7 q8 q9 r0 q6;obtain⟨c7,a3⟩:=zE (d.alloc (.cells #[.string p2,.int .i64 o5,.int .u32 (p7:Int),.int .u32 (o7:Int),.bool p0,.int .i64 j6,.int .i64 j8,.slice p3 j2 k0,.int .i64 o6,.int .u32 (p8:Int),.int .u32 (o8:Int),.bool p1,.int .i64 j7,.int .i64 j9,.slice p4 j3 k1,.slice o4 j4 o3,.slice p6 j5 p5,.int .i64 o9] 50));have t:Ext d c7:=by rw [<-a3];exact(Q0.refl _ d).alloc _
 have f4:c7.heap[d.heap.size]?=some (.cells #[.string p2,.int .i64 o5,.int .u32 (p7:Int),.int .u32 (o7:Int),.bool p0,.int .i64 j6,.int .i64 j8,.slice p3 j2 k0,.int .i64 o6,.int .u32 (p8:Int),.int .u32 (o8:Int),.bool p1,.int .i64 j7,.int .i64 j9,.slice p4 j3 k1,.slice o4 j4 o3,.slice p6 j5 p5,.int .i64 o9] 50 (0,0)):=by rw [<-a3];exact new_at rfl
 obtain⟨s6,d5⟩:=zE d.heap.size;rw [d5] at f4;have i9:=Zh f4;have i5:=Zh a3;clear f4 a3;go_upto_region 5 with (refine W5 (by rfl) 50 (.tmp 20) rfl t2 (t8+c*18) zr _ _ i2.out Tryz.underlying50 rfl kz ?_)
 rw [i5.out];have u0:=Zh d5;clear d5;obtain⟨u3,u5,R,o1,l6⟩:=G.out;simp only [zV] at R;obtain⟨rfl,e7,rfl⟩:=R;have L:=Eq (g8.out.ext t) (o1.ext t) l6 (r8.out c7 (U.out.trans t));rw [s0.out] at L;have M:=Q3j g9.out i7.out;have a4:=Bz i1.out i8.out;have P:c<f.length:=by rw [c3.out];exact e2
 have a5:f[c]=b2:=by have:=i0.out;rw [List.getElem?_eq_getElem P] at this;exact Option.some.inj this
 have N:=Pd P ws;rw [T.out,Option.bind_some,a5] at N;have v:=c1.out;rw [List.drop_eq_getElem_cons P,a5] at v;have d7:trE b2 e≠0->Zf f ws=none:=fun m=>Q11 P T.out (by rw [a5];exact m);unfold Xz at v;obtain⟨g0,m8⟩:=zE (trE b2 e);rw [m8] at L M a4 N v d7;obtain⟨l,m9⟩:=zE (J4 b2 e);rw [m9] at L a4 N v;obtain⟨g3,b8,b7,b9,V,b6⟩:=Zh6 L M a4 N v d7;clear e7 L M a4 N v d7 a5 P m8 m9 o1 l6 G c1 T i0 i1 g9 i7 i8 g8 i2 i5
 go_wp2_with (refine wpList_load_row rfl 50 (.tmp 6) rfl s6 rfl _ _ _ _ i9.out Tryz.underlying50 rfl Tryz.lawInfo ?_)
 refine g3.out.mono ?_;rintro Y c8 ⟨v9,rfl,⟨b4,b3,rfl,e9,e8⟩,d4⟩;have J:Ext w0 c8:=U.out.trans (t.trans d4);have m0:=g7.out _ _ _ c2.out (t.trans d4);obtain⟨f8,y⟩:=zE l.length;rw [y] at e9 e8 ⊢;have n0:Qn c8 (.slice b4 f8 b3) l:=⟨b4,b3,by rw [y],by rw [y];exact e9,by rw [y];exact e8⟩;obtain⟨c4,o,F,r6⟩:=Zh4 n0 m0 J y;clear n0 m0 J y e9 e8 t d4 g3 i9 c2 U;by_cases k2:g0=0;case neg=>
  obtain rfl:g0=11:=b8.out.resolve_left k2;have j:=V.out;rw [if_neg zd] at j;have O:Gv f ws=some Ws:=by unfold Gv;rw [b6.out zd];rfl
  have c5:=Zh j;have c0:=Zh O;clear j O V b6 b9 b7 b8;go_wp2;refine⟨rfl,.inr ⟨Ws,c0.out,rfl,?_⟩⟩;rw [c5.out];exact o.out
 subst k2;have j:=V.out;rw [if_pos rfl,L7] at j;have e0:=b9.out;rw [if_pos rfl] at e0;obtain⟨n6,n7⟩:=b7.out rfl;obtain⟨q0,s1,s2⟩:=Zh3 e0 n6 n7;have f5:E=(g++[(c,e)])++(c+1,l)::(Xz (f.drop (c+1)) l (c+1)).tail:=by rw [j,List.append_assoc];rfl
 have o2:E=(g++[(c,e)])++Xz (f.drop (c+1)) l (c+1):=by rw [f5,<-L7]
 have j0:=Zh f5;have s4:=Zh o2;clear j e0 n6 n7 f5 o2 V b6 b9 b7 b8;obtain⟨t1,t9,s7,s8,f6,K⟩:=j1.out (g++[(c,e)]) (c+1,l) _ c8 #[.int .i64 ((c:Int)+1),.slice b4 f8 b3] j0.out o.out ⟨_,rfl,c4.out⟩;obtain⟨⟨so,sn,sc,I⟩,Q⟩:=g2.out _ _ o.out;obtain⟨H,S,W⟩:=Zh3 K I Q;clear K I Q;go_upto_region 8 with (fail)
 refine(wpIn_wide (n:=0)).1 ?_;gi_wp2;refine H.out.mono ?_;rintro Y u2 (⟨rfl,a0,a7⟩ | ⟨rfl,a0,a7⟩);case inr=>
  gi_wp2;go_wp2;refine bodyPost_ret (results_none rfl _ _ _) rfl ?_;exact .inl ⟨⟨_,rfl⟩,.inr ⟨g++[(c,e)],(c+1,l),_,j0.out,a0⟩⟩
 have k5:=i3.out _ F.out _ a7;have n4:=P3 c4.out a7 S.out W.out;obtain⟨r9,q4,q1⟩:=Zh3 n4 a0 k5;clear n4 a0 k5 a7 f6 H c4 o F;gi_wp2;go_wp2;exact⟨⟨c+1,g++[(c,e)],l,b4,f8,b3,tz,rfl,by omega,s4.out,q0.out,q4.out,r9.out,r6.out,s1.out,s2.out,q1.out⟩,mz⟩
theorem Ex(p:Addr)(a:List PanicEntry)(w:World)(x:Int)(b:w.cell? p=some (.int .i64 x)) (d:w.frozen? p=false) :
  CallsD Tryz.prog 144 #[.pointer (some p)] (.panicking ({ v:=.iface 193 (.int .i64 11),recovered:=false }::a)) w fun e u' w'=>
   e=.returned (.tuple #[])/\u'=.panicking ({ v:=.iface 193 (.int .i64 11),recovered:=true }::a)/\w'=w.setCell p (.int .i64 11):=by
 refine callsD_of_wpS Tryz.func144 rfl fun c₀ cs hu=>?_
 apply wpS_seq;apply wpS_region;simp [wpOpsS,go_sem,recoverD,hu,Tryz.ntmps144,Exit.thenS];refine wpS_of_wp ?_
 have c:∀(W:World),(Instr.typeAssert (.iface 193 (.int .i64 11)) 20 193 true).run Tryz.prog W=.ok (.tuple #[.int .i64 11,.bool true]) W:=fun W=>by
  simp [Instr.typeAssert,run_underlying Tryz.underlying193,go_sem,Result.andThen]
 go_wp2;simp [bodyPostS,results,Tryz.results144]
theorem Tr(p:Addr)(w:World) :
  CallsD Tryz.prog 144 #[.pointer (some p)] .returning w fun e u' w'=>e=.returned (.tuple #[])/\u'=.returning/\w'=w:=by
 refine callsD_of_wpS Tryz.func144 rfl fun c₀ cs hu=>?_
 apply wpS_seq;apply wpS_region;simp [wpOpsS,go_sem,recoverD,hu,Tryz.ntmps144,Exit.thenS];refine wpS_of_wp ?_;go_wp2;cases c₀
 simp_all [bodyPostS,results,Tryz.results144]
theorem Q2z(lo:Option Addr)(n lc:Nat)(vo:Option Addr)(vn vc:Nat)(w:World):Calls Tryz.prog 166 #[.slice lo n lc,.slice vo vn vc] w fun e w'=>
  e=.returned (.func (.func 175) #[] #[.pointer (some ⟨w.heap.size+1,0,none⟩),.pointer (some ⟨w.heap.size,0,none⟩)])/\w'=(w.alloc (.cells #[.slice lo n lc] 22)).alloc (.cells #[.slice vo vn vc] 23):=by
 have a:∀(fn:Fn) (first cap:Array Value) (w:World),(Instr.makeFunc fn first cap).run Tryz.prog w=.ok (.func fn first cap) w:=fun _ _ _ _=>rfl;go_enter Tryz.func166,Tryz.ntmps166;go_wp2;go_ret;exact⟨by simp,rfl⟩
theorem Dv{a:Func}{p:Tmp}{ty:TypeId}(h:a.results=#[.cell p ty]){tmps:Array Value}{w:World}{g:Nat}{ao:Option Addr}{n c:Nat}{t:TypeId}(j:tmps.getD p undef=.pointer (some ⟨g,0,none⟩)) (b:(Tryz.prog.underlying ty).map (fun d=>match d with | .slice _=>true | _=>false)=some true) (i:w.heap[g]?=some (.cells #[.slice ao n c] t (0,0))) :
  (results a tmps).run Tryz.prog w=.ok (.slice ao n c) w:=by
 have f:=cell_of_one i;have k:tmps[p]?.getD undef=.pointer (some ⟨g,0,none⟩):=by simpa using j
 cases hd:Tryz.prog.underlying ty with
 | none=>simp [hd] at b
 | some d=>
  cases d with
  | slice e=>simp [results,h,k,asAddr,loadVar,isAgg,run_underlying hd,go_sem,f]
  | _=>simp [hd] at b
theorem Kz{A B:World}{v:Value}{u:Wd}{D:Nat}{F:Option Addr}{E C:Nat}{t:TypeId}{fr:Nat × Nat}(h:Qn A v u)(f:Q0 (fun b=>b=D) A B) (r:A.heap[D]?=some (.cells #[.slice F E C] t fr)):Qn B v u:=by
 obtain⟨g,k,rfl,⟨⟨m,n,i,l,z,o⟩,p⟩,q⟩:=h;refine⟨g,k,rfl,⟨⟨m,n,i,l,z,fun hn=>?_⟩,p⟩,q⟩;obtain⟨d,c,w,x,e⟩:=o hn;have y:¬ d=D:=by
  rintro rfl;have a:=e 0 oz;rw [Nat.add_zero] at a;unfold World.cell? at a;simp only [r] at a;cases c with
  | zero=>
   rw [List.getD_eq_getElem?_getD] at a;cases u with
   | nil=>simp at hn
   | cons s u=>simp [Qx] at a
  | succ c=>simp at a
 exact⟨d,c,w,Nat.lt_of_lt_of_le x f.size,fun j hj=>f.cell_some (e j hj) y⟩
theorem L9{A B:World}{r:Nat}{v:Value}{u:Wd}(h:Qn A v u)(g:Q0 (fun b=>b=r) A B) (f:∃ o,A.heap[r]?=some o/\o.isCells=false):Qn B v u:=by
 obtain⟨c,d,rfl,a,e⟩:=h;exact⟨c,d,rfl,⟨Rd.nocells g f a.1,a.2⟩,e⟩
theorem Ti{w:World}{ps:Ze}{lo:Option Addr}{n lc:Nat}{vo:Option Addr}{vn vc:Nat}{ws:Wd}(b9:Z5 w (.slice lo n lc) ps) (c0:ps.length=n) (c1:∀ p∈ps,Y9 p.1=true) (c7:Q5 w (.slice vo vn vc) ws) (c6:ws.length=vn) (c8:wE ws=0) (a9:Tab w) :
  Calls Tryz.prog 145 #[.slice lo n lc,.slice vo vn vc] w fun e w'=>(∃ u v,Zf (ps.map (·.1)) ws=some u/\e=.returned v/\Qn w' v u/\Ext w w')\/(Zf (ps.map (·.1)) ws=none/\e=.panicked Ws/\Ext w w'):=by
 have b6:=fun(l:World) (hE:Ext w l) (BL BW D:Nat) (I:w.heap.size<=D)=>Q0g (w0:=w) (w:=l) (BL:=BL) (BW:=BW) (D:=D) hE I b9 c0 c1 c7 c6 c8 a9;have H:=Zh b6;clear b6 b9 c0 c1 c7 c6 c8 a9;obtain⟨P,a8⟩:=zE (ps.map (·.1));rw [a8] at H ⊢;have R:=L1 P ws 0;obtain⟨c9,a6⟩:=zE (Xz P ws 0);rw [a6] at H R;obtain⟨T,U⟩:=zE (Zf P ws);have b5:Gv P ws=if T.isSome=true then none else some Ws:=by unfold Gv;rw [U]
 rw [b5] at H;rw [U] at R ⊢;have a2:=Zh R;clear a8 a6 U b5 R;refine Zr Tryz.func145 rfl ?_;simp only [Tryz.ntmps145,zS,Nat.reduceAdd,Nat.reduceSub];go_upto_region 1 with (fail)
 obtain⟨F,s⟩:=zE (w.alloc (.cells #[.slice none 0 0] 23));have a5:Ext w F:=by rw [<-s];exact(Q0.refl _ w).alloc _
 have Y:F.heap[w.heap.size]?=some (.cells #[.slice none 0 0] 23 (0,0)):=by rw [<-s];exact new_at rfl
 have C:F.heap.size=w.heap.size+1:=by rw [<-s];simp
 rw [s];obtain⟨D,I⟩:=zE w.heap.size;rw [I] at Y C ⊢;have B:=Zh I;clear s I;go_wp2_with fail;refine(Q2z lo n lc vo vn vc F).mono ?_;rintro e l ⟨rfl,z⟩;rw [C];have W:Ext F l:=by rw [z];exact((Q0.refl _ F).alloc _).alloc _
 have b1:l.heap[D+1]?=some (.cells #[.slice lo n lc] 22 (0,0)):=by rw [z];exact Q8 (new_at C.symm)
 have b2:l.heap[D+1+1]?=some (.cells #[.slice vo vn vc] 23 (0,0)):=by rw [z];exact new_at (by simp [C])
 have b3:=W.keep Y;have e1:l.heap.size=D+3:=by rw [z];simp [C]
 have X:=a5.trans W;have b7:=H.out l X (D+1) (D+1+1) D (by have:=B.out;omega) b1 b2 oz oz;obtain⟨a4,d0,d1⟩:=Zh3 b7 b3 X;clear z W b1 b2 b3 X b7 H a5 Y C;go_wp2_with fail
 refine Q2h (xs:=c9) rfl (enters_of Tryz.func175 kz rfl) a4.out (fun b d=>by omega) (fun _ a O G d=>by obtain⟨v,rfl,_⟩:=d;rfl) ?hEs
  (fun N c=>∃ j i g,c.heap[D]?=some (.cells #[.slice j i g] 23 (0,0))/\Ext w c/\(∀ A a,N=A++[a]->Qn c (.slice j i g) a.2))
  (fun _ _ _=>False) ?hC ?hI ?hIx ?h0 (fun G t=>(t.setIfInBounds 8 (G.getD 0 undef)).setIfInBounds 9 (G.getD 1 undef)) ?assign ?body ?pan ?done ?stop
 case hEs=>
  rintro _ a O a1 G ⟨v,rfl,a0⟩ S Z;exact⟨v,rfl,L9 a0 S Z⟩
 case hC=>
  rintro N O ⟨j,i,g,d,_⟩;exact⟨j,i,g,d⟩
 case hI=>
  rintro N O a1 ⟨j,i,g,f,k,x⟩ S Z;have r:Q0 (fun b=>b=l.heap.size+1) O a1:=S.mono fun b _ d=>d.elim (fun d=>d.2.elim) id;exact⟨j,i,g,r.heap f oz,Q0.after k r (fun b hb d=>by have:=B.out;omega),fun A a E=>L9 (x A a E) r Z⟩
 case hIx=>exact fun _ _ _ _ d=>d.elim
 case h0=>
  intro c b0 _;exact⟨none,0,0,b0.keep d0.out,d1.out.trans b0,fun A a E=>by have:=congrArg List.length E;simp at this⟩
 case assign=>
  rintro _ N a e2 G c e3 E ⟨j,i,g,f,k,x⟩ ⟨v,rfl,a0⟩ a7;obtain⟨m,o,rfl,c5⟩:=a0;have d6:=cell_of_one f;have d8:=free_of_one f;have q:Q0 (fun b=>b=D) c (c.setCell ⟨D,0,none⟩ (.slice m a.2.length o)):=Q0.set1 c D 0 _;have K:(c.setCell ⟨D,0,none⟩ (.slice m a.2.length o)).heap[D]?=some (.cells #[.slice m a.2.length o] 23 (0,0)):=by
   simp only [World.setCell,Array.getElem?_modify,f];simp
  have M:Qn (c.setCell ⟨D,0,none⟩ (.slice m a.2.length o)) (.slice m a.2.length o) a.2:=Kz ⟨m,o,rfl,c5⟩ q f
  have b8:=a7 _ q ⟨m,_,o,K,Q0.after k q (fun b hb d=>by have:=B.out;omega),fun A y hy=>by
   obtain⟨_,rfl⟩:=List.append_inj' hy rfl |>.imp id (fun d=>(List.cons.inj d).1);exact M⟩
  have d3:=Zh b8;clear b8 a7 q K M k x c5 E;gi_wp2;exact d3.out
 case body=>
  rintro N a e2 G c E c4 S d9;refine wpIn_block ?_;gi_wp2;exact⟨Q0.refl _ _,d9⟩
 case pan=>
  rintro d7 c J ⟨j,i,g,f,k,x⟩ Q c4;have L:Qt D ({ target:=.collected l.heap.size,args:=#[] }::[]) c:=Qt.cons (base:=D) trivial oz Q (fun e he=>by cases he);cases T with
  | some u=>simp at J
  | none=>
   obtain rfl:Ws=d7:=by simpa using J
   refine M5 L (fun w' r hs=>.inr ⟨rfl,rfl,?_⟩);exact Q0.after k r (fun b f k=>by have:=k.1;have:=B.out;omega)
 case done=>
  rintro J c ⟨j,i,g,f,k,x⟩ Q c4;cases T with
  | none=>simp at J
  | some u=>
   obtain⟨A,c3⟩:=a2.out u rfl;have M:=x A _ c3;have d6:=cell_of_one f;have d8:=free_of_one f;have q:Q0 (fun b=>b=D) c (c.setCell ⟨D,0,none⟩ (.slice j i g)):=Q0.set1 c D 0 _;have K:(c.setCell ⟨D,0,none⟩ (.slice j i g)).heap[D]?=some (.cells #[.slice j i g] 23 (0,0)):=by
    simp only [World.setCell,Array.getElem?_modify,f];simp
   have c2:=Kz M q f;have b4:=Q0.after k q (fun b hb d=>by have:=B.out;omega);have L:Qt D ({ target:=.collected l.heap.size,args:=#[] }::[]) (c.setCell ⟨D,0,none⟩ (.slice j i g)):=Qt.cons (base:=D) trivial oz (q.heap Q oz) (fun e he=>by cases he);rw [e1] at L;obtain⟨a3,d5,d2,d4⟩:=Zh4 K c2 b4 L;clear K M c2 b4 L q f k x c3 J Q a2 a4;go_wp2;refine J8 (v:=.slice j i g) _ _ d4.out fun w' r hs=>⟨Dv rfl rfl kz (r.heap a3.out (Shut.not a3.out rfl)),⟨_,rfl,?_,?_⟩⟩
   ·obtain⟨m,o,e0,s,z⟩:=d5.out;exact⟨m,o,e0,⟨Rd.shut r s.1,s.2⟩,z⟩
   ·exact Q0.after d2.out r (fun b f k=>by have:=k.1;have:=B.out;omega)
 case stop=>exact fun _ _ _ _ _ _ d=>d.elim
theorem Q44{w:World}{p:Option Wd}{E BL BW a:Nat}{lo:Option Addr}{n lc:Nat}{vo:Option Addr}{vn vc:Nat}{O:Option Addr}{N M:Nat}(A:w.heap[E]?=some (.cells #[.int .i64 0] 32 (0,0))) (C:w.heap[BL]?=some (.cells #[.slice lo n lc] 22 (0,0))) (G:w.heap[BW]?=some (.cells #[.slice vo vn vc] 23 (0,0))) (D:w.heap[a]?=some (.cells #[.slice O N M] 23 (0,0))) (I:E≠a)
  (H:Calls Tryz.prog 145 #[.slice lo n lc,.slice vo vn vc] w fun e w'=>(∃ u v,p=some u/\e=.returned v/\Qn w' v u/\Ext w w')\/(p=none/\e=.panicked Ws/\Ext w w')) :
  Calls Tryz.prog 143 #[.pointer (some ⟨E,0,none⟩),.pointer (some ⟨BL,0,none⟩),.pointer (some ⟨BW,0,none⟩),.pointer (some ⟨a,0,none⟩)] w fun e w'=>e=.returned (.tuple #[])/\Q0 (fun b=>b=E\/b=a) w w' /\
   ∃ so' sn' sc',w'.heap[a]?=some (.cells #[.slice so' sn' sc'] 23 (0,0))/\((∃ u,p=some u/\Qn w' (.slice so' sn' sc') u/\w'.heap[E]?=some (.cells #[.int .i64 0] 32 (0,0)))\/(p=none/\w'.heap[E]?=some (.cells #[.int .i64 11] 32 (0,0)))):=by
 have y:=cell_of_one C;have z:=cell_of_one G;obtain⟨q,r,s⟩:=Zh3 A D H;clear A C G D H
 go_enter_defers Tryz.func143,Tryz.ntmps143
 go_wp2_with fail;refine s.out.mono ?_;rintro e c (⟨u,v,rfl,rfl,U,d⟩ | ⟨rfl,rfl,d⟩)
 ·obtain⟨k,l,rfl,K,L⟩:=U;have g:=d.keep r.out;have j:=d.keep q.out;have X:=cell_of_one g;have Y:=free_of_one g;have i:Q0 (fun b=>b=a) c (c.setCell ⟨a,0,none⟩ (.slice k u.length l)):=Q0.set1 c a 0 _;have o:(c.setCell ⟨a,0,none⟩ (.slice k u.length l)).heap[a]?=some (.cells #[.slice k u.length l] 23 (0,0)):=by
   simp only [World.setCell,Array.getElem?_modify,g];simp
  have J:=Kz ⟨k,l,rfl,K,L⟩ i g;have B:=i.heap j I;have m:Q0 (fun b=>b=E\/b=a) w (c.setCell ⟨a,0,none⟩ (.slice k u.length l)):=(Ext.of d).trans (i.mono fun b _ h=>.inr h);obtain⟨t,R,P,x⟩:=Zh4 o J B m;clear o J B m i g j K L d s y z q r;go_wp2;refine leaves_cons (f:=144) (args:=#[.pointer (some ⟨E,0,none⟩)]) zy (by simp [go_sem]) ?_;refine(Tr _ _).mono ?_;rintro e V W ⟨rfl,rfl,rfl⟩;refine⟨.tuple #[],results_none rfl _ _ _,rfl,x.out,k,_,l,t.out,.inl ⟨u,rfl,R.out,P.out⟩⟩
 ·have g:=d.keep r.out;have j:=d.keep q.out;have S:=cell_of_one j;have T:=free_of_one j;have i:Q0 (fun b=>b=E) c (c.setCell ⟨E,0,none⟩ (.int .i64 11)):=Q0.set1 c E 0 _;have o:(c.setCell ⟨E,0,none⟩ (.int .i64 11)).heap[E]?=some (.cells #[.int .i64 11] 32 (0,0)):=by
   simp only [World.setCell,Array.getElem?_modify,j];simp
  have F:=i.heap g (fun h=>I h.symm);have m:Q0 (fun b=>b=E\/b=a) w (c.setCell ⟨E,0,none⟩ (.int .i64 11)):=(Ext.of d).trans (i.mono fun b _ h=>.inl h);obtain⟨t,Q,x⟩:=Zh3 o F m;clear o F m i g j d s y z q r;go_wp2;refine leaves_cons (f:=144) (args:=#[.pointer (some ⟨E,0,none⟩)]) zy (by simp [go_sem]) ?_;refine(Ex _ [] _ 0 S T).mono ?_;rintro e V W ⟨rfl,rfl,rfl⟩;simp [Leaves,settle,results,Tryz.results143,go_sem];exact⟨x.out,⟨O,N,M,Q.out⟩,t.out⟩
theorem Lh{a:Func}{p q:Tmp}{ty:TypeId}(h:a.results=#[.cell p ty,.tmp q]){tmps:Array Value}{w:World}{g:Nat}{ao:Option Addr}{n c:Nat}{t:TypeId}{x:Value}(j:tmps.getD p undef=.pointer (some ⟨g,0,none⟩)) (l:tmps.getD q undef=x) (b:(Tryz.prog.underlying ty).map (fun d=>match d with | .slice _=>true | _=>false)=some true) (i:w.heap[g]?=some (.cells #[.slice ao n c] t (0,0))) :
  (results a tmps).run Tryz.prog w=.ok (.tuple #[.slice ao n c,x]) w:=by
 have f:=cell_of_one i;have k:tmps[p]?.getD undef=.pointer (some ⟨g,0,none⟩):=by simpa using j
 have m:tmps[q]?.getD undef=x:=by simpa using l
 cases hd:Tryz.prog.underlying ty with
 | none=>simp [hd] at b
 | some d=>
  cases d with
  | slice e=>simp [results,h,k,m,asAddr,loadVar,isAgg,run_underlying hd,go_sem,f]
  | _=>simp [hd] at b
theorem Bf{w:World}{ps:Ze}{lo:Option Addr}{n lc:Nat}{vo:Option Addr}{vn vc:Nat}{ws:Wd}(b0:Z5 w (.slice lo n lc) ps) (b1:ps.length=n) (b2:∀ p∈ps,Y9 p.1=true) (b6:Q5 w (.slice vo vn vc) ws) (b5:ws.length=vn) (b7:wE ws=0) (a7:Tab w) :
  Calls Tryz.prog 107 #[.slice lo n lc,.slice vo vn vc] w fun e w'=>∃ ao an c,e=.returned (.tuple #[.slice ao an c,.bool (Zf (ps.map (·.1)) ws).isSome])/\(∀ u,Zf (ps.map (·.1)) ws=some u->Qn w' (.slice ao an c) u)/\Ext w w':=by
 have b4:=fun(V:World) (hE:Ext w V)=>Ti (b0.ext hE) b1 b2 (b6.ext hE) b5 b7 (a7.keep hE id);have N:=Zh b4;clear b4 b0 b1 b2 b6 b5 b7 a7;obtain⟨c1,a3⟩:=zE (Zf (ps.map (·.1)) ws);rw [a3] at N ⊢;clear a3;have c2:∀(fn:Fn) (first cap:Array Value) (w:World),(Instr.makeFunc fn first cap).run Tryz.prog w=.ok (.func fn first cap) w:=fun _ _ _ _=>rfl;go_enter Tryz.func107,Tryz.ntmps107;go_upto_region 2 with (fail)
 obtain⟨C,A⟩:=zE ((((w.alloc (.cells #[.slice lo n lc] 22)).alloc (.cells #[.slice vo vn vc] 23)).alloc (.cells #[.slice none 0 0] 23)).alloc (.cells #[.int .i64 0] 32));have a4:Ext w C:=by rw [<-A];exact((((Q0.refl _ w).alloc _).alloc _).alloc _).alloc _
 have O:C.heap[w.heap.size]?=some (.cells #[.slice lo n lc] 22 (0,0)):=by rw [<-A];exact Q8 (Q8 (Q8 (new_at rfl)))
 have P:C.heap[w.heap.size+1]?=some (.cells #[.slice vo vn vc] 23 (0,0)):=by rw [<-A];exact Q8 (Q8 (new_at zy))
 have y:C.heap[w.heap.size+1+1]?=some (.cells #[.slice none 0 0] 23 (0,0)):=by rw [<-A];exact Q8 (new_at zy)
 have Q:C.heap[w.heap.size+1+1+1]?=some (.cells #[.int .i64 0] 32 (0,0)):=by rw [<-A];exact new_at zy
 rw [A];obtain⟨f,R⟩:=zE w.heap.size;rw [R] at O P y Q ⊢;obtain⟨I,W,X,Y,Z,L⟩:=Zh6 R O P y Q a4;clear A R O P y Q a4;go_wp2_with fail;refine(Q44 Z.out W.out X.out Y.out oz (N.out C L.out)).mono ?_;rintro e B ⟨rfl,a8,m,l,k,a6,a9⟩;have a5:Ext w B:=Q0.after L.out a8 (fun b hb E=>by have:=I.out;rcases E with E | E <;> omega);obtain⟨a0,a1,J⟩:=Zh3 a5 a6 a9;clear a8 a5 a6 a9 N W X Y Z L;rcases J.out with ⟨u,T,b3,U⟩ | ⟨T,U⟩
 ·subst T;have b8:=Zh b3;clear b3 J;have M:=Zh U;go_upto_region 3 with (fail)
  obtain⟨j,r⟩:=zE B.drew;have q:Ext B j:=by rw [<-r];exact(Q0.refl _ B).drew
  have g:j.heap[f+1+1]?=some (.cells #[.slice m l k] 23 (0,0))/\j.heap[f+1+1+1]?=some (.cells #[.int .i64 0] 32 (0,0)):=⟨q.keep a1.out,q.keep M.out⟩;refine Ya (S:=fun D=>D.heap[f+1+1]?=some (.cells #[.slice m l k] 23 (0,0))/\D.heap[f+1+1+1]?=some (.cells #[.int .i64 0] 32 (0,0))) [] kz (by rw [r];exact g) ?_;intro _;rw [r];clear r;refine tkE (i:=0) (d:=9) (v:=?_) rfl (Or.inl ⟨by rfl,?_⟩) g ?_;rotate_left
  ·intro w a;(try dsimp only at a);have o:=cell_of_one a.1;have t:=cell_of_one a.2;go_simp;try with_reducible rfl
  try simp only [Act.put,pq]
  refine tkE (i:=1) (d:=10) (v:=?_) rfl (Or.inl ⟨by rfl,?_⟩) g ?_;rotate_left
  ·intro w a;(try dsimp only at a);have o:=cell_of_one a.1;have t:=cell_of_one a.2;go_simp;try with_reducible rfl
  try simp only [Act.put,pq]
  refine tkE (i:=2) (d:=11) (v:=?_) rfl (Or.inl ⟨by rfl,?_⟩) g ?_;rotate_left
  ·intro w a;(try dsimp only at a);have o:=cell_of_one a.1;have t:=cell_of_one a.2;go_simp;try with_reducible rfl
  try simp only [Act.put,pq]
  have o:=cell_of_one g.1;have b9:=free_of_one g.1;have z:Q0 (fun b=>b=f+1+1) j (j.setCell ⟨f+1+1,0,none⟩ (.slice m l k)):=Q0.set1 j (f+1+1) 0 _;have F:(j.setCell ⟨f+1+1,0,none⟩ (.slice m l k)).heap[f+1+1]?=some (.cells #[.slice m l k] 23 (0,0))/\(j.setCell ⟨f+1+1,0,none⟩ (.slice m l k)).heap[f+1+1+1]?=some (.cells #[.int .i64 0] 32 (0,0)):=⟨by simp only [World.setCell,Array.getElem?_modify,g.1];simp,z.heap g.2 oz⟩;obtain⟨s,H,G,a2⟩:=Zh4 F z q g;clear F z q g;refine rE [3] ?_;refine Q1.cons rfl (fun K hK=>?_) Q1.nil;refine iw rfl ?_;go_simp;refine hK.out _ _ s.out (fun _=>?_);clear hK K
  (try simp only [Act.put,pq])
  refine tkE (i:=4) (d:=5) (v:=?_) rfl (Or.inl ⟨by rfl,?_⟩) s.out ?_;rotate_left
  ·intro w a;(try dsimp only at a);have o:=cell_of_one a.1;have t:=cell_of_one a.2;go_simp;try with_reducible rfl
  try simp only [Act.put,pq]
  refine Z0 kz ?_ _;go_wp2;have c0:=Kz ((b8.out).ext G.out) H.out a2.out.1;refine bodyPost_ret (Lh rfl rfl rfl kz s.out.1) rfl ⟨m,l,k,rfl,fun u2 y=>?_,?_⟩
  ·cases y;exact c0
  ·exact Q0.after (a0.out.trans G.out) H.out (fun b hb E=>by have:=I.out;omega)
 ·subst T;clear J;have M:=Zh U;go_upto_region 3 with (fail)
  obtain⟨j,r⟩:=zE B.drew;have q:Ext B j:=by rw [<-r];exact(Q0.refl _ B).drew
  have g:j.heap[f+1+1]?=some (.cells #[.slice m l k] 23 (0,0))/\j.heap[f+1+1+1]?=some (.cells #[.int .i64 11] 32 (0,0)):=⟨q.keep a1.out,q.keep M.out⟩;refine Ya (S:=fun D=>D.heap[f+1+1]?=some (.cells #[.slice m l k] 23 (0,0))/\D.heap[f+1+1+1]?=some (.cells #[.int .i64 11] 32 (0,0))) [] kz (by rw [r];exact g) ?_;intro _;rw [r];clear r;refine tkE (i:=0) (d:=9) (v:=?_) rfl (Or.inl ⟨by rfl,?_⟩) g ?_;rotate_left
  ·intro w a;(try dsimp only at a);have o:=cell_of_one a.1;have t:=cell_of_one a.2;go_simp;try with_reducible rfl
  try simp only [Act.put,pq]
  refine tkE (i:=1) (d:=10) (v:=?_) rfl (Or.inl ⟨by rfl,?_⟩) g ?_;rotate_left
  ·intro w a;(try dsimp only at a);have o:=cell_of_one a.1;have t:=cell_of_one a.2;go_simp;try with_reducible rfl
  try simp only [Act.put,pq]
  refine tkE (i:=2) (d:=11) (v:=?_) rfl (Or.inl ⟨by rfl,?_⟩) g ?_;rotate_left
  ·intro w a;(try dsimp only at a);have o:=cell_of_one a.1;have t:=cell_of_one a.2;go_simp;try with_reducible rfl
  try simp only [Act.put,pq]
  have o:=cell_of_one g.1;have b9:=free_of_one g.1;have z:Q0 (fun b=>b=f+1+1) j (j.setCell ⟨f+1+1,0,none⟩ (.slice m l k)):=Q0.set1 j (f+1+1) 0 _;have F:(j.setCell ⟨f+1+1,0,none⟩ (.slice m l k)).heap[f+1+1]?=some (.cells #[.slice m l k] 23 (0,0))/\(j.setCell ⟨f+1+1,0,none⟩ (.slice m l k)).heap[f+1+1+1]?=some (.cells #[.int .i64 11] 32 (0,0)):=⟨by simp only [World.setCell,Array.getElem?_modify,g.1];simp,z.heap g.2 oz⟩;obtain⟨s,H,G,a2⟩:=Zh4 F z q g;clear F z q g;refine rE [3] ?_;refine Q1.cons rfl (fun K hK=>?_) Q1.nil;refine iw rfl ?_;go_simp;refine hK.out _ _ s.out (fun _=>?_);clear hK K
  (try simp only [Act.put,pq])
  refine tkE (i:=4) (d:=5) (v:=?_) rfl (Or.inl ⟨by rfl,?_⟩) s.out ?_;rotate_left
  ·intro w a;(try dsimp only at a);have o:=cell_of_one a.1;have t:=cell_of_one a.2;go_simp;try with_reducible rfl
  try simp only [Act.put,pq]
  refine Z0 kz ?_ _;go_wp2;refine bodyPost_ret (Lh rfl rfl rfl kz s.out.1) rfl ⟨m,l,k,rfl,fun u2 y=>(by cases y),?_⟩;exact Q0.after (a0.out.trans G.out) H.out (fun b hb E=>by have:=I.out;omega)
theorem Ew{w:World}{ps:Ze}{lo:Option Addr}{n lc:Nat}{vo:Option Addr}{vn vc:Nat}{ws:Wd}{g:Nat}(H:Z5 w (.slice lo n lc) ps) (I:ps.length=n) (M:Q5 w (.slice vo vn vc) ws) (E:w.heap[g]?=some (.cells #[.slice vo vn vc] 23 (0,0))) (D:Tab w) :
  Calls Tryz.prog 106 #[.slice lo n lc,.slice (some ⟨g,0,none⟩) 1 1] w fun e w'=>e=.returned (.int .i64 (Zz (ps.map (·.1)) ws))/\Ext w w':=by
 have v:=fun(V:World) (b:Ext w V)=>Gi (H.ext b) I (D.keep b id);have z:=fun(V:World) (b:Ext w V)=>Vh (M.ext b);unfold Zz;obtain⟨c,s⟩:=zE (Qz (ps.map (·.1)));obtain⟨d,t⟩:=zE (wE ws);simp only [s] at v;simp only [t] at z;rw [s,t];obtain⟨l,m⟩:=zE (if c=0 then d else c);have J:c≠0->l=c:=fun h=>by rw [<-m,if_neg h]
 have K:c=0->l=d:=fun h=>by rw [<-m,if_pos h]
 rw [m];have N:=Zh J;have O:=Zh K;clear m J K;obtain⟨o,k,j⟩:=Zh3 v z E;clear v z s t H I M E D;go_enter Tryz.func106,Tryz.ntmps106;go_wp2_with fail;refine(o.out _ (Q0.refl _ _)).mono ?_;rintro e Y ⟨rfl,r⟩;by_cases q:c=0;case neg=>
  have Q:(c != 0)=true:=by rw [bne_iff_ne];exact q
  have y:c=l:=(N.out q).symm;subst y;clear o k j;go_wp2;go_ret;exact⟨rfl,r⟩
 subst q;have y:d=l:=(O.out uz).symm;subst y;have i:=Zh r;clear r o;go_wp2
 refine wp_loop (fun a A=>∃(f:Nat),f<=1/\a.defers=[]/\gS a [17,18,19]=(29,[.slice (some ⟨g,0,none⟩) 1 1,.int .i64 1,.int .i64 f])/\(f=1->d=0)/\Ext w A)
  (fun a _=>(1 - intOf (a.tmps.getD 19 undef)).toNat) ?_ ?_
 ·exact⟨0,by omega,rfl,rfl,fun h=>by omega,i.out⟩
 clear i;rintro⟨W,_⟩ A ⟨f,U,R,L,u,b⟩;subst R;obtain⟨X,rfl⟩:=Qu L;clear L;by_cases G:f=0;case neg=>
  obtain rfl:f=1:=by omega
  have S:=u rfl;subst S;clear u k j G;go_wp2;go_ret;exact⟨rfl,b⟩
 subst G;clear u;have F:=b.keep j.out;have P:=cell_of_one F;have p:=Zh b;clear b F;go_wp2_with fail;refine(k.out _ p.out).mono ?_;rintro e T ⟨rfl,C⟩;have i:=Zh (p.out.trans C);clear C p P k j;by_cases B:d=0;case neg=>
  have Q:(d != 0)=true:=by rw [bne_iff_ne];exact B
  go_wp2;go_ret;exact⟨rfl,i.out⟩
 subst B;go_wp2;exact⟨⟨1,by omega,tz,rfl,fun _=>by first | trivial | rfl,i.out⟩,by simp [intOf]⟩
theorem Td(W:World):Qn W (.slice none 0 0) []:=⟨none,0,rfl,⟨⟨rfl,by simp [maxLen],none,0,rfl,fun h=>by simp at h⟩,by simp [Z8]⟩,Nat.le_refl _⟩
theorem Gh{w:World}{ps:Ze}{lo:Option Addr}{n lc:Nat}{vo:Option Addr}{vn vc:Nat}{ws:Wd}(A:Z5 w (.slice lo n lc) ps) (B:ps.length=n) (C:Q5 w (.slice vo vn vc) ws) (P:ws.length=vn) (y:Tab w) :
  Calls Tryz.prog 62 #[.slice lo n lc,.slice vo vn vc] w fun e w'=>∃ v,e=.returned (.tuple #[v,.int .i64 (Xu (ps.map (·.1)) ws)])/\Qn w' v (X5 (ps.map (·.1)) ws)/\Ext w w':=by
 have z:=fun(V:World) (hE:Ext w V) (g:Nat) (hg:V.heap[g]?=some (.cells #[.slice vo vn vc] 23 (0,0)))=>Ew (A.ext hE) B (C.ext hE) hg (y.keep hE id);have c:=fun(V:World) (hE:Ext w V) (hok:∀ p∈ps,Y9 p.1=true) (hwE:wE ws=0)=>Bf (A.ext hE) B hok (C.ext hE) P hwE (y.keep hE id)
 have D:Zz (ps.map (·.1)) ws=0->(∀ p∈ps,Y9 p.1=true)/\wE ws=0:=fun h=>by
  unfold Zz at h
  split at h
  ·rename_i b
   unfold Qz at b
   split at b
   ·cases b
   ·split at b
    ·rename_i J
     rw [List.all_map,List.all_eq_true] at J;exact⟨J,h⟩
    ·cases b
  ·contradiction
 have i:=@T6 (ps.map (·.1)) ws;have d:=@Dt (ps.map (·.1)) ws;have f:=fun v=>@Hg (ps.map (·.1)) ws v;obtain⟨F,a⟩:=zE (Zz (ps.map (·.1)) ws);simp only [a] at z D i d f;clear a;obtain⟨S,a⟩:=zE (Zf (ps.map (·.1)) ws);simp only [a] at c d f;clear a;obtain⟨W,a⟩:=zE (Xu (ps.map (·.1)) ws);simp only [a] at i d f ⊢;clear a;obtain⟨X,a⟩:=zE (X5 (ps.map (·.1)) ws);simp only [a] at i d f ⊢;clear a;obtain⟨H,o,s,q,k,l⟩:=Zh6 z c D i d f;clear z c D i d f A B C P y;go_enter Tryz.func62,Tryz.ntmps62;go_wp2_with fail;obtain⟨E,m⟩:=zE (w.alloc (.cells #[.slice vo vn vc] 23));have t:Ext w E:=by rw [<-m];exact(Q0.refl _ w).alloc _
 have M:E.heap[w.heap.size]?=some (.cells #[.slice vo vn vc] 23 (0,0)):=by rw [<-m];exact new_at rfl
 rw [m];refine(H.out E t w.heap.size M).mono ?_;rintro e U ⟨rfl,K⟩;have j:=Zh (t.trans K);clear m M t K H;by_cases b:F=0;case neg=>
  have a1:(F != 0)=true:=by rw [bne_iff_ne];exact b
  obtain⟨rfl,rfl⟩:=q.out b;clear o s q k l;go_wp2;go_ret2;exact⟨_,rfl,Td _,j.out⟩
 subst b;obtain⟨Q,R⟩:=s.out uz;have c:=o.out U j.out Q R;have G:=Zh c;clear c Q R o s q;go_wp2_with fail;refine G.out.mono ?_;rintro e a2 ⟨Z,Y,a0,rfl,N,L⟩;have I:=Zh (j.out.trans L);have r:=Zh N;clear L N G j;cases S with
 | none=>
  obtain⟨rfl,rfl⟩:=k.out uz rfl;clear k l r;go_wp2;go_ret2;exact⟨_,rfl,Td _,I.out⟩
 | some u=>
  obtain⟨rfl,rfl⟩:=l.out u uz rfl;have O:=r.out _ rfl;have T:=Zh O;clear k l r O;go_wp2;go_ret2;exact⟨_,rfl,T.out,I.out⟩
theorem Pf(a b:Wd)(s:Nat × Nat):(Qg a b s).length=a.length+1+b.length:=by simp [Qg];omega
theorem Gs{a b:Wd}{s:Nat × Nat}(e:Z8 a)(f:Z8 b)(g:Qd s):Z8 (Qg a b s):=by
 intro d c;unfold Qg at c;rcases List.mem_append.1 c with c | c
 ·rcases List.mem_append.1 c with c | c
  ·exact e d c
  ·rw [List.mem_singleton] at c;subst c;exact g
 ·exact f d c
theorem Q1x{w:World}{f g:Value}{a b:Wd}{s:Nat × Nat}{P Q:Nat}{T:TypeId}(q:Q5 w f a)(r:Q5 w g b)(y:Qd s)(c:w.heap[P]?=some (.cells #[.int .u32 s.1,.int .u32 s.2] 26 (0,0)))
  (l:w.heap[Q]?=some (.cells #[f,.slice (some ⟨P,0,none⟩) 1 1,g] T (0,0))) (v:a.length+1+b.length<=1000) :
  Calls Tryz.prog 49 #[.slice (some ⟨Q,0,none⟩) 3 3] w fun e w'=>∃ uo uc,e=.returned (.slice uo (Qg a b s).length uc)/\w'.ownsRow w.heap.size 26 2 (.slice uo (Qg a b s).length uc) (Qg a b s).length (Qx (Qg a b s))/\Ext w w':=by
 have n:P<w.heap.size:=(Array.getElem?_eq_some_iff.1 c).1;have o:Q<w.heap.size:=(Array.getElem?_eq_some_iff.1 l).1;have p:Q5 w (.slice (some ⟨P,0,none⟩) 1 1) [s]:=by
  refine⟨⟨by simp [Ld],by unfold maxLen;simp,some ⟨P,0,none⟩,1,rfl,fun _=>⟨P,0,rfl,n,fun j hj=>?_⟩⟩,fun x hx=>by rw [List.mem_singleton] at hx;subst hx;exact y⟩;have d:j=0\/j=1:=by simp at hj;omega
  rcases d with rfl | rfl
  ·rw [cell_of_row w P _ _ _ _ c];rfl
  ·rw [cell_of_row w P _ _ _ _ c];rfl
 have t:=Wr (w:=w) (ao:=some ⟨Q,0,none⟩) (cap:=3) (us:=[a,[s],b]) (vs:=[f,.slice (some ⟨P,0,none⟩) 1 1,g]) (F:=Qg a b s) (by simp [Qg]) ⟨rfl,by unfold maxLen;simp,some ⟨Q,0,none⟩,3,rfl,fun _=>⟨Q,0,rfl,o,fun j hj=>by
   have d:j=0\/j=1\/j=2:=by simp at hj;omega
   rcases d with rfl | rfl | rfl <;> (rw [cell_of_row w Q _ _ _ _ l];rfl)⟩⟩ (fun i hi=>by
   have u:i=0\/i=1\/i=2:=by simp at hi;omega
   rcases u with rfl | rfl | rfl
   ·exact q
   ·exact p
   ·exact r) (by rw [Pf];exact v)
 refine t.mono ?_;rintro e w' ⟨z,rfl,k,m⟩;obtain⟨uo,uc,rfl⟩:=Z6 k;exact⟨uo,uc,rfl,k,m⟩
theorem Gf{w:World}{I J:Value}{a b:Wd}{s:Nat × Nat}(f:Q5 w I a)(g:Q5 w J b)(m:Qd s)(l:a.length+1+b.length<=1000) :
  Calls Tryz.prog 63 #[I,J,sV s] w fun e w'=>∃ uo uc,e=.returned (.slice uo (Qg a b s).length uc)/\Qn w' (.slice uo (Qg a b s).length uc) (Qg a b s)/\Ext w w':=by
 obtain⟨u,t,rfl,M⟩:=f.slice;obtain⟨x,v,rfl,N⟩:=g.slice;obtain⟨d,E⟩:=zE a.length;obtain⟨H,D⟩:=zE b.length;rw [E] at f M l ⊢;rw [D] at g N l ⊢;have G:=Gs f.2 g.2 m;obtain⟨c,B⟩:=zE w.heap.size;obtain⟨n,o⟩:=s;obtain⟨j,i⟩:=zE (((w.alloc (.cells #[.int .u32 n,.int .u32 o] 26)).alloc (.cells #[.int .u32 n,.int .u32 o] 26)).alloc (.cells #[.slice u d t,.slice (some ⟨c+1,0,none⟩) 1 1,.slice x H v] 23));have k:Ext w j:=by rw [<-i];exact(((Q0.refl _ w).alloc _).alloc _).alloc _
 have y:j.heap[c+1]?=some (.cells #[.int .u32 n,.int .u32 o] 26 (0,0)):=by rw [<-i];exact Q8 (new_at (by simp [B]))
 have z:j.heap[c+2]?=some (.cells #[.slice u d t,.slice (some ⟨c+1,0,none⟩) 1 1,.slice x H v] 23 (0,0)):=by rw [<-i];exact new_at (by simp [B])
 have C:=Q1x (f.ext k) (g.ext k) m y z (by rw [E,D];exact l);obtain⟨p,q,r⟩:=Zh3 C k G;clear C y z f g m G k;unfold sV;go_enter Tryz.func63,Tryz.ntmps63;go_wp2_with fail;try rw [i]
 refine p.out.mono ?_;rintro e O ⟨uo,uc,rfl,F,A⟩;have L:=Zh (Qn.own F r.out);have K:=Zh (q.out.trans A);clear p q r F A i;go_wp2;go_ret;exact⟨_,_,rfl,L.out,K.out⟩
theorem Wa{w:World}{ps:Ze}{lo:Option Addr}{n lc:Nat}{L M:Value}{a b:Wd}(H:Z5 w (.slice lo n lc) ps) (I:ps.length=n) (p:Q5 w L a) (q:Q5 w M b) (G:Tab w) :
  Calls Tryz.prog 60 #[.slice lo n lc,L,M] w fun e w'=>e=.returned (.int .i64 (Z4 (ps.map (·.1)) a b))/\Ext w w':=by
 obtain⟨X,W,rfl,R⟩:=p.slice;obtain⟨Z,Y,rfl,S⟩:=q.slice;have o:=Gi H I G;have c:=fun(V:World) (hE:Ext w V)=>Vh (p.ext hE);have l:=fun(V:World) (hE:Ext w V)=>Vh (q.ext hE);obtain⟨a0,J⟩:=zE a.length;obtain⟨a1,K⟩:=zE b.length;rw [J] at c ⊢;rw [K] at l ⊢;have m:Qz (ps.map (·.1))≠0->Z4 (ps.map (·.1)) a b=Qz (ps.map (·.1)):=fun h=>by unfold Z4;rw [if_neg h]
 have i:Qz (ps.map (·.1))=0->wE a≠0->Z4 (ps.map (·.1)) a b=wE a:=fun h c=>by unfold Z4;rw [if_pos h,if_neg c]
 have f:Qz (ps.map (·.1))=0->wE a=0->Z4 (ps.map (·.1)) a b=wE b:=fun h c=>by unfold Z4;rw [if_pos h,if_pos c]
 obtain⟨x,F⟩:=zE (Z4 (ps.map (·.1)) a b);obtain⟨r,y⟩:=zE (Qz (ps.map (·.1)));obtain⟨s,z⟩:=zE (wE a);obtain⟨U,A⟩:=zE (wE b);rw [F] at m i f ⊢;rw [y] at o m i f;rw [z] at c i f;rw [A] at l f;obtain⟨t,u,v,O,P,Q⟩:=Zh6 o c l m i f;clear o c l y z A H I p q G R S J K m i f F;go_enter Tryz.func60,Tryz.ntmps60;go_wp2_with fail;refine t.out.mono ?_;rintro e a2 ⟨rfl,B⟩;have j:=Zh B;clear t B;by_cases d:r=0;case neg=>
  have T:(r != 0)=true:=by simpa using d
  have g:=O.out d;subst g;go_wp2;go_ret;exact⟨rfl,j.out⟩
 subst d;go_wp2_with fail;refine(u.out _ j.out).mono ?_;rintro e a3 ⟨rfl,C⟩;have k:=Zh (j.out.trans C);clear u C j;by_cases d:s=0;case neg=>
  have T:(s != 0)=true:=by simpa using d
  have g:=P.out uz d;subst g;go_wp2;go_ret;exact⟨rfl,k.out⟩
 subst d;have g:=Q.out uz uz;subst g;go_wp2_with fail;refine(v.out _ k.out).mono ?_;rintro e a4 ⟨rfl,D⟩;have N:=Zh (k.out.trans D);clear v D k;go_wp2;go_ret;exact⟨rfl,N.out⟩
theorem Hb{ls:List Q4}{a b:Wd}(h:Z4 ls a b=0):Qz ls=0/\wE a=0/\wE b=0:=by
 unfold Z4 at h
 split at h
 ·rename_i c
  split at h
  ·rename_i d;exact⟨c,d,h⟩
  ·rename_i d;exact absurd h d
 ·rename_i c;exact absurd h c
theorem Pv{w:World}{ps:Ze}{lo:Option Addr}{n lc:Nat}{c0 c1:Value}{a b:Wd}{s:Nat × Nat}(S:Z5 w (.slice lo n lc) ps) (T:ps.length=n) (u:Q5 w c0 a) (x:Q5 w c1 b) (X:Qd s) (Q:Tab w) :
  Calls Tryz.prog 18 #[.slice lo n lc,c0,c1,sV s] w fun e w'=>∃ v,e=.returned (.tuple #[v,.int .i64 (Hv (ps.map (·.1)) a b s)])/\Qn w' v (Hz (ps.map (·.1)) a b s)/\Ext w w':=by
 have K:=fun(V:World) (hE:Ext w V)=>Wa (S.ext hE) T (u.ext hE) (x.ext hE) (Q.keep hE id);have d:=fun(V:World)=>Yh X V;have L:=fun(V:World) (hE:Ext w V) (p:a.length+1+b.length<=1000)=>Gf (u.ext hE) (x.ext hE) X p;have t:=fun(V:World) (hE:Ext w V) (b9:Option Addr) (b8:Nat) (z:Q5 V (.slice b9 (Qg a b s).length b8) (Qg a b s))=>Gh (S.ext hE) T z rfl (Q.keep hE id);have f:=@Hb (ps.map (·.1)) a b;obtain⟨d9,d8,rfl,c9⟩:=u.slice;obtain⟨e1,e0,rfl,d0⟩:=x.slice;have y:Z4 (ps.map (·.1)) a b≠0->Hv (ps.map (·.1)) a b s=Z4 (ps.map (·.1)) a b/\Hz (ps.map (·.1)) a b s=[]:=fun h=>by unfold Hv Hz;rw [if_neg h,if_neg h];exact⟨rfl,rfl⟩
 have m:Z4 (ps.map (·.1)) a b=0->okS s=false->Hv (ps.map (·.1)) a b s=14/\Hz (ps.map (·.1)) a b s=[]:=fun h d=>by unfold Hv Hz;rw [if_pos h,if_pos h,d];exact⟨rfl,rfl⟩
 have g:Z4 (ps.map (·.1)) a b=0->okS s=true->Hv (ps.map (·.1)) a b s=Xu (ps.map (·.1)) (Qg a b s)/\Hz (ps.map (·.1)) a b s=X5 (ps.map (·.1)) (Qg a b s):=fun h d=>by unfold Hv Hz;rw [if_pos h,if_pos h,d];exact⟨rfl,rfl⟩
 obtain⟨d5,b4⟩:=zE (Hv (ps.map (·.1)) a b s);obtain⟨d6,b5⟩:=zE (Hz (ps.map (·.1)) a b s);obtain⟨Z,a7⟩:=zE (Z4 (ps.map (·.1)) a b);obtain⟨c2,a8⟩:=zE (okS s);obtain⟨a6,b3⟩:=zE (Qg a b s);obtain⟨d4,a9⟩:=zE (Xu (ps.map (·.1)) (Qg a b s));obtain⟨d7,b0⟩:=zE (X5 (ps.map (·.1)) (Qg a b s));rw [b4,b5] at y m g ⊢;rw [a7] at K f y m g;rw [a8] at d m g;rw [a9,b0] at t g;rw [b3] at L t;obtain⟨C,D,q,a0,a3,c6,c7,c8⟩:=Zh8 K d L t f y m g;clear K d L t f y m g a7 a8 a9 b0 b3 b4 b5 S T u x Q c9 d0 X;obtain⟨i,j⟩:=s;unfold sV at D q ⊢;obtain⟨e3,U⟩:=zE a.length;obtain⟨e4,W⟩:=zE b.length;have c4:=Zh U;have c5:=Zh W;rw [U,W] at C q ⊢;clear U W;obtain⟨c,b1⟩:=zE w.heap.size;have Y:(w.alloc (.cells #[.int .u32 i,.int .u32 j] 26)).heap[c]?=some (.cells #[.int .u32 i,.int .u32 j] 26 (0,0)):=new_at b1.symm;have M:Ext w (w.alloc (.cells #[.int .u32 i,.int .u32 j] 26)):=(Q0.refl _ w).alloc _;go_enter Tryz.func18,Tryz.ntmps18;go_upto_region 1 with (fail)
 generalize (w.alloc (.cells #[.int .u32 i,.int .u32 j] 26))=e7 at Y M ⊢;have a5:=Zh Y;have F:=Zh M;clear Y M b1;go_wp2_with fail;refine(C.out _ F.out).mono ?_;rintro e A ⟨rfl,N⟩;have r:=Zh (N.keep a5.out);have G:=Zh (F.out.trans N);clear C N a5 F;by_cases p:Z=0;case neg=>
  have e2:(Z != 0)=true:=by simpa using p
  obtain⟨l,o⟩:=c6.out p;subst l o;go_wp2;refine bodyPost_ret (Qi rfl _ _ _) rfl ⟨_,rfl,Qn.nil _,G.out⟩
 subst p;have f:=a3.out rfl;have d1:=Jy f.2.1;have d2:=Jy f.2.2;rw [c4.out] at d1;rw [c5.out] at d2;clear f a3;have I:A.cell? ⟨c,0,none⟩=some (.int .u32 i):=by rw [cell_of_row A c 0 _ _ _ r.out];rfl
 have J:A.cell? ⟨c,1,none⟩=some (.int .u32 j):=by rw [cell_of_row A c 1 _ _ _ r.out];rfl
 go_wp2_with fail;refine(D.out _).mono ?_;rintro e B ⟨rfl,O⟩;have H:=Zh (O.keep r.out);have k:=Zh (G.out.trans O);clear D O r G I J;cases c2;case false=>
  obtain⟨l,o⟩:=c7.out uz uz;subst l o;go_wp2;refine bodyPost_ret (Qi rfl _ _ _) rfl ⟨_,rfl,Qn.nil _,k.out⟩
 obtain⟨l,o⟩:=c8.out uz uz;subst l o;have I:B.cell? ⟨c,0,none⟩=some (.int .u32 i):=by rw [cell_of_row B c 0 _ _ _ H.out];rfl
 have J:B.cell? ⟨c,1,none⟩=some (.int .u32 j):=by rw [cell_of_row B c 1 _ _ _ H.out];rfl
 go_wp2_with fail;refine(q.out _ k.out oz).mono ?_;rintro e e8 ⟨b9,b8,rfl,⟨_,_,d3,z,_⟩,P⟩;cases d3;have b6:=a0.out _ (k.out.trans P) _ _ z;have a1:=Zh b6;have a2:=Zh (k.out.trans P);clear q a0 b6 z P k H I J;go_wp2_with fail;refine a1.out.mono ?_;rintro e e9 ⟨v,rfl,b7,b2⟩;have a4:=Zh b7;have c3:=Zh (a2.out.trans b2);clear a1 b7 b2 a2;obtain⟨e6,e5,rfl,_⟩:=a4.out;go_wp2;refine bodyPost_ret (Qi rfl _ _ _) rfl ⟨_,rfl,a4.out,c3.out⟩
theorem Q5s:(Tryz.prog.info? 9).map (fun i=>(i.zero,i.size,i.bytes))=some (some (.string .empty),1,16):=by kernel_rfl
def Uj(DS:List Wd)(N k:Nat):List Value:=(List.range N).map fun i=>Value.string (if i<k then X1 (DS.getD i []) else ByteArray.empty)
def Di(DS:List Wd):List Value:=DS.map fun u=>Value.string (X1 u)
theorem Tk(DS:List Wd)(N:Nat):Uj DS N 0=List.replicate N (.string .empty):=by
 unfold Uj;apply List.ext_getElem
 ·simp
 ·intro c a b;simp
theorem Q0s{DS:List Wd}{N:Nat}(h:DS.length=N):Uj DS N N=Di DS:=by
 unfold Uj Di;apply List.ext_getElem
 ·simp [h]
 ·intro a b e;have c:a<N:=by simpa using b
  have d:a<DS.length:=by omega
  simp [c,d]
theorem Eo{DS:List Wd}{N k:Nat}(_:k<N):(Uj DS N k).set k (.string (X1 (DS.getD k [])))=Uj DS N (k+1):=by
 unfold Uj;apply List.ext_getElem
 ·simp
 ·intro a e d;have f:a<N:=by simpa using d
  rw [List.getElem_set];by_cases b:k=a
  ·subst b;simp
  ·rw [if_neg b];simp only [List.getElem_map,List.getElem_range]
   congr 1
   by_cases c:a<k
   ·rw [if_pos c,if_pos oz]
   ·rw [if_neg c,if_neg oz]
theorem Cz{DS:List Wd}{N k i:Nat}(hi:i<N):∃ x,(Uj DS N k)[i]?=some (.string x):=⟨_,by unfold Uj;rw [List.getElem?_map,List.getElem?_range hi];rfl⟩
def M4(ls:List Q4)(a b ss:Wd):List Wd:=ss.map fun s=>X5 ls (Qg a b s)
def Se(ls:List Q4)(a b ss:Wd):List Int:=ss.map fun s=>Xu ls (Qg a b s)
theorem Fq{ls:List Q4}{w:Wd}(d:∀ l∈ls,∀ x∈l.outs,Je x)(c:Z8 w):(X5 ls w).length<=32/\Z8 (X5 ls w):=by
 by_cases a:Zz ls w=0
 ·have e:wE w=0:=by
   unfold Zz at a
   split at a
   ·exact a
   ·contradiction
  cases hd:Zf ls w with
  | none=>rw [(Dt a hd).2];exact⟨by simp,fun s hs=>by cases hs⟩
  | some v=>
   rw [(Hg a hd).2];have b:=Fs d c e hd;exact⟨Jy b.1,b.2⟩
 ·rw [(T6 a).2];exact⟨by simp,fun s hs=>by cases hs⟩
theorem V1{w:World}{v:Value}{ps:Ze}(h:Z5 w v ps):∀ l∈ps.map (·.1),∀ x∈l.outs,Je x:=fun l hl=>by
 obtain⟨p,hp,rfl⟩:=List.mem_map.1 hl;obtain⟨_,_,_,_,_,_,_,_,_,h⟩:=h.2 p hp;exact h.2
theorem Jc{w:World}{v:Value}{u:Wd}(h:Qn w v u):∃ ao c,v=.slice ao u.length c/\Q5 w (.slice ao u.length c) u:=by
 obtain⟨ao,c,a,b,_⟩:=h;exact⟨ao,c,a,b⟩
theorem Fe{w:World}{ps:Ze}{lo:Option Addr}{n lc:Nat}{k6 k7:Value}{b c ss:Wd}{a9:Option Addr}{N M:Nat}(a2:Z5 w (.slice lo n lc) ps) (d1:ps.length=n) (H:Q5 w k6 b) (I:Q5 w k7 c) (y:Q5 w (.slice a9 N M) ss) (z:ss.length=N) (n0:N<=M) (c6:Tab w) :
  Calls Tryz.prog 68 #[.slice lo n lc,k6,k7,.slice a9 N M] w fun e w'=>∃ vo vc,e=.returned (.tuple #[.slice vo (Zi (ps.map (·.1)) b c ss).length vc,.int .i64 (Zx (ps.map (·.1)) b c ss)])/\w'.ownsRow w.heap.size 9 1 (.slice vo (Zi (ps.map (·.1)) b c ss).length vc) (Zi (ps.map (·.1)) b c ss).length (Di (Zi (ps.map (·.1)) b c ss))/\Ext w w':=by
 have j4:∀ f,Qd f->(X5 (ps.map (·.1)) (Qg b c f)).length<=1000:=fun f hx=>by have:=(Fq (V1 a2) (Gs H.2 I.2 hx)).1;omega
 have j5:=y.1.2.1;rw [z] at j5;unfold maxLen at j5;obtain⟨m3,m2,rfl,m8⟩:=H.slice;obtain⟨m5,m4,rfl,m9⟩:=I.slice;have F:=Wa a2 d1 H I c6;have m:=fun(V:World) (j:Ext w V)=>Nv 64 (y.ext j) z n0;have g5:=fun(V:World) (j:Ext w V) (f:Nat × Nat) (hx:Qd f) (d:b.length+1+c.length<=1000)=>Gf (H.ext j) (I.ext j) hx d;have g6:=fun(V:World) (j:Ext w V) (f:Nat × Nat) (k5:Option Addr) (k4:Nat) (a8:Q5 V (.slice k5 (Qg b c f).length k4) (Qg b c f))=>Gh (a2.ext j) d1 a8 rfl (c6.keep j id);have u:=@Hb (ps.map (·.1)) b c;have a4:Z4 (ps.map (·.1)) b c≠0->Zx (ps.map (·.1)) b c ss=Z4 (ps.map (·.1)) b c:=fun h=>by unfold Zx;rw [if_neg h]
 have L:Z4 (ps.map (·.1)) b c=0->Yd ss 64≠0->Zx (ps.map (·.1)) b c ss=Yd ss 64:=fun h m=>by unfold Zx;rw [if_pos h,if_neg m]
 have A:Z4 (ps.map (·.1)) b c=0->Yd ss 64=0->Zx (ps.map (·.1)) b c ss=Ql (Se (ps.map (·.1)) b c ss):=fun h m=>by unfold Zx;rw [if_pos h,if_pos m];rfl
 have d6:Zx (ps.map (·.1)) b c ss≠0->Zi (ps.map (·.1)) b c ss=[]:=fun h=>by unfold Zi;rw [if_neg h]
 have a5:Zx (ps.map (·.1)) b c ss=0->Zi (ps.map (·.1)) b c ss=M4 (ps.map (·.1)) b c ss:=fun h=>by unfold Zi;rw [if_pos h];rfl
 have d8:Yd ss 64=0->N<=64:=fun h=>by
  unfold Yd at h
  split at h
  ·cases h
  ·omega
 obtain⟨o0,c4⟩:=zE (Zx (ps.map (·.1)) b c ss);obtain⟨o1,c5⟩:=zE (Zi (ps.map (·.1)) b c ss);obtain⟨DS,U⟩:=zE (M4 (ps.map (·.1)) b c ss);obtain⟨B,X⟩:=zE (Se (ps.map (·.1)) b c ss);have g9:DS.length=N:=by rw [<-U];simp [M4,z]
 have i7:B.length=N:=by rw [<-X];simp [Se,z]
 have g8:∀ k (h:k<ss.length),DS.getD k []=X5 (ps.map (·.1)) (Qg b c ss[k]):=fun k h=>by rw [<-U];unfold M4;simp [h]
 have i6:∀ k (h:k<ss.length) (m:k<B.length),B[k]=Xu (ps.map (·.1)) (Qg b c ss[k]):=fun k h m=>by subst X;exact List.getElem_map _
 obtain⟨e0,g4⟩:=zE (Z4 (ps.map (·.1)) b c);obtain⟨e1,b8⟩:=zE (Yd ss 64);rw [c4,c5] at d6 a5;rw [c4] at a4 L A ⊢;rw [c5];rw [U] at a5;rw [X] at A;rw [g4] at F u a4 L A;rw [b8] at L A d8;simp only [b8] at m;obtain⟨b1,e2,e3,k9,e8,g1,g2,g3⟩:=Zh8 F m g5 g6 u a4 L A;obtain⟨b7,m1,f7,b2,e7,l0,l2,l6⟩:=Zh8 d6 a5 d8 g9 i7 g8 i6 j4;have f2:=Zh y;have f3:=Zh z;clear F m g5 g6 u a4 L A d6 a5 d8 g4 b8 c4 c5 U X g9 i7 g8 i6 a2 d1 H I c6 m8 m9 y z j4;obtain⟨n6,d2⟩:=zE b.length;obtain⟨n7,d3⟩:=zE c.length;have l7:=Zh d2;have l8:=Zh d3;rw [d2,d3] at b1 e3 ⊢;clear d2 d3;go_enter Tryz.func68,Tryz.ntmps68;go_wp2_with fail;refine b1.out.mono ?_;rintro e p3 ⟨rfl,i0⟩;have O:=Zh i0;clear b1 i0;by_cases d:e0=0;case neg=>
  have j7:(e0 != 0)=true:=by simpa using d
  have p:=g1.out d;subst p;have x:=b7.out d;subst x;go_wp2;refine bodyPost_ret (Qi rfl _ _ _) rfl ⟨_,_,rfl,World.ownsRow_nil _ _ _ _,O.out⟩
 subst d;have u:=e8.out rfl;have n3:=Jy u.2.1;have n4:=Jy u.2.2;rw [l7.out] at n3;rw [l8.out] at n4;clear u e8 g1;go_wp2_with fail;refine(e2.out _ O.out).mono ?_;rintro e k8 ⟨rfl,i1⟩;have P:=Zh (O.out.trans i1);clear e2 i1 O;by_cases d:e1=0;case neg=>
  have j7:(e1 != 0)=true:=by simpa using d
  have p:=g2.out uz d;subst p;have x:=b7.out d;subst x;go_wp2;refine bodyPost_ret (Qi rfl _ _ _) rfl ⟨_,_,rfl,World.ownsRow_nil _ _ _ _,P.out⟩
 subst d;have p:=g3.out uz uz;have o6:=f7.out uz;have f6:=Zh p;clear p g2 g3 f7;obtain⟨D,j0⟩:=zE w.heap.size;have j1:D<=k8.heap.size:=by have:=P.out.size;omega
 have g0:=Zh j0;clear j0
 go_wp2_with (at_make;refine Kj rfl (.tmp 30) (.tmp 30) 97 rfl D 9 _ 16 Tryz.underlying97 Q5s rfl .i64 .i64 N N N rfl rfl rfl rfl ?c1 ?c2 j1 ?_)
 case c1=>omega
 case c2=>unfold maxLen;omega
 intro p4 Y i2;rw [<-Tk DS N] at Y;obtain⟨s,j3⟩:=zE k8.heap.size;rw [j3] at Y j1 ⊢;have f4:=Zh Y;have e6:=Zh (P.out.trans i2);clear Y i2 j3 P;go_wp2
 refine wp_loop (fun a l=>∃(k:Nat),k<=N/\a.defers=[]/\gS a [0,1,2,3,12,32,33,34]=(58,[.slice lo n lc,.slice m3 n6 m2,.slice m5 n7 m4,.slice a9 N M,.slice (some ⟨s,0,none⟩) N N,.slice a9 N M,.int .i64 N,.int .i64 k])/\l.ownsRow D 9 1 (.slice (some ⟨s,0,none⟩) N N) N (Uj DS N k)/\Ql (B.take k)=0/\Ext w l)
  (fun a _=>N - (intOf (a.tmps.getD 34 undef)).toNat) ?_ ?_
 ·exact⟨0,by omega,rfl,rfl,f4.out,rfl,e6.out⟩
 clear f4 e6;rintro⟨p0,_⟩ l ⟨k,o8,n1,k0,i8,J,j⟩;subst n1;obtain⟨p1,rfl⟩:=Qu k0;clear k0;obtain⟨S,Q,r⟩:=Zh3 i8 J j;clear i8 J j;by_cases a1:k<N;case neg=>
  obtain rfl:k=N:=by omega
  have F:¬ (k:Int)<(k:Int):=by omega
  have J:=Q.out;rw [List.take_of_length_le (by rw [e7.out];exact Nat.le_refl _),<-f6.out] at J;subst J;have x:=m1.out uz;subst x;have d4:=S.out;rw [Q0s b2.out] at d4;have l9:=Zh d4;clear d4 S;go_wp2;refine bodyPost_ret (Qi rfl _ _ _) rfl ⟨some ⟨s,0,none⟩,k,by rw [b2.out];rfl,by rw [b2.out,g0.out];exact l9.out,r.out⟩
 have F:(k:Int)<(N:Int):=by omega
 have o5:(0:Int)<=(k:Int):=by omega
 have K:k<ss.length:=by rw [f3.out];exact a1
 have d0:k<B.length:=by rw [e7.out];exact a1
 have j2:=(f2.out.ext r.out).at K;rw [f3.out] at j2;obtain⟨o4,o9,o3,a3,n2,Z,a0⟩:=j2;simp only [zV,true_and] at a3;obtain⟨rfl,rfl⟩:=a3;rw [List.getD_eq_getElem?_getD,List.getElem?_eq_getElem K,Option.getD_some] at Z a0;have d5:=f2.out.2 _ (List.getElem_mem K);have t:=l0.out k K;have c8:=l2.out k K d0;have v:=Vu d0 Q.out;have o:=K4 d0 Q.out;obtain⟨f,y⟩:=zE (ss[k]);rw [y] at Z a0 d5 t c8;rw [c8] at v o;rw [<-f6.out] at o;clear y c8;obtain⟨g,i⟩:=f;dsimp only at Z a0;have f5:Hid (Qd (g,i)):=Zh d5;obtain⟨e5,f0,e9⟩:=Zh3 t v o;clear d5 t v o;obtain⟨q,g7⟩:=zE l.heap.size;have a6:(l.alloc (.cells #[.int .u32 g,.int .u32 i] 26)).heap[q]?=some (.cells #[.int .u32 g,.int .u32 i] 26 (0,0)):=new_at g7.symm;have c0:Ext l (l.alloc (.cells #[.int .u32 g,.int .u32 i] 26)):=(Q0.refl _ l).alloc _;go_upto_region 11 with (fail)
 generalize (l.alloc (.cells #[.int .u32 g,.int .u32 i] 26))=C at a6 c0 ⊢;have m6:C.cell? ⟨q,0,none⟩=some (.int .u32 g):=by rw [cell_of_row C q 0 _ _ _ a6];rfl
 have m7:C.cell? ⟨q,1,none⟩=some (.int .u32 i):=by rw [cell_of_row C q 1 _ _ _ a6];rfl
 have b3:=Zh c0;clear a6 c0 g7 Z a0 n2;have c9:=e3.out C (r.out.trans b3.out) (g,i) f5.out oz;unfold sV at c9;have f1:=Zh c9;clear c9;go_wp2_with fail;refine f1.out.mono ?_;rintro e n8 ⟨k5,k4,rfl,j9,i3⟩;obtain⟨_,_,a3,a8⟩:=Jc j9;cases a3;have b4:=Zh (b3.out.trans i3);have c7:=k9.out n8 (r.out.trans b4.out) (g,i) _ _ a8;have j6:=l6.out (g,i) f5.out;obtain⟨d9,b9⟩:=zE (Xu (ps.map (·.1)) (Qg b c (g,i)));obtain⟨b0,W⟩:=zE (X5 (ps.map (·.1)) (Qg b c (g,i)));rw [b9,W] at c7;rw [W] at j6;have t:=e5.out;rw [W] at t;have v:=f0.out;have o:=e9.out;rw [b9] at v o;obtain⟨e4,l1,l5,l4⟩:=Zh4 c7 t v o;clear c7 t v o a8 j9 i3 b9 W e5 f0 e9 f1 b3 m6 m7;go_wp2_with fail;refine e4.out.mono ?_;rintro e p5 ⟨p2,rfl,j8,i4⟩;obtain⟨vo,vc,rfl,k2⟩:=Jc j8;have b5:=Zh (b4.out.trans i4);have f9:=Zh k2;clear e4 j8 i4 b4 k2;by_cases d:d9=0;case neg=>
  have j7:(d9 != 0)=true:=by simpa using d
  have p:=l4.out d;subst p;have x:=b7.out d;subst x;go_wp2;refine bodyPost_ret (Qi rfl _ _ _) rfl ⟨_,_,rfl,World.ownsRow_nil _ _ _ _,r.out.trans b5.out⟩
 subst d;have k1:=Wz f9.out rfl j6;have f8:=Zh k1;clear k1 f9;go_wp2_with fail;refine f8.out.mono ?_;rintro e n9 ⟨rfl,i5⟩;have b6:=Zh (b5.out.trans i5);clear f8 i5 b5;have G:=Qa S.out b6.out;obtain⟨p6,k3⟩:=Cz (DS:=DS) (k:=k) a1;have n5:=G.cellAt k oz;rw [k3] at n5;have o7:=G.frozenAt k;have a7:=U4 G k (.string (X1 b0));have d7:=Eo (DS:=DS) a1;rw [l1.out] at d7;rw [d7] at a7;have c3:Ext w (n9.setCell ⟨s,k,none⟩ (.string (X1 b0))):=(r.out.trans b6.out).setCell (.inl (by rw [g0.out];exact(G.lt s rfl).1)) _;obtain⟨o2,i9⟩:=zE (X1 b0);rw [i9] at a7 c3 ⊢;have m0:=Zh a7;have l3:=Zh c3;clear a7 c3 d7 k3 G S r b6 Q i9;go_wp2;exact⟨⟨k+1,by omega,by first | trivial | rfl,rfl,m0.out,l5.out,l3.out⟩,nz⟩
def Js(DS:List Wd)(N k:Nat):List Nat:=(List.range N).map fun i=>if i<k then Zs DS i else 0
theorem Sg(DS:List Wd)(N:Nat):Ye (Js DS N 0)=List.replicate N (.int .i64 0):=by
 unfold Js Ye;apply List.ext_getElem
 ·simp
 ·intro c a b;simp
theorem Bb{DS:List Wd}{N:Nat}(h:DS.length=N):Js DS N N=Vr DS:=by
 unfold Js Vr;rw [h];apply List.ext_getElem
 ·simp
 ·intro c a d;have b:c<N:=by simpa using a
  simp [b]
theorem Tg{DS:List Wd}{N k:Nat}(_:k<N):(Ye (Js DS N k)).set k (.int .i64 (Zs DS k:Nat))=Ye (Js DS N (k+1)):=by
 unfold Js Ye;apply List.ext_getElem
 ·simp
 ·intro a e d;have f:a<N:=by simpa using d
  rw [List.getElem_set];by_cases b:k=a
  ·subst b;simp
  ·rw [if_neg b];simp only [List.getElem_map,List.getElem_range];by_cases c:a<k
   ·rw [if_pos c,if_pos oz]
   ·rw [if_neg c,if_neg oz]
theorem Tt{DS:List Wd}{N k i:Nat}(hi:i<N):∃ x:Nat,(Ye (Js DS N k))[i]?=some (.int .i64 x):=⟨_,by unfold Js Ye;rw [List.getElem?_map,List.getElem?_map,List.getElem?_range hi];rfl⟩
theorem T5{DS:List Wd}{k:Nat}(a:k<DS.length):(Di DS).getD k undef=.string (X1 (DS.getD k [])):=by
 unfold Di;simp [a]
theorem Ga(u:Wd):(X1 u).size=8*u.length:=by
 unfold X1;show (Qm u).toArray.size=_;rw [List.size_toArray,V8]
theorem Vc(u:Wd):(X1 u).data.toList=Qm u:=rfl
theorem Q4g{ls:List Q4}{a b ss:Wd}(h:∀ s∈ss,Z8 (X5 ls (Qg a b s))):Hj (Zi ls a b ss):=by
 unfold Zi
 split
 ·intro e c;obtain⟨s,d,rfl⟩:=List.mem_map.1 c;exact h s d
 ·intro e c;cases c
theorem J9{P:Program}{k e:TypeId}{w:World}{b n z:Nat}{f g:List UInt8->Option Int}{ops:Array Oper}{rest:List Oper}{o:Oper}{a:Act}{Q:Exit->Act->World->Prop}(hg:o.guard=none)(m x v:Operand)(t:TypeId)(hop:o.op=Op.mapUpdate t m x v)
  (hk:P.underlying k=some .string) (ht:P.underlying t=some (.map k e)) (he:P.underlying e=some (.int .i64)) (hm:a.eval m=.map (some b)) (h:Z9 P k e w b n f z) (hn:n<maxLen)
  (s:ByteArray) (hx:a.eval x=.string s) (hs:s.size<=maxLen) (c:Int) (hv:a.eval v=.int .i64 c) (hc:(Lit.int .i64 c).wf=true) (hG:∀ y,g y=if y=s.data.toList then some c else f y)
  (hK:∀ V,(∃ z,Z9 P k e V b (n+1) g z)->Q0 (fun q=>q=b) w V->wpList P ops Q rest (a.put o.dst undef) V):wpList P ops Q (o::rest) a w:=
 L3 hg m x v t hop hk ht he b n hm h hn s hx hs c hv hc fun V h1 h2=>hK V ⟨_,h1.fn hG⟩ h2
theorem Rf{w:World}{v j k:Value}{ps:Ze}{a b ss:Wd}(g:Z5 w v ps)(e:Q5 w j a)(f:Q5 w k b)(i:Z8 ss):Hj (Zi (ps.map (·.1)) a b ss)/\∀ u∈Zi (ps.map (·.1)) a b ss,u.length<=32:=by
 refine⟨Q4g fun d c=>(Fq (V1 g) (Gs e.2 f.2 (i d c))).2,fun u hu=>?_⟩;unfold Zi at hu
 split at hu
 ·obtain⟨d,c,rfl⟩:=List.mem_map.1 hu;exact(Fq (V1 g) (Gs e.2 f.2 (i d c))).1
 ·cases hu
theorem M2{ls:List Q4}{a b ss:Wd}(h:Zx ls a b ss=0):ss.length<=64:=by
 unfold Zx at h
 split at h
 ·split at h
  ·rename_i c
   unfold Yd at c
   split at c
   ·cases c
   ·omega
  ·rename_i c;exact absurd h c
 ·rename_i c;exact absurd h c
theorem Fa{ls:List Q4}{a b ss:Wd}(h:Zx ls a b ss=0):(Zi ls a b ss).length=ss.length:=by
 unfold Zi;rw [if_pos h,List.length_map]
theorem Q2c{ls:List Q4}{a b ss:Wd}(h:Zx ls a b ss≠0):Zi ls a b ss=[]:=by
 unfold Zi;rw [if_neg h]
theorem Md{w:World}{ps:Ze}{lo:Option Addr}{n lc:Nat}{i4 i5:Value}{f i ss:Wd}{i3:Option Addr}{N e0:Nat}(d0:Z5 w (.slice lo n lc) ps) (g6:ps.length=n) (a0:Q5 w i4 f) (H:Q5 w i5 i) (d5:Q5 w (.slice i3 N e0) ss) (c3:ss.length=N) (j8:N<=e0) (g0:Tab w) :
  Calls Tryz.prog 22 #[.slice lo n lc,i4,i5,.slice i3 N e0] w fun e w'=>∃ vo vc,e=.returned (.tuple #[.slice vo (Zi (ps.map (·.1)) f i ss).length vc,.int .i64 (Zx (ps.map (·.1)) f i ss)])/\w'.ownsRow w.heap.size 3 1 (.slice vo (Zi (ps.map (·.1)) f i ss).length vc) (Zi (ps.map (·.1)) f i ss).length (Ye (Vr (Zi (ps.map (·.1)) f i ss)))/\Ext w w':=by
 have a5:=Fe d0 g6 a0 H d5 c3 j8 g0;obtain⟨d3,d2⟩:=Rf d0 a0 H d5.2;have a4:=@M2 (ps.map (·.1)) f i ss;have t:=@Fa (ps.map (·.1)) f i ss;have c7:=@Q2c (ps.map (·.1)) f i ss;obtain⟨k5,k4,rfl,j6⟩:=a0.slice;obtain⟨k7,k6,rfl,j7⟩:=H.slice;obtain⟨f2,c4⟩:=zE (Zx (ps.map (·.1)) f i ss);obtain⟨DS,c0⟩:=zE (Zi (ps.map (·.1)) f i ss);rw [c4,c0] at a5 t c7 ⊢;rw [c4] at a4;rw [c0] at d3 d2;rw [c3] at a4 t;obtain⟨l4,g7⟩:=zE f.length;obtain⟨l5,g8⟩:=zE i.length;rw [g7,g8] at a5 ⊢;obtain⟨e8,i9,i8,e4,f0,e1⟩:=Zh6 a5 d3 d2 a4 t c7;clear a5 d3 d2 a4 t c7 c4 c0 d0 g6 a0 H d5 c3 g0 j6 j7 g7 g8;go_enter Tryz.func22,Tryz.ntmps22;go_wp2_with fail;refine e8.out.mono ?_;rintro e r ⟨vo,vc,rfl,p,f4⟩;have l:=Zh p;have O:=Zh f4;clear e8 p f4;by_cases d8:f2=0;case neg=>
  have l3:(f2 != 0)=true:=by simpa using d8
  have H:=e1.out d8;subst H;go_wp2;refine bodyPost_ret (Qi rfl _ _ _) rfl ⟨_,_,rfl,World.ownsRow_nil _ _ _ _,O.out⟩
 subst d8;have l0:=e4.out uz;have t:=f0.out uz;have p:=l.out;rw [t] at p;rw [t];have B:=Zh p;have S:=Zh t;clear p t l f0 e4 e1;obtain⟨u,c5⟩:=zE w.heap.size;have U:=Zh c5;have j5:u<=r.heap.size:=by have:=O.out.size;omega
 rw [c5] at B;clear c5;have k1:(Instr.makeMap 100 none).run Tryz.prog r=.ok (.map (some r.heap.size)) (r.alloc (.map #[] 0)):=rfl;obtain⟨o,E⟩:=zE r.heap.size;have d4:Z9 Tryz.prog 9 3 (r.alloc (.map #[] 0)) o 0 (fun _=>none) 0:=Z9.made rfl E;have v:Ext r (r.alloc (.map #[] 0)):=(Q0.refl _ r).alloc _;have f6:u<=o:=by omega
 go_upto_region 5 with (fail)
 clear k1;generalize (r.alloc (.map #[] 0))=i6 at d4 v ⊢;obtain⟨a9,e2,b0,e6⟩:=Zh4 d4 (O.out.trans v) f6 (Qa B.out v);have c6:u<=i6.heap.size:=by have:=v.size;omega
 have e5:Hid (∀ q,(Value.slice vo N vc).ownBlock=some q->q<o):=Zh fun q c=>by rw [<-E];exact(B.out.lt q c).2
 clear d4 v f6 E B O j5
 go_wp2_with (at_make;refine Kj rfl (.tmp 31) (.tmp 31) 36 rfl u 3 _ 8 Tryz.underlying36 Tryz.infoD rfl .i64 .i64 N N N rfl rfl rfl rfl ?c1 ?c2 c6 ?_)
 case c1=>omega
 case c2=>unfold maxLen;omega
 intro l9 Y W;rw [<-Sg DS N] at Y;obtain⟨g,g3⟩:=zE i6.heap.size;rw [g3] at Y c6 ⊢;obtain⟨e7,e3,A,e9⟩:=Zh4 Y (e2.out.trans W) (a9.out.keep W id) (Qa e6.out W);have y:Hid (o<g):=Zh (by have:=a9.out.lt;omega);clear Y W g3 e2 a9 e6 c6;have b1:Hid (∀ q,(Value.slice vo N vc).ownBlock=some q->q<o):=Zh e5.out;clear e5;go_wp2
 refine wp_loop (fun a z=>∃(k:Nat),k<=N/\a.defers=[]/\gS a [0,12,13,33,34,35]=(58,[.slice lo n lc,.map (some o),.slice (some ⟨g,0,none⟩) N N,.slice vo N vc,.int .i64 N,.int .i64 k])/\z.ownsRow u 3 1 (.slice (some ⟨g,0,none⟩) N N) N (Ye (Js DS N k))/\(∃ i7,Z9 Tryz.prog 9 3 z o k (Uq DS k) i7)/\z.ownsRow u 9 1 (.slice vo N vc) N (Di DS)/\Ext w z)
  (fun a _=>N - (intOf (a.tmps.getD 35 undef)).toNat) ?_ ?_
 ·exact⟨0,by omega,rfl,rfl,e7.out,⟨0,A.out⟩,e9.out,e3.out⟩
 clear e7 A e9 e3;rintro⟨l7,_⟩ z ⟨k,l2,j9,L,f7,⟨i7,E⟩,f8,f3⟩;subst j9;obtain⟨l8,rfl⟩:=Qu L;clear L;obtain⟨l,J,Q,M⟩:=Zh4 f7 E f8 f3;clear f7 E f8 f3;by_cases a2:k<N;case neg=>
  obtain rfl:k=N:=by omega
  have C:¬ (k:Int)<(k:Int):=by omega
  have p:=l.out;rw [Bb S.out] at p;have B:=Zh p;clear p l;go_wp2;refine bodyPost_ret (Qi rfl _ _ _) rfl ⟨some ⟨g,0,none⟩,k,by rw [S.out];rfl,by rw [S.out,U.out];exact B.out,M.out⟩
 have C:(k:Int)<(N:Int):=by omega
 have k9:(0:Int)<=(k:Int):=by omega
 have c9:k<DS.length:=by rw [S.out];exact a2
 obtain⟨k8,l6,c2,c,l1,c8⟩:=Zq (Rd.of_own Q.out) a2;simp only [zV,true_and] at c;obtain⟨rfl,rfl⟩:=c;rw [T5 c9] at c8;have a1:=Q61 i9.out k;have K:=Q4b (DS:=DS) (n:=k);have a3:=fun(j:Int)=>Q1s (DS:=DS) (n:=k) (j:=j);have k2:=(De DS k).1;have L:(DS.getD k []).length<=32:=by
  rw [List.getD_eq_getElem?_getD,List.getElem?_eq_getElem c9];exact i8.out _ (List.getElem_mem c9)
 obtain⟨V,g2⟩:=zE (DS.getD k []);rw [g2] at c8 a1 K a3 L;have d7:(X1 V).size<=maxLen:=by rw [Ga];unfold maxLen;omega
 have d6:=Vc V;obtain⟨b8,g1⟩:=zE (X1 V);rw [g1] at c8 d7 d6;obtain⟨d9,a6⟩:=zE (Uq DS k (Qm V));rw [a6] at a1 K a3;rw [<-d6] at a6 K;have j4:=l.out;obtain⟨m0,i2⟩:=Tt (DS:=DS) (k:=k) a2;have i0:=Tg (DS:=DS) a2;obtain⟨P,b2,a8,b3,f1,b5,b7⟩:=Zh7 a1 K a3 a6 i2 i0 d7;clear a1 K a3 a6 i2 i0 d7 d6 g1 g2 j4 L;cases d9;case none=>
  have I:=P.out;have g9:=b2.out rfl;have j1:=Zh g9;simp only at I;have j0:=Zh I;clear I g9 P b2 a8;have i1:(Lit.int .i64 (k:Int)).wf=true:=by
   show (decide (IntKind.i64.min<=(k:Int)) && decide ((k:Int)<=IntKind.i64.max))=true;rw [Bool.and_eq_true,decide_eq_true_iff,decide_eq_true_iff];have C:IntKind.i64.min=-9223372036854775808:=rfl;have j3:IntKind.i64.max=9223372036854775807:=rfl;rw [C,j3];omega
  have j2:=Zh i1;clear i1
  go_wp2_with (first
   | (at_lookup;refine Yg rfl (.tmp 41) (.tmp 42) 100 rfl Tryz.underlying9 Tryz.underlying100 Tryz.underlying3 (Tryz.zeroValue3 _) o k rfl J.out b8 rfl b7.out none b3.out ?_)
   | (at_mapUpdate;refine J9 rfl (.tmp 49) (.tmp 50) (.tmp 51) 100 rfl Tryz.underlying9 Tryz.underlying100 Tryz.underlying3 rfl J.out (by unfold maxLen;omega) b8 rfl b7.out (k:Int) rfl j2.out j1.out ?_))
  intro b9 m1 f5 Z;have X:=Qc l.out Z (fun q c e=>by simp [Value.ownBlock] at c;have:=y.out;omega);have f9:=Qc Q.out Z (fun q c e=>by subst e;have:=b1.out _ c;omega);have v:Ext w b9:=M.out.after Z (fun b C e=>by have:=b0.out;have:=U.out;omega);have d1:=X.cellAt k oz;rw [f1.out] at d1;have k0:=X.frozenAt k;have x:=U4 X k (.int .i64 (Zs DS k:Nat));rw [b5.out,<-j0.out] at x;have s:=Q0.set1 b9 g k (.int .i64 (k:Int));have G:=Qc f9 s (fun q c e=>by have:=b1.out _ c;have:=y.out;omega);have F:=f5.keep s (by have:=y.out;omega);have D:Ext w (b9.setCell ⟨g,k,none⟩ (.int .i64 (k:Int))):=v.after s (fun b C e=>by have:=b0.out;have:=U.out;have:=y.out;omega);obtain⟨b6,b4,A,a7⟩:=Zh4 x G F D;clear x G F D s f5 v f9 X Z l Q M J;go_wp2;exact⟨⟨k+1,by omega,by first | trivial | rfl,rfl,b6.out,⟨_,A.out⟩,b4.out,a7.out⟩,nz⟩
 case some j=>
  have I:=P.out;simp only at I;subst I;have g4:=a8.out _ rfl;clear P b2 a8;have d1:=l.out.cellAt k oz;rw [f1.out] at d1;have k0:=l.out.frozenAt k;have x:=U4 l.out k (.int .i64 (Zs DS k:Nat));rw [b5.out] at x;have s:=Q0.set1 z g k (.int .i64 (Zs DS k:Nat));have G:=Qc Q.out s (fun q c e=>by have:=b1.out _ c;have:=y.out;omega);have F:=((J.out.fn (g:=Uq DS (k+1)) g4).mono (Nat.le_succ k)).keep s (by have:=y.out;omega);have D:Ext w (z.setCell ⟨g,k,none⟩ (.int .i64 (Zs DS k:Nat))):=M.out.after s (fun b C e=>by have:=b0.out;have:=U.out;have:=y.out;omega);obtain⟨k3,g5⟩:=zE (Zs DS k);rw [g5] at x G F D k2 b3;obtain⟨b6,b4,A,a7⟩:=Zh4 x G F D;clear x G F D s g4 g5 b5
  go_wp2_with (at_lookup;refine Yg rfl (.tmp 41) (.tmp 42) 100 rfl Tryz.underlying9 Tryz.underlying100 Tryz.underlying3 (Tryz.zeroValue3 _) o k rfl J.out b8 rfl b7.out (some (k3:Int)) b3.out ?_)
  exact⟨⟨k+1,by omega,by first | trivial | rfl,rfl,b6.out,⟨_,A.out⟩,b4.out,a7.out⟩,nz⟩
def Gy(ls:List Q4)(u v:Wd):Bool:=decide (Zf ls u=Zf ls v)
def Lw(ls:List Q4)(w:Wd)(s t:Nat × Nat)(i:Nat):Bool:=
 if w.getD i (0,0)=s then !Gy ls w (w.set i t) else if w.getD i (0,0)=t then !Gy ls w (w.set i s) else false
def apB(ls:List Q4)(w:Wd)(s t:Nat × Nat):Bool:=(List.range w.length).any (Lw ls w s t)
def apL(ls:List Q4)(l:List Wd)(s t:Nat × Nat):Bool:=l.any fun w=>apB ls w s t
def U0(L:List Nat)(a b:Nat):List Nat:=L.map fun c=>if c=a\/c=b then min a b else c
theorem Q1e(L:List Nat)(a:Nat):U0 L a a=L:=by
 unfold U0;conv=>rhs;rw [<-List.map_id L]
 apply List.map_congr_left;intro c _;by_cases b:c=a
 ·subst b;simp
 ·simp [b]
theorem Lr(L:List Nat)(a b:Nat):(U0 L a b).length=L.length:=by simp [U0]
def Ue(ap:Nat->Nat->Bool)(i:Nat)(L:List Nat)(k:Nat):List Nat:=if ap i k=true then L else U0 L (L.getD i 0) (L.getD k 0)
def Jv(ap:Nat->Nat->Bool)(i:Nat)(L:List Nat)(k:Nat):List Nat:=(List.range k).foldl (Ue ap i) (L++[i])
def U3(ap:Nat->Nat->Bool)(n:Nat):List Nat:=(List.range n).foldl (fun L i=>Jv ap i L i) []
theorem Wh(ap:Nat->Nat->Bool)(i:Nat)(L:List Nat):Jv ap i L 0=L++[i]:=rfl
theorem Ve(a:Nat->Nat->Bool)(i:Nat)(L:List Nat)(k:Nat):Jv a i L (k+1)=Ue a i (Jv a i L k) k:=by
 unfold Jv;rw [List.range_succ,List.foldl_append];rfl
theorem Kg(a:Nat->Nat->Bool)(n:Nat):U3 a (n+1)=Jv a n (U3 a n) n:=by
 unfold U3;rw [List.range_succ,List.foldl_append];rfl
theorem Q4e(a:Nat->Nat->Bool)(i:Nat)(L:List Nat)(k:Nat):(Ue a i L k).length=L.length:=by
 unfold Ue;split
 ·rfl
 ·exact Lr _ _ _
theorem Fi(ap:Nat->Nat->Bool)(i:Nat)(L:List Nat):∀ k,(Jv ap i L k).length=L.length+1
 | 0=>by rw [Wh];simp
 | k+1=>by rw [Ve,Q4e,Fi ap i L k]
theorem Ut(ap:Nat->Nat->Bool):∀ n,(U3 ap n).length=n
 | 0=>rfl
 | n+1=>by rw [Kg,Fi,Ut ap n]
theorem Q5d{L:List Nat}{a b m:Nat}(h:∀ x∈L,x<=m)(ha:a<=m):∀ x∈U0 L a b,x<=m:=fun x hx=>by
 unfold U0 at hx;obtain⟨c,hc,rfl⟩:=List.mem_map.1 hx
 split
 ·omega
 ·exact h c hc
theorem Ls(ap:Nat->Nat->Bool)(i:Nat){L:List Nat}(h:∀ x∈L,x<=i):∀ k,∀ x∈Jv ap i L k,x<=i
 | 0=>fun x hx=>by
  rw [Wh] at hx;rcases List.mem_append.1 hx with hx | hx
  ·exact h x hx
  ·rw [List.mem_singleton] at hx;omega
 | k+1=>by
  have ih:=Ls ap i h k;rw [Ve];unfold Ue
  split
  ·exact ih
  ·refine Q5d ih ?_;rw [List.getD_eq_getElem?_getD];cases e:(Jv ap i L k)[i]? with
   | none=>simp
   | some x=>exact ih x (List.mem_of_getElem? e)
theorem Bt(ap:Nat->Nat->Bool):∀ n,∀ x∈U3 ap n,x<=n
 | 0=>fun x hx=>by cases hx
 | n+1=>fun x hx=>by
  rw [Kg] at hx;exact Nat.le_succ_of_le (Ls ap n (fun y hy=>Bt ap n y hy) n x hx)
def Km(l:List Wd):Int:=Ql (l.map wE)
def Xw(ls:List Q4)(l:List Wd)(ss:Wd):Int:=if Qz ls=0 then(if 32<l.length then 12 else if Km l=0 then Yd ss 16 else Km l) else Qz ls
def Vx(ls:List Q4)(l:List Wd)(ss:Wd):List Nat:=if Xw ls l ss=0 then U3 (fun i k=>apL ls l (ss.getD i (0,0)) (ss.getD k (0,0))) ss.length else []
def Uw(fr:List (Wd × Wd)):List Int:=fr.map fun p=>Z4 [] p.1 p.2
def Db(ls:List Q4)(fr:List (Wd × Wd)) (s:Nat × Nat):List Int:=fr.map fun p=>Xu ls (Qg p.1 p.2 s)
def frB(ls:List Q4)(fr:List (Wd × Wd)) (s:Nat × Nat):List Bool:=fr.map fun p=>!decide (Qg p.1 p.2 s=X5 ls (Qg p.1 p.2 s))
def X4(ls:List Q4)(fr:List (Wd × Wd)) (s:Nat × Nat):Int:=
 if Qz ls=0 then(if 256<fr.length then 12 else if Ql (Uw fr)=0 then(if okS s=true then Ql (Db ls fr s) else 14) else Ql (Uw fr)) else Qz ls
def Up(ls:List Q4)(fr:List (Wd × Wd)) (s:Nat × Nat):List Bool:=if X4 ls fr s=0 then frB ls fr s else []
theorem Mf{l:List Int}(h:Ql l=0):∀ x∈l,x=0:=by
 induction l with
 | nil=>intro x a;cases a
 | cons e l ih=>
  intro x a;unfold Ql at h
  split at h
  ·rename_i b
   rcases List.mem_cons.1 a with rfl | a
   ·exact b
   ·exact ih h x a
  ·rename_i b;exact absurd h b
theorem Q5k{fr:List (Wd × Wd)} (h:Ql (Uw fr)=0) {k:Nat} (b:k<fr.length):wE fr[k].1=0/\wE fr[k].2=0:=by
 have a:=Mf h (Z4 [] fr[k].1 fr[k].2) (List.mem_map.2 ⟨_,List.getElem_mem b,rfl⟩);exact(Hb a).2
theorem Ci{ls:List Q4}{fr:List (Wd × Wd)} {s:Nat × Nat} (h:X4 ls fr s=0):Up ls fr s=frB ls fr s:=if_pos h
theorem Q5m{ls:List Q4}{fr:List (Wd × Wd)} {s:Nat × Nat} (h:X4 ls fr s≠0):Up ls fr s=[]:=if_neg h
def Xg(ls:List Q4)(u:Wd):List UInt8:=match Zf ls u with
 | some v=>Qm v
 | none=>[45]
theorem Kk{ls:List Q4}{u v:Wd}(h:Zf ls u=some v):Xg ls u=Qm v:=by unfold Xg;rw [h]
theorem Kf{ls:List Q4}{u:Wd}(h:Zf ls u=none):Xg ls u=[45]:=by unfold Xg;rw [h]
theorem Q50{ls:List Q4}{u v:Wd}(c:∀ x,Zf ls u=some x->∀ s∈x,Qd s)(d:∀ x,Zf ls v=some x->∀ s∈x,Qd s):decide (Xg ls u=Xg ls v)=Gy ls u v:=by
 unfold Gy;cases e1:Zf ls u with
 | none=>
  cases e2:Zf ls v with
  | none=>rw [Kf e1,Kf e2];simp
  | some y=>
   rw [Kf e1,Kk e2]
   have:[45]≠Qm y:=fun e=>by
    have:=congrArg List.length e;rw [V8] at this;simp at this;omega
   simp [this]
 | some x=>
  cases e2:Zf ls v with
  | none=>
   rw [Kk e1,Kf e2]
   have:Qm x≠[45]:=fun e=>by
    have:=congrArg List.length e;rw [V8] at this;simp at this;omega
   simp [this]
  | some y=>
   rw [Kk e1,Kk e2];by_cases a:x=y
   ·subst a;simp
   ·have b:Qm x≠Qm y:=fun e=>a (Hp (c x e1) (d y e2) e);simp [a,b]
structure JOk (ls:List Q4) (OS:List (List UInt8)) (kf of:List UInt8->Option Int) (z:Nat):Prop where
 len:z=OS.length
 outs:∀ t n,of t=some n↔∃ j:Nat,OS[j]?=some t/\n=(j:Int)
 known:∀ u:Wd,(∀ s∈u,Qd s)->∀ n,kf (Qm u)=some n->∃ j:Nat,OS[j]?=some (Xg ls u)/\n=(j:Int)
theorem JOk.start(ls:List Q4):JOk ls [] (fun _=>none) (fun _=>none) 0:=⟨rfl,fun t n=>⟨fun h=>(by cases h),fun⟨j,h,_⟩=>(by simp at h)⟩,fun u _ n h=>(by cases h)⟩
theorem JOk.known_put{ls:List Q4}{a:List (List UInt8)} {c d:List UInt8->Option Int} {z:Nat} (h:JOk ls a c d z) {u:Wd} (f:∀ s∈u,Qd s) {j:Nat} (e:a[j]?=some (Xg ls u)):JOk ls a (fun y=>if y=Qm u then some (j:Int) else c y) d z:=by
 refine⟨h.len,h.outs,fun v hv n hn=>?_⟩;by_cases b:Qm v=Qm u
 ·rw [if_pos b] at hn;have:=Hp hv f b;subst this;exact⟨j,e,(Option.some.inj hn).symm⟩
 ·rw [if_neg b] at hn;exact h.known v hv n hn
theorem JOk.outs_put{ls:List Q4}{c:List (List UInt8)} {j i:List UInt8->Option Int} {z:Nat} (h:JOk ls c j i z) {t:List UInt8} (k:i t=none):JOk ls (c++[t]) j (fun y=>if y=t then some (c.length:Int) else i y) (z+1):=by
 refine⟨by rw [h.len];simp,fun y n=>?_,fun v hv n g=>?_⟩
 ·by_cases d:y=t
  ·subst d;simp only [if_true];constructor
   ·intro g;exact⟨c.length,by simp,(Option.some.inj g).symm⟩
   ·rintro⟨b,a,rfl⟩;by_cases e:b<c.length
    ·rw [List.getElem?_append_left e] at a;have:=(h.outs y b).2 ⟨b,a,rfl⟩;rw [k] at this;cases this
    ·have f:b<(c++[y]).length:=(List.getElem?_eq_some_iff.1 a).1;rw [List.length_append,List.length_singleton] at f;have:b=c.length:=by omega
     rw [this]
  ·rw [if_neg d,h.outs];constructor
   ·rintro⟨b,a,rfl⟩;exact⟨b,by rw [List.getElem?_append_left (List.getElem?_eq_some_iff.1 a).1];exact a,rfl⟩
   ·rintro⟨b,a,rfl⟩;refine⟨b,?_,rfl⟩;by_cases e:b<c.length
    ·rwa [List.getElem?_append_left e] at a
    ·have f:b<(c++[t]).length:=(List.getElem?_eq_some_iff.1 a).1;rw [List.length_append,List.length_singleton] at f;have:b=c.length:=by omega
     subst this;simp at a;exact absurd a.symm d
 ·obtain⟨b,a,rfl⟩:=h.known v hv n g;exact⟨b,by rw [List.getElem?_append_left (List.getElem?_eq_some_iff.1 a).1];exact a,rfl⟩
theorem JOk.new_at{a:List (List UInt8)} {t:List UInt8}:(a++[t])[a.length]?=some t:=by simp
theorem Q6x{a R:List (List UInt8)} {t:List UInt8} {j:Nat} (h:a[j]?=some t):(a++R)[j]?=some t:=by rw [List.getElem?_append_left (List.getElem?_eq_some_iff.1 h).1];exact h
theorem JOk.same{ls:List Q4}{a:List (List UInt8)} {f g:List UInt8->Option Int} {z:Nat} (h:JOk ls a f g z) {s t:List UInt8} {i j:Nat} (d:a[i]?=some s) (b:a[j]?=some t):(i=j)↔s=t:=by
 constructor
 ·rintro rfl;rw [d] at b;exact Option.some.inj b
 ·rintro rfl;have e:=(h.outs s i).2 ⟨i,d,rfl⟩;have c:=(h.outs s j).2 ⟨j,b,rfl⟩;rw [e] at c;have:=Option.some.inj c;omega
def JAt(P:Program)(k e:TypeId)(ls:List Q4)(w:World)(K O:Nat)(OS:List (List UInt8)) (c:Nat):Prop:=∃ kf of kz,Z9 P k e w K c kf kz/\Z9 P k e w O c of OS.length/\JOk ls OS kf of OS.length/\OS.length<=c
theorem JAt.mono{P:Program}{k e:TypeId}{ls:List Q4}{w:World}{K O:Nat}{a:List (List UInt8)} {c d:Nat} (h:JAt P k e ls w K O a c) (b:c<=d):JAt P k e ls w K O a d:=by
 obtain⟨j,l,kz,f,g,i,m⟩:=h;exact⟨j,l,kz,f.mono b,g.mono b,i,by omega⟩
theorem JAt.keep{P:Program}{k e:TypeId}{ls:List Q4}{w V:World}{K O:Nat}{a:List (List UInt8)} {c:Nat} {S:Nat->Prop} (h:JAt P k e ls w K O a c) (b:Q0 S w V) (j:¬ S K) (l:¬ S O):JAt P k e ls V K O a c:=by
 obtain⟨m,n,kz,d,f,g,i⟩:=h;exact⟨m,n,kz,d.keep b j,f.keep b l,g,i⟩
theorem P1{u:Wd}(h:u.length<=1000):(X1 u).size<=maxLen:=by rw [Ga];unfold maxLen;omega
def Q7q(P:Program)(k e:TypeId)(ls:List Q4)(w:World)(K O:Nat)(OS:List (List UInt8)) (c:Nat) (u:Wd) (en:Ending) (w':World):Prop:=∃(R:List (List UInt8)) (j:Nat),en=.returned (.int .i64 (j:Int))/\(OS++R)[j]?=some (Xg ls u)/\JAt P k e ls w' K O (OS++R) (c+1)/\Q0 (fun q=>q=K\/q=O) w w'
theorem Ms{n:Nat}(h:n<=1000000):(Lit.int .i64 (n:Int)).wf=true:=by
 show (decide (IntKind.i64.min<=(n:Int)) && decide ((n:Int)<=IntKind.i64.max))=true;rw [Bool.and_eq_true,decide_eq_true_iff,decide_eq_true_iff];have a:IntKind.i64.min=-9223372036854775808:=rfl;have b:IntKind.i64.max=9223372036854775807:=rfl;rw [a,b];omega
theorem Mj{P:Program}{k e:TypeId}{w:World}{b n z:Nat}{f g:List UInt8->Option Int}{ops:Array Oper}{rest:List Oper}{o:Oper}{a:Act}{Q:Exit->Act->World->Prop}(hg:o.guard=none)(m x v:Operand)(t:TypeId)(hop:o.op=Op.mapUpdate t m x v)
  (hk:P.underlying k=some .string) (ht:P.underlying t=some (.map k e)) (he:P.underlying e=some (.int .i64)) (hm:a.eval m=.map (some b)) (h:Z9 P k e w b n f z) (hn:n<maxLen)
  (s:ByteArray) (hx:a.eval x=.string s) (hs:s.size<=maxLen) (c:Int) (hv:a.eval v=.int .i64 c) (hc:(Lit.int .i64 c).wf=true) (hf:f s.data.toList=none) (hG:∀ y,g y=if y=s.data.toList then some c else f y)
  (hK:∀ V,Z9 P k e V b (n+1) g (z+1)->Q0 (fun q=>q=b) w V->wpList P ops Q rest (a.put o.dst undef) V):wpList P ops Q (o::rest) a w:=
 L3 hg m x v t hop hk ht he b n hm h hn s hx hs c hv hc fun V h1 h2=>hK V (by rw [hf] at h1;exact h1.fn hG) h2
theorem Tm{w0 w:World}{ps:Ze}{lo:Option Addr}{n lc:Nat}(e2:Z5 w0 (.slice lo n lc) ps) (f9:ps.length=n) (f6:Tab w0) (d4:Ext w0 w) {K O:Nat} (_:w0.heap.size<=K) (_:w0.heap.size<=O) (f3:K≠O) {a:List (List UInt8)} {c:Nat} (i2:JAt Tryz.prog 9 3 (ps.map (·.1)) w K O a c) (i6:c<=1000000) {u:Wd} {g5:Option Addr} {c5 g4:Nat} (b7:Q5 w (.slice g5 c5 g4) u) (b8:u.length=c5) (X:Zz (ps.map (·.1)) u=0) :
  Calls Tryz.prog 127 #[.agg #[.slice lo n lc,.map (some K),.map (some O)],.slice g5 c5 g4] w (Q7q Tryz.prog 9 3 (ps.map (·.1)) w K O a c u):=by
 obtain⟨E,z,kz,e3,R,e0,f5⟩:=i2;have f4:a.length<=1000000:=by omega
 have a1:=Zh f5;clear f5;have g2:wE u=0:=by
  unfold Zz at X
  split at X
  ·exact X
  ·contradiction
 have i7:c5<=32:=by rw [<-b8];exact Jy g2
 have i3:=e3.lt;have i4:=R.lt;have f8:∀ s∈u,Qd s:=b7.2;have d8:=fun(B:World) (D:Ext w B)=>Gh (e2.ext (d4.trans D)) f9 (b7.ext D) b8 (f6.keep (d4.trans D) id);have d9:=Fq (V1 e2) b7.2;have b6:=fun(B:World) (D:Ext w B)=>Wz (b7.ext D) b8 oz;obtain⟨e,d5⟩:=zE (ps.map (·.1));rw [d5] at e0 X d9 ⊢;simp only [d5] at d8;have a6:Ext w (w.alloc (.cells #[.slice lo n lc,.map (some K),.map (some O)] 125)):=(Q0.refl _ w).alloc _;have c4:(w.alloc (.cells #[.slice lo n lc,.map (some K),.map (some O)] 125)).heap[w.heap.size]?=some (.cells #[.slice lo n lc,.map (some K),.map (some O)] 125 (0,0)):=new_at rfl;obtain⟨B,D⟩:=zE (w.alloc (.cells #[.slice lo n lc,.map (some K),.map (some O)] 125));obtain⟨l,d7⟩:=zE w.heap.size;rw [D] at a6 c4;rw [d7] at c4 i3 i4;obtain⟨f1,g7,c6,e6,J,L,G,e7⟩:=Zh8 D d7 a6 c4 (e3.keep a6 id) (R.keep a6 id) e0 d8;obtain⟨f0,c7,e8,a0,g6,U⟩:=Zh6 b6 d9 X f8 b8 f3;clear e2 f9 f6 d4 f3 e3 R e0 g2 d8 d9 b6 d5 a6 c4 D d7 b7 X f8 b8;go_enter Tryz.func127,Tryz.ntmps127;go_upto_region 1 with (fail)
 rw [f1.out,g7.out];clear f1;go_wp2_with fail;refine(f0.out B c6.out).mono ?_;rintro v d2 ⟨rfl,a8⟩;obtain⟨f,b,b9,c1⟩:=Zh4 (J.out.keep a8 id) (L.out.keep a8 id) (a8.keep e6.out) (c6.out.trans a8);clear f0 J L e6 c6 a8;have a4:d2.cell? ⟨l,1,none⟩=some (.map (some K)):=by rw [cell_of_row _ _ _ _ _ _ b9.out];rfl
 have p:=Vc u;obtain⟨H,W⟩:=zE (X1 u);rw [W] at p ⊢;have g1:H.size<=maxLen:=by rw [<-W];exact P1 (by rw [g6.out];omega)
 have V:=Zh g1;have a2:=Zh p;clear g1 p W;obtain⟨q,I⟩:=zE (E H.data.toList);have d0:=Zh I;clear I;cases q;case some m=>
  have b3:=G.out.known u a0.out m (by rw [<-a2.out];exact d0.out);obtain⟨j,i,rfl⟩:=b3;have Z:=Zh i;clear i
  go_wp2_with (at_lookup;refine Yg rfl (.tmp 15) (.tmp 16) 100 rfl Tryz.underlying9 Tryz.underlying100 Tryz.underlying3 (Tryz.zeroValue3 _) K c rfl f.out H rfl V.out (some (j:Int)) d0.out ?_)
  go_ret;exact⟨[],j,rfl,by rw [List.append_nil];exact Z.out,⟨E,z,kz,f.out.mono (Nat.le_succ c),by rw [List.append_nil];exact b.out.mono (Nat.le_succ c),by rw [List.append_nil];exact G.out,by rw [List.append_nil];have:=a1.out;omega⟩,c1.out.mono fun _ _ h=>h.elim⟩
 case none=>
  have i0:d2.cell? ⟨l,0,none⟩=some (.slice lo n lc):=by rw [cell_of_row _ _ _ _ _ _ b9.out];rfl
  go_wp2_with (at_lookup;refine Yg rfl (.tmp 15) (.tmp 16) 100 rfl Tryz.underlying9 Tryz.underlying100 Tryz.underlying3 (Tryz.zeroValue3 _) K c rfl f.out H rfl V.out none d0.out ?_)
  refine(e7.out d2 c1.out).mono ?_;rintro v g8 ⟨i8,rfl,g0,a9⟩;obtain⟨j0,i9,rfl,g3⟩:=Jc g0;obtain⟨J,L,c0,c2,f2⟩:=Zh5 (f.out.keep a9 id) (b.out.keep a9 id) (a9.keep b9.out) (c1.out.trans a9) g3;clear e7 f b b9 c1 a9 g0 g3 i0 a4;have i5:∀(r:World) (Q:ByteArray),Ext w r->Z9 Tryz.prog 9 3 r K c E kz->Z9 Tryz.prog 9 3 r O c z a.length->r.heap[l]?=some (.cells #[.slice lo n lc,.map (some K),.map (some O)] 125 (0,0))->Q.size<=maxLen->Q.data.toList=Xg e u->True:=fun _ _ _ _ _ _ _ _=>trivial;clear i5;cases hdr:Zf e u with
  | some x=>
   obtain⟨a5,c3⟩:=Hg e8.out hdr;have b4:=Kk hdr;rw [a5];rw [c3] at f2 c7 ⊢;have b6:=Wz f2.out rfl (by have:=c7.out.1;omega);have e9:=Zh b6;clear b6 a5 c3 hdr;go_wp2_with fail;refine e9.out.mono ?_;rintro v r ⟨rfl,b0⟩;obtain⟨f,b,F,S⟩:=Zh4 (J.out.keep b0 id) (L.out.keep b0 id) (b0.keep c0.out) (c2.out.trans b0);have p:=Vc x;rw [<-b4] at p;have Y:=P1 (u:=x) (by have:=c7.out.1;omega);obtain⟨Q,W⟩:=zE (X1 x);rw [W] at p Y ⊢;have N:=Zh p;have P:=Zh Y;clear e9 J L c0 c2 b0 p Y W b4;have a4:r.cell? ⟨l,1,none⟩=some (.map (some K)):=by rw [cell_of_row _ _ _ _ _ _ F.out];rfl
   have d3:r.cell? ⟨l,2,none⟩=some (.map (some O)):=by rw [cell_of_row _ _ _ _ _ _ F.out];rfl
   obtain⟨q,I⟩:=zE (z Q.data.toList);have k:=Zh I;clear I;cases q;case some m=>
    have b3:=(G.out.outs (Xg e u) m).1 (by rw [<-N.out];exact k.out);obtain⟨j,i,rfl⟩:=b3;have o:=G.out.known_put a0.out i;have e1:j<a.length:=(List.getElem?_eq_some_iff.1 i).1;obtain⟨Z,M,A⟩:=Zh3 i o (Ms (n:=j) oz);clear i o e1
    go_wp2_with (first
     | (at_lookup;refine Yg rfl (.tmp 35) (.tmp 36) 100 rfl Tryz.underlying9 Tryz.underlying100 Tryz.underlying3 (Tryz.zeroValue3 _) O c rfl b.out Q rfl P.out (some (j:Int)) k.out ?_)
     | (at_mapUpdate;refine J9 rfl (.tmp 50) (.tmp 51) (.tmp 52) 100 rfl Tryz.underlying9 Tryz.underlying100 Tryz.underlying3 rfl f.out (by unfold maxLen;omega) H rfl V.out (j:Int) rfl A.out (g:=fun y=>if y=Qm u then some (j:Int) else E y) (fun y=>by rw [a2.out]) ?_))
    intro a3 e4 C d;go_wp2;go_ret;exact⟨[],j,rfl,by rw [List.append_nil];exact Z.out,⟨_,z,e4,C,by rw [List.append_nil];exact(b.out.keep d (fun v=>U.out v.symm)).mono (Nat.le_succ c),by rw [List.append_nil];exact M.out,by rw [List.append_nil];have:=a1.out;omega⟩,(S.out.mono fun _ _ h=>h.elim).trans (d.mono fun _ _ h=>.inl h)⟩
   case none=>
    have b5:=G.out.outs_put (t:=Xg e u) (by rw [<-N.out];exact k.out);have o:=b5.known_put a0.out (j:=a.length) JOk.new_at;have M:=Zh o;have A:=Zh (Ms (n:=a.length) f4);clear b5 o
    go_wp2_with (first
     | (at_lookup;refine Yg rfl (.tmp 35) (.tmp 36) 100 rfl Tryz.underlying9 Tryz.underlying100 Tryz.underlying3 (Tryz.zeroValue3 _) O c rfl b.out Q rfl P.out none k.out ?_)
     | (refine Sz rfl (.tmp 43) 100 rfl Tryz.underlying100 O c rfl b.out ?_)
     | (at_mapUpdate;refine Mj rfl (.tmp 46) (.tmp 47) (.tmp 48) 100 rfl Tryz.underlying9 Tryz.underlying100 Tryz.underlying3 rfl b.out (by unfold maxLen;omega) Q rfl P.out (a.length:Int) rfl A.out k.out (g:=fun y=>if y=Xg e u then some (a.length:Int) else z y) (fun y=>by rw [N.out]) ?_))
    intro a3 C d;have b1:=f.out.keep d U.out;have a7:=d.heap F.out oz;obtain⟨c9,c8,d1⟩:=Zh3 C b1 d;have i1:a3.cell? ⟨l,1,none⟩=some (.map (some K)):=by rw [cell_of_row _ _ _ _ _ _ a7];rfl
    clear C b1 d a7 a4 d3
    go_wp2_with (at_mapUpdate;refine J9 rfl (.tmp 50) (.tmp 51) (.tmp 52) 100 rfl Tryz.underlying9 Tryz.underlying100 Tryz.underlying3 rfl c8.out (by unfold maxLen;omega) H rfl V.out (a.length:Int) rfl A.out (g:=fun y=>if y=Qm u then some (a.length:Int) else E y) (fun y=>by rw [a2.out]) ?_)
    intro g9 e5 d6 b2;go_wp2;go_ret;have R:=c9.out.keep b2 (fun v=>U.out v.symm);refine⟨[Xg e u],a.length,rfl,JOk.new_at,⟨(fun y=>if y=Qm u then some (a.length:Int) else E y),(fun y=>if y=Xg e u then some (a.length:Int) else z y),e5,d6,?_,?_,by rw [List.length_append,List.length_singleton];have:=a1.out;omega⟩,(S.out.mono fun _ _ h=>h.elim).trans ((d1.out.mono fun _ _ h=>.inr h).trans (b2.mono fun _ _ h=>.inl h))⟩
    ·rw [List.length_append,List.length_singleton];exact R
    ·rw [List.length_append,List.length_singleton];exact M.out
  | none=>
   obtain⟨a5,c3⟩:=Dt e8.out hdr;have b4:=Kf hdr;rw [a5];have p:(ByteArray.mk #[45]).data.toList=Xg e u:=by rw [b4]
   have Y:(ByteArray.mk #[45]).size<=maxLen:=by decide
   have N:=Zh p;have P:=Zh Y;have f:=J;have b:=L;have F:=c0;have S:=c2;clear J L c0 c2 p Y b4 a5 c3 hdr;obtain⟨r,f7⟩:=zE g8;rw [f7] at f b F S ⊢;clear f7;have a4:r.cell? ⟨l,1,none⟩=some (.map (some K)):=by rw [cell_of_row _ _ _ _ _ _ F.out];rfl
   have d3:r.cell? ⟨l,2,none⟩=some (.map (some O)):=by rw [cell_of_row _ _ _ _ _ _ F.out];rfl
   obtain⟨q,I⟩:=zE (z (ByteArray.mk #[45]).data.toList);have k:=Zh I;clear I;cases q;case some m=>
    have b3:=(G.out.outs (Xg e u) m).1 (by rw [<-N.out];exact k.out);obtain⟨j,i,rfl⟩:=b3;have o:=G.out.known_put a0.out i;have e1:j<a.length:=(List.getElem?_eq_some_iff.1 i).1;obtain⟨Z,M,A⟩:=Zh3 i o (Ms (n:=j) oz);clear i o e1
    go_wp2_with (first
     | (at_lookup;refine Yg rfl (.tmp 35) (.tmp 36) 100 rfl Tryz.underlying9 Tryz.underlying100 Tryz.underlying3 (Tryz.zeroValue3 _) O c rfl b.out (ByteArray.mk #[45]) rfl P.out (some (j:Int)) k.out ?_)
     | (at_mapUpdate;refine J9 rfl (.tmp 50) (.tmp 51) (.tmp 52) 100 rfl Tryz.underlying9 Tryz.underlying100 Tryz.underlying3 rfl f.out (by unfold maxLen;omega) H rfl V.out (j:Int) rfl A.out (g:=fun y=>if y=Qm u then some (j:Int) else E y) (fun y=>by rw [a2.out]) ?_))
    intro a3 e4 C d;go_wp2;go_ret;exact⟨[],j,rfl,by rw [List.append_nil];exact Z.out,⟨_,z,e4,C,by rw [List.append_nil];exact(b.out.keep d (fun v=>U.out v.symm)).mono (Nat.le_succ c),by rw [List.append_nil];exact M.out,by rw [List.append_nil];have:=a1.out;omega⟩,(S.out.mono fun _ _ h=>h.elim).trans (d.mono fun _ _ h=>.inl h)⟩
   case none=>
    have b5:=G.out.outs_put (t:=Xg e u) (by rw [<-N.out];exact k.out);have o:=b5.known_put a0.out (j:=a.length) JOk.new_at;have M:=Zh o;have A:=Zh (Ms (n:=a.length) f4);clear b5 o
    go_wp2_with (first
     | (at_lookup;refine Yg rfl (.tmp 35) (.tmp 36) 100 rfl Tryz.underlying9 Tryz.underlying100 Tryz.underlying3 (Tryz.zeroValue3 _) O c rfl b.out (ByteArray.mk #[45]) rfl P.out none k.out ?_)
     | (refine Sz rfl (.tmp 43) 100 rfl Tryz.underlying100 O c rfl b.out ?_)
     | (at_mapUpdate;refine Mj rfl (.tmp 46) (.tmp 47) (.tmp 48) 100 rfl Tryz.underlying9 Tryz.underlying100 Tryz.underlying3 rfl b.out (by unfold maxLen;omega) (ByteArray.mk #[45]) rfl P.out (a.length:Int) rfl A.out k.out (g:=fun y=>if y=Xg e u then some (a.length:Int) else z y) (fun y=>by rw [N.out]) ?_))
    intro a3 C d;have b1:=f.out.keep d U.out;have a7:=d.heap F.out oz;obtain⟨c9,c8,d1⟩:=Zh3 C b1 d;have i1:a3.cell? ⟨l,1,none⟩=some (.map (some K)):=by rw [cell_of_row _ _ _ _ _ _ a7];rfl
    clear C b1 d a7 a4 d3
    go_wp2_with (at_mapUpdate;refine J9 rfl (.tmp 50) (.tmp 51) (.tmp 52) 100 rfl Tryz.underlying9 Tryz.underlying100 Tryz.underlying3 rfl c8.out (by unfold maxLen;omega) H rfl V.out (a.length:Int) rfl A.out (g:=fun y=>if y=Qm u then some (a.length:Int) else E y) (fun y=>by rw [a2.out]) ?_)
    intro g9 e5 d6 b2;go_wp2;go_ret;have R:=c9.out.keep b2 (fun v=>U.out v.symm);refine⟨[Xg e u],a.length,rfl,JOk.new_at,⟨(fun y=>if y=Qm u then some (a.length:Int) else E y),(fun y=>if y=Xg e u then some (a.length:Int) else z y),e5,d6,?_,?_,by rw [List.length_append,List.length_singleton];have:=a1.out;omega⟩,(S.out.mono fun _ _ h=>h.elim).trans ((d1.out.mono fun _ _ h=>.inr h).trans (b2.mono fun _ _ h=>.inl h))⟩
    ·rw [List.length_append,List.length_singleton];exact R
    ·rw [List.length_append,List.length_singleton];exact M.out
def Ej(s:Nat × Nat):List Value:=[.int .u32 (s.1:Int),.int .u32 (s.2:Int)]
theorem Rw(u:Wd):Qx u=(u.map fun s=>(s,Ej s)).flatMap (·.2):=by unfold Qx;rw [List.flatMap_map];rfl
theorem S7{u:Wd}{j:Nat}(a:j<u.length)(x:Nat × Nat):X8 (Qx u) (j*2) (Ej x)=Qx (u.set j x):=by
 rw [Rw,Q4i (sz:=2) (x:=x) zd (fun p hp=>by obtain⟨b,_,rfl⟩:=List.mem_map.1 hp;rfl) (by simpa using a) rfl,Rw,List.map_set]
theorem Cl{ls:List Q4}{u:Wd}(h:Zz ls u=0){x:Nat × Nat}(e:okS x=true)(j:Nat):Zz ls (u.set j x)=0:=by
 have d:Qz ls=0:=Classical.byContradiction fun h0=>by
  unfold Zz at h;rw [if_neg h0] at h;exact h0 h
 unfold Zz at h ⊢;rw [if_pos d] at h ⊢;obtain⟨b,c⟩:=Hq.1 h;refine Hq.2 ⟨by rw [List.length_set];exact b,fun s a=>?_⟩;rcases List.mem_or_eq_of_mem_set a with a | rfl
 ·exact c s a
 ·exact e
theorem By{u:Wd}(h:Z8 u){x:Nat × Nat}(hx:Qd x)(j:Nat):Z8 (u.set j x):=fun s hs=>by
 rcases List.mem_or_eq_of_mem_set hs with hs | rfl
 ·exact h s hs
 ·exact hx
theorem M0{f:Nat->Bool}{k:Nat}:(List.range (k+1)).any f=((List.range k).any f || f k):=by rw [List.range_succ,List.any_append];simp
theorem Q1w{f:Nat->Bool}{k n:Nat}(hk:k<n)(h:f k=true):(List.range n).any f=true:=List.any_eq_true.2 ⟨k,List.mem_range.2 hk,h⟩
theorem Lv{a b c d:Nat}(h:¬ (a,b)=(c,d)):(((a:Int) ==(c:Int))=false)\/(((a:Int) ==(c:Int))=true/\((b:Int) ==(d:Int))=false):=by
 by_cases f:a=c
 ·have e:¬ b=d:=fun e=>h (by rw [f,e]);exact .inr ⟨by simp;omega,by simp;omega⟩
 ·exact .inl (by simp;omega)
def ApR(P:Program)(k e:TypeId)(ls:List Q4)(w:World)(K O:Nat)(OS:List (List UInt8)) (c:Nat) (b:Bool) (en:Ending) (w':World):Prop:=∃ R:List (List UInt8),en=.returned (.bool b)/\JAt P k e ls w' K O (OS++R) c/\Q0 (fun q=>q=K\/q=O) w w'
theorem Q57{P:Program}{k e:TypeId}{ls:List Q4}{w:World}{K O c i j:Nat}{a R:List (List UInt8)} {s t:List UInt8} (b:JAt P k e ls w K O (a++R) c) (f:a[i]?=some s) (g:(a++R)[j]?=some t):(((i:Int) !=(j:Int))=!decide (s=t)):=by
 obtain⟨l,m,kz,_,_,b,_⟩:=b;have d:=b.same (Q6x (R:=R) f) g;by_cases e:i=j
 ·rw [decide_eq_true (d.1 e),e];simp
 ·rw [decide_eq_false (fun e2=>e (d.2 e2))];simp;omega
theorem El{w0 w:World}{ps:Ze}{lo:Option Addr}{n lc:Nat}(k2:Z5 w0 (.slice lo n lc) ps) (q7:ps.length=n) (q4:Tab w0) (q2:Ext w0 w) {K O:Nat} (E:w0.heap.size<=K) (m4:w0.heap.size<=O) (q3:K≠O) {g1:List (List UInt8)} {c:Nat} (R:JAt Tryz.prog 9 3 (ps.map (·.1)) w K O g1 c) (q6:c<=900000) {f:Wd} {k5:Option Addr} {r k4:Nat} (n9:Q5 w0 (.slice k5 r k4) f) (o0:f.length=r) (d4:Zz (ps.map (·.1)) f=0) {k l g j:Nat} (q8:Qd (k,l)) (r2:Qd (g,j)) (r0:okS (k,l)=true) (r3:okS (g,j)=true) (q9:(k,l)≠(g,j)) :
  Calls Tryz.prog 95 #[.agg #[.slice lo n lc,.map (some K),.map (some O)],.slice k5 r k4,.agg #[.int .u32 (k:Int),.int .u32 (l:Int)],.agg #[.int .u32 (g:Int),.int .u32 (j:Int)]] w (ApR Tryz.prog 9 3 (ps.map (·.1)) w K O g1 (c+64) (apB (ps.map (·.1)) f (k,l) (g,j))):=by
 have o2:wE f=0:=by
  unfold Zz at d4
  split at d4
  ·exact d4
  ·contradiction
 have u0:r<=32:=by rw [<-o0];exact Jy o2
 have m9:=fun(B:World) (a0:Ext w0 B) (g1:List (List UInt8)) (c:Nat) (R:JAt Tryz.prog 9 3 (ps.map (·.1)) B K O g1 c) (q6:c<=1000000) {v:Wd} {vo:Option Addr} {vc:Nat} (hv:Q5 B (.slice vo r vc) v) (hvn:v.length=r) (c1:Zz (ps.map (·.1)) v=0)=>Tm k2 q7 q4 a0 E m4 q3 R q6 hv hvn c1
 have n5:∀ v,Zz (ps.map (·.1)) v=0->Z8 v->decide (Xg (ps.map (·.1)) f=Xg (ps.map (·.1)) v)=Gy (ps.map (·.1)) f v:=fun v hv hok=>Q50 (fun x d5=>(Fs (V1 k2) n9.2 o2 d5).2) (fun x d5=>by
  have t0:wE v=0:=by
   unfold Zz at hv
   split at hv
   ·exact hv
   ·contradiction
  exact(Fs (V1 k2) hok t0 d5).2)
 have s4:=(show K<w.heap.size by obtain⟨_,_,_,t,_⟩:=R;exact t.lt);have s5:=(show O<w.heap.size by obtain⟨_,_,_,_,t,_⟩:=R;exact t.lt);obtain⟨U,m3⟩:=zE (ps.map (·.1));rw [m3] at R d4 ⊢;simp only [m3] at m9 n5;obtain⟨B,a0⟩:=zE (((w.alloc (.cells #[.slice lo n lc,.map (some K),.map (some O)] 125)).alloc (.cells #[.int .u32 (k:Int),.int .u32 (l:Int)] 26)).alloc (.cells #[.int .u32 (g:Int),.int .u32 (j:Int)] 26));have m2:Ext w B:=by rw [<-a0];exact(((Q0.refl _ w).alloc _).alloc _).alloc _
 obtain⟨p,d3⟩:=zE w.heap.size;have p7:B.heap[p]?=some (.cells #[.slice lo n lc,.map (some K),.map (some O)] 125 (0,0)):=by rw [<-a0,<-d3];exact Q8 (Q8 (new_at rfl))
 have p8:B.heap[p+1]?=some (.cells #[.int .u32 (k:Int),.int .u32 (l:Int)] 26 (0,0)):=by rw [<-a0,<-d3];exact Q8 (new_at zy)
 have p9:B.heap[p+2]?=some (.cells #[.int .u32 (g:Int),.int .u32 (j:Int)] 26 (0,0)):=by rw [<-a0,<-d3];exact new_at zy
 rw [d3] at s4 s5;obtain⟨p1,s1,d7,r5,r6,o8,c7,j8⟩:=Zh8 a0 d3 m2 p7 p8 p9 (R.keep m2 id id) m9;obtain⟨p0,a4,H,j9,o9,r7,r9,r8⟩:=Zh8 n5 n9 o0 d4 q2 q8 r2 r0;obtain⟨s0,t5,f0,l1⟩:=Zh4 r3 q9 E m4;clear k2 q7 q4 q2 E m4 q3 R n9 o0 d4 q8 r2 r0 r3 q9 o2 m9 n5 m3 a0 d3 m2 p7 p8 p9;go_enter Tryz.func95,Tryz.ntmps95;go_upto_region 1 with (fail)
 try rw [s1.out]
 try rw [p1.out]
 clear p1;go_wp2
 refine wp_loop (fun a Z=>∃(i:Nat) (Y:List (List UInt8)),i<=r/\a.defers=[]/\gS a [1,4,6,7,13,14,15]=(43,[.slice k5 r k4,.pointer (some ⟨p,0,none⟩),.pointer (some ⟨p+1,0,none⟩),.pointer (some ⟨p+2,0,none⟩),.slice k5 r k4,.int .i64 r,.int .i64 i])/\JAt Tryz.prog 9 3 U Z K O (g1++Y) (c+2*i)/\(List.range i).any (Lw U f (k,l) (g,j))=false/\Q0 (fun q=>q=K\/q=O) B Z)
  (fun a _=>r - (intOf (a.tmps.getD 15 undef)).toNat) ?_ ?_
 ·exact⟨0,[],by omega,rfl,rfl,by rw [List.append_nil];exact c7.out,rfl,Q0.refl _ _⟩
 clear c7;rintro⟨u2,_⟩ Z ⟨i,Y,t9,s8,r1,R,q5,d1⟩;subst s8;obtain⟨u3,rfl⟩:=Qu r1;clear r1;obtain⟨c7,j7,k0⟩:=Zh3 R q5 d1;have k9:Hid (Ext w0 Z):=Zh ((o9.out.trans d7.out).after d1 (fun b hb e=>by have:=f0.out;have:=l1.out;rcases e with e | e <;> omega));have g6:=d1.heap r5.out oz;have a8:=d1.heap r6.out oz;have c9:=d1.heap o8.out oz;clear R q5 d1;by_cases i4:i<r;case neg=>
  obtain rfl:i=r:=by omega
  have s3:¬ (i:Int)<(i:Int):=by omega
  clear g6 a8 c9;go_wp2;go_ret;have a1:=j7.out;rw [<-H.out] at a1;exact⟨Y,by unfold apB;rw [a1];rfl,c7.out.mono oz,(d7.out.mono fun _ _ t=>t.elim).trans k0.out⟩
 have s3:(i:Int)<(r:Int):=by omega
 have t8:(0:Int)<=(i:Int):=by omega
 have n6:i<f.length:=by rw [H.out];exact i4
 obtain⟨t7,u1,t6,C,s9,l8,l9⟩:=(a4.out.ext k9.out).at n6;simp only [zV] at C;obtain⟨rfl,t1,rfl⟩:=C;clear t1;have m8:Lw U f (k,l) (g,j) i=if f.getD i (0,0)=(k,l) then !Gy U f (f.set i (g,j)) else if f.getD i (0,0)=(g,j) then !Gy U f (f.set i (k,l)) else false:=rfl
 obtain⟨⟨j3,j4⟩,d5⟩:=zE (f.getD i (0,0));rw [d5] at l8 l9 m8;dsimp only at l8 l9;have k8:=Zh m8;clear m8 d5 s9;obtain⟨a6,g9⟩:=zE (Z.alloc (.cells #[.int .u32 (j3:Int),.int .u32 (j4:Int)] 26));obtain⟨y,k1⟩:=zE Z.heap.size;have m0:Ext Z a6:=by rw [<-g9];exact(Q0.refl _ _).alloc _
 have q1:a6.heap[y]?=some (.cells #[.int .u32 (j3:Int),.int .u32 (j4:Int)] 26 (0,0)):=by rw [<-g9];exact new_at k1.symm
 have m6:a6.heap.size=y+1:=by rw [<-g9];simp [k1]
 obtain⟨I,i0⟩:=zE (a6.alloc (.cells #[.int .u32 (k:Int),.int .u32 (l:Int)] 26));have m1:Ext a6 I:=by rw [<-i0];exact(Q0.refl _ _).alloc _
 have q0:I.heap[y+1]?=some (.cells #[.int .u32 (k:Int),.int .u32 (l:Int)] 26 (0,0)):=by rw [<-i0];exact new_at m6.symm
 obtain⟨p2,p5,p6,p3,s6⟩:=Zh5 g9 k1 m6 i0 i0;go_upto_region 4 with (fail)
 try rw [p5.out]
 try rw [p2.out]
 clear g9 k1 i0 p2;have l7:=m0.keep a8;have j5:a6.cell? ⟨p+1,0,none⟩=some (.int .u32 (k:Int)):=by rw [cell_of_row _ _ _ _ _ _ l7];rfl
 have j6:a6.cell? ⟨p+1,1,none⟩=some (.int .u32 (l:Int)):=by rw [cell_of_row _ _ _ _ _ _ l7];rfl
 clear l8 l9 l7;go_upto_region 5 with (fail)
 try rw [p6.out]
 try rw [p3.out]
 clear j5 j6 p3 m6;have a9:Ext Z I:=m0.trans m1;have l6:=m1.keep q1;have g6:=a9.keep g6;have a8:=a9.keep a8;have c9:=a9.keep c9;have o6:I.cell? ⟨y,0,none⟩=some (.int .u32 (j3:Int)):=by rw [cell_of_row _ _ _ _ _ _ l6];rfl
 have o7:I.cell? ⟨y,1,none⟩=some (.int .u32 (j4:Int)):=by rw [cell_of_row _ _ _ _ _ _ l6];rfl
 have j5:I.cell? ⟨p+1,0,none⟩=some (.int .u32 (k:Int)):=by rw [cell_of_row _ _ _ _ _ _ a8];rfl
 have j6:I.cell? ⟨p+1,1,none⟩=some (.int .u32 (l:Int)):=by rw [cell_of_row _ _ _ _ _ _ a8];rfl
 have c4:I.cell? ⟨p+2,0,none⟩=some (.int .u32 (g:Int)):=by rw [cell_of_row _ _ _ _ _ _ c9];rfl
 have c5:I.cell? ⟨p+2,1,none⟩=some (.int .u32 (j:Int)):=by rw [cell_of_row _ _ _ _ _ _ c9];rfl
 obtain⟨L,c8,e6,c6,e2⟩:=Zh5 (c7.out.keep a9 id id) (k0.out.trans a9.of) (k9.out.trans a9) q0 g6;have i1:B.heap.size<=y:=by have:=k0.out.size;have:=p5.out;omega
 have m5:p+2<B.heap.size:=(Array.getElem?_eq_some_iff.1 o8.out).1;have k3:I.heap.size=y+2:=by have t:=p6.out;rw [<-s6.out];simp [t]
 have o1:w0.heap.size<=B.heap.size:=(o9.out.trans d7.out).size;clear q1 l6 g6 a8 c9 m0 m1 a9 q0 c7 k0 k9;by_cases a2:(j3,j4)=(k,l)
 ·have C:=a2;simp only [Prod.mk.injEq] at C;have o3:=C.1.symm;have o4:=C.2.symm;subst o3 o4;clear C;have P:=k8.out;rw [if_pos rfl] at P;have d9:=Zh P;have d0:=Q0.setRow I (y+1) #[.int .u32 (g:Int),.int .u32 (j:Int)];have n0:=setRow_heap _ _ _ #[.int .u32 (g:Int),.int .u32 (j:Int)] _ _ c6.out;have m7:=L.out.keep d0 oz oz;have n1:=d0.heap e2.out oz;have n8:=c8.out.after d0 (fun b hb e=>by omega);have n3:Ext w0 _:=e6.out.after d0 (fun b hb e=>by omega);have r4:=d0.size;obtain⟨g5,d2⟩:=zE (I.setRow (y+1) #[.int .u32 (g:Int),.int .u32 (j:Int)]);rw [d2] at n0 m7 n1 n8 n3 r4;obtain⟨p4,k6,l2,k7,l4,a3⟩:=Zh6 d2 n0 m7 n1 n8 n3;have a5:Hid (y+2<=g5.heap.size/\p+2<y):=Zh oz;have l3:Hid (B.heap.size<=y):=Zh i1;clear P d0 n0 m7 n1 n8 n3 r4 d2 L c8 e6 e2 k3 i1 m5 o1 a2;go_upto_region 9 with (refine wpList_store_row rfl 26 (.tmp 11) (.tmp 25) rfl (y+1) #[.int .u32 (g:Int),.int .u32 (j:Int)] (by first | rfl | (simp;done)) rfl _ _ c6.out kz kz kz ?_;rw [p4.out])
  clear o6 o7 j5 j6 c4 c5 p4 c6;have b8:=Hs (a4.out.ext a3.out) (by rw [H.out];omega);rw [H.out] at b8;have e4:=Zh b8;clear b8;go_wp2_with fail;refine e4.out.mono ?_;rintro e V ⟨t4,o5,rfl,Q,D⟩;obtain⟨u,n4⟩:=Wv (n:=r - 1) (by rw [show r - 1+1=r by omega];exact Q);subst n4;have i7:=Q.lt u rfl;have n7:=D.size;have a7:=D.keep k6.out;have c4:V.cell? ⟨y+1,0,none⟩=some (.int .u32 (g:Int)):=by rw [cell_of_row _ _ _ _ _ _ a7];rfl
  have c5:V.cell? ⟨y+1,1,none⟩=some (.int .u32 (j:Int)):=by rw [cell_of_row _ _ _ _ _ _ a7];rfl
  have j0:=Ux Q (o:=i*2) (m:=2) oz;have c2:=Su (cs:=Ej (g,j)) Q i4 rfl;rw [S7 n6] at c2;have N:=Q0.setCells V u (#[.int .u32 (g:Int),.int .u32 (j:Int)]:Array Value).toList (i*2);have F:u≠K/\u≠O/\u≠p:=by have:=a5.out;omega
  have c0:=(l2.out.keep D id id).keep N (fun e=>F.1 e.symm) (fun e=>F.2.1 e.symm);have b7:=N.heap (D.keep k7.out) (fun e=>F.2.2 e.symm);have c3:=(l4.out.trans D.of).after N (fun b hb e=>by have:=a5.out;have:=l3.out;omega);have b9:Ext w0 _:=(a3.out.trans D).after N (fun b hb e=>by have:=a5.out;have:=F;have:=a3.out.size;have:=i7;have:=f0.out;omega);obtain⟨J,W⟩:=zE (V.setCells u (i*2) (#[.int .u32 (g:Int),.int .u32 (j:Int)]:Array Value).toList);have i9:J.ownsRow g5.heap.size 26 2 (.slice (some ⟨u,0,none⟩) r o5) r (Qx (f.set i (g,j))):=by rw [<-W];exact c2
  rw [W] at c0 b7 c3 b9;obtain⟨f5,g0,f2,e8,e3,f4,T⟩:=Zh7 j0 W i9 c0 b7 c3 b9;have l0:Hid (u≠K/\u≠O):=Zh ⟨F.1,F.2.1⟩;clear i7 n7 a7 j0 c2 N F c0 b7 c3 b9 W i9 Q D e4;go_upto_region 11 with (refine wpList_store_mid rfl 26 (.tmp 34) (.tmp 33) rfl u (i*2) #[.int .u32 (g:Int),.int .u32 (j:Int)] (by first | rfl | (simp;done)) rfl f5.out kz kz ?_;rw [g0.out])
  clear c4 c5 f5 g0;have z:J.drew.heap[p]?=some (.cells #[.slice lo n lc,.map (some K),.map (some O)] 125 (0,0)):=e3.out;have A:Ext J J.drew:=(Q0.refl _ J).drew;refine Ya (S:=fun s=>s.heap[p]?=some (.cells #[.slice lo n lc,.map (some K),.map (some O)] 125 (0,0))) [] kz z ?_;intro _;obtain⟨l5,g8⟩:=zE J.drew;rw [g8] at z A ⊢;clear g8;have j1:Z8 (f.set i (g,j)):=By a4.out.2 r9.out i;have c1:=Cl j9.out s0.out i;have X:=j8.out l5 (T.out.trans A) _ _ (e8.out.keep A id id) oz (a4.out.ext (T.out.trans A)) H.out j9.out;obtain⟨e0,f3,e5,f6,f9,f1⟩:=Zh6 X (Qa f2.out A) (T.out.trans A) (f4.out.trans A.of) j1 c1;clear X A j1 c1 f2 e8 f4 T e3;refine tkE (i:=0) (d:=35) (v:=?_) rfl (Or.inl ⟨by rfl,?_⟩) z ?_;rotate_left
  ·intro s b1;refine Zp (x:=.tmp 4) ?_ p ?_ _ _ _ b1 Tryz.underlying125 kz <;> rfl
  try simp only [Act.put,pq]
  refine tE 1 36 z ?_;refine tkE (i:=3) (d:=38) (v:=?_) rfl (Or.inl ⟨by rfl,?_⟩) z ?_;rotate_left
  ·intro s b1;refine Zp (x:=.tmp 4) ?_ p ?_ _ _ _ b1 Tryz.underlying125 kz <;> rfl
  try simp only [Act.put,pq]
  refine tE 4 39 z ?_;refine rE [2] ?_;refine Q1.cons rfl (fun K E=>?_) Q1.nil;refine iw rfl ?_;go_simp;refine e0.out.mono ?_;rintro e g4 ⟨g2,t2,rfl,i5,g7,M⟩;have b3:=M.heap z oz;have i8:=Qc f3.out M (fun q C e=>by simp only [Value.ownBlock,Option.some.injEq] at C;have:=l0.out;omega);have i3:Ext w0 g4:=e5.out.after M (fun b hb e=>by have:=f0.out;have:=l1.out;omega);have b6:=j8.out g4 i3 _ _ g7 oz (v:=f.set i (g,j)) (by have t:=Wo (ws:=f.set i (g,j)) (by rw [List.length_set,H.out];exact i8) f9.out;exact t) (by rw [List.length_set];exact H.out) f1.out;obtain⟨e1,e7,f7⟩:=Zh3 b6 i5 (f6.out.trans M);clear b6 i8 i3 i5 g7 M e0 f3 f6 e5;refine E _ _ b3 (fun _=>?_);clear E K z;try simp only [Act.put,pq]
  refine rE [5] ?_;refine Q1.cons rfl (fun K E=>?_) Q1.nil;refine iw rfl ?_;go_simp;refine e1.out.mono ?_;rintro e s2 ⟨g3,t3,rfl,i6,b2,b5⟩;have b4:=b5.heap b3 oz;have G:=Q57 b2 e7.out i6;rw [p0.out _ f1.out f9.out] at G;obtain⟨e9,L,f8⟩:=Zh3 G b2 (f7.out.trans b5);clear G i6 b2 b5 e1 e7 f7;refine E _ _ b4 (fun _=>?_);clear E K b3;try simp only [Act.put,pq]
  refine tE 6 41 b4 ?_;refine Z0 kz ?_ _;clear b4;obtain⟨d6,b0⟩:=zE (Gy U f (f.set i (g,j)));have G:=e9.out;rw [b0] at G;have i2:Lw U f (k,l) (g,j) i=!d6:=by rw [<-b0];exact d9.out
  have d8:=Zh i2;clear i2 b0 e9;cases d6
  ·rw [Bool.not_false] at G;go_wp2;go_ret;have a1:=Q1w i4 d8.out;rw [<-H.out] at a1;exact⟨Y++(g2++g3),by unfold apB;rw [a1];rfl,by have t:=L.out.mono (d:=c+64) oz;simpa [List.append_assoc] using t,(d7.out.mono fun _ _ t=>t.elim).trans f8.out⟩
  ·rw [Bool.not_true] at G;go_wp2;exact⟨⟨i+1,Y++(g2++g3),by omega,tz,rfl,by have t:=L.out.mono (d:=c+2*(i+1)) oz;simpa [List.append_assoc] using t,by rw [M0,j7.out,d8.out];rfl,f8.out⟩,nz⟩
 by_cases j2:(j3,j4)=(g,j)
 ·have C:=j2;simp only [Prod.mk.injEq] at C;have o3:=C.1.symm;have o4:=C.2.symm;subst o3 o4;clear C;have P:=k8.out;rw [if_neg a2,if_pos rfl] at P;have d9:=Zh P;obtain⟨g5,d2⟩:=zE I;rw [d2] at c6 L e2 c8 e6 k3 o6 o7 j5 j6 c4 c5 ⊢;clear d2;have k6:=c6;have l2:=L;have k7:=e2;have l4:=c8;have a3:=e6;have a5:Hid (y+2<=g5.heap.size/\p+2<y):=Zh oz;have l3:Hid (B.heap.size<=y):=Zh i1;have n2:=Lv a2;clear P c6 L c8 e6 e2 k3 i1 m5 o1 a2 j2;rcases n2 with X | ⟨X,b6⟩
  all_goals
   go_upto_region 9 with (fail)
   clear o6 o7 j5 j6 c4 c5;have b8:=Hs (a4.out.ext a3.out) (by rw [H.out];omega);rw [H.out] at b8;have e4:=Zh b8;clear b8;go_wp2_with fail;refine e4.out.mono ?_;rintro e V ⟨t4,o5,rfl,Q,D⟩;obtain⟨u,n4⟩:=Wv (n:=r - 1) (by rw [show r - 1+1=r by omega];exact Q);subst n4;have i7:=Q.lt u rfl;have n7:=D.size;have a7:=D.keep k6.out;have c4:V.cell? ⟨y+1,0,none⟩=some (.int .u32 (k:Int)):=by rw [cell_of_row _ _ _ _ _ _ a7];rfl
   have c5:V.cell? ⟨y+1,1,none⟩=some (.int .u32 (l:Int)):=by rw [cell_of_row _ _ _ _ _ _ a7];rfl
   have j0:=Ux Q (o:=i*2) (m:=2) oz;have c2:=Su (cs:=Ej (k,l)) Q i4 rfl;rw [S7 n6] at c2;have N:=Q0.setCells V u (#[.int .u32 (k:Int),.int .u32 (l:Int)]:Array Value).toList (i*2);have F:u≠K/\u≠O/\u≠p:=by have:=a5.out;omega
   have c0:=(l2.out.keep D id id).keep N (fun e=>F.1 e.symm) (fun e=>F.2.1 e.symm);have b7:=N.heap (D.keep k7.out) (fun e=>F.2.2 e.symm);have c3:=(l4.out.trans D.of).after N (fun b hb e=>by have:=a5.out;have:=l3.out;omega);have b9:Ext w0 _:=(a3.out.trans D).after N (fun b hb e=>by have:=a5.out;have:=F;have:=a3.out.size;have:=i7;have:=f0.out;omega);obtain⟨J,W⟩:=zE (V.setCells u (i*2) (#[.int .u32 (k:Int),.int .u32 (l:Int)]:Array Value).toList);have i9:J.ownsRow g5.heap.size 26 2 (.slice (some ⟨u,0,none⟩) r o5) r (Qx (f.set i (k,l))):=by rw [<-W];exact c2
   rw [W] at c0 b7 c3 b9;obtain⟨f5,g0,f2,e8,e3,f4,T⟩:=Zh7 j0 W i9 c0 b7 c3 b9;have l0:Hid (u≠K/\u≠O):=Zh ⟨F.1,F.2.1⟩;clear i7 n7 a7 j0 c2 N F c0 b7 c3 b9 W i9 Q D e4;go_upto_region 11 with (refine wpList_store_mid rfl 26 (.tmp 34) (.tmp 33) rfl u (i*2) #[.int .u32 (k:Int),.int .u32 (l:Int)] (by first | rfl | (simp;done)) rfl f5.out kz kz ?_;rw [g0.out])
   clear c4 c5 f5 g0;have z:J.drew.heap[p]?=some (.cells #[.slice lo n lc,.map (some K),.map (some O)] 125 (0,0)):=e3.out;have A:Ext J J.drew:=(Q0.refl _ J).drew;refine Ya (S:=fun s=>s.heap[p]?=some (.cells #[.slice lo n lc,.map (some K),.map (some O)] 125 (0,0))) [] kz z ?_;intro _;obtain⟨l5,g8⟩:=zE J.drew;rw [g8] at z A ⊢;clear g8;have j1:Z8 (f.set i (k,l)):=By a4.out.2 r7.out i;have c1:=Cl j9.out r8.out i;have X:=j8.out l5 (T.out.trans A) _ _ (e8.out.keep A id id) oz (a4.out.ext (T.out.trans A)) H.out j9.out;obtain⟨e0,f3,e5,f6,f9,f1⟩:=Zh6 X (Qa f2.out A) (T.out.trans A) (f4.out.trans A.of) j1 c1;clear X A j1 c1 f2 e8 f4 T e3;refine tkE (i:=0) (d:=35) (v:=?_) rfl (Or.inl ⟨by rfl,?_⟩) z ?_;rotate_left
   ·intro s b1;refine Zp (x:=.tmp 4) ?_ p ?_ _ _ _ b1 Tryz.underlying125 kz <;> rfl
   try simp only [Act.put,pq]
   refine tE 1 36 z ?_;refine tkE (i:=3) (d:=38) (v:=?_) rfl (Or.inl ⟨by rfl,?_⟩) z ?_;rotate_left
   ·intro s b1;refine Zp (x:=.tmp 4) ?_ p ?_ _ _ _ b1 Tryz.underlying125 kz <;> rfl
   try simp only [Act.put,pq]
   refine tE 4 39 z ?_;refine rE [2] ?_;refine Q1.cons rfl (fun K E=>?_) Q1.nil;refine iw rfl ?_;go_simp;refine e0.out.mono ?_;rintro e g4 ⟨g2,t2,rfl,i5,g7,M⟩;have b3:=M.heap z oz;have i8:=Qc f3.out M (fun q C e=>by simp only [Value.ownBlock,Option.some.injEq] at C;have:=l0.out;omega);have i3:Ext w0 g4:=e5.out.after M (fun b hb e=>by have:=f0.out;have:=l1.out;omega);have b6:=j8.out g4 i3 _ _ g7 oz (v:=f.set i (k,l)) (by have t:=Wo (ws:=f.set i (k,l)) (by rw [List.length_set,H.out];exact i8) f9.out;exact t) (by rw [List.length_set];exact H.out) f1.out;obtain⟨e1,e7,f7⟩:=Zh3 b6 i5 (f6.out.trans M);clear b6 i8 i3 i5 g7 M e0 f3 f6 e5;refine E _ _ b3 (fun _=>?_);clear E K z;try simp only [Act.put,pq]
   refine rE [5] ?_;refine Q1.cons rfl (fun K E=>?_) Q1.nil;refine iw rfl ?_;go_simp;refine e1.out.mono ?_;rintro e s2 ⟨g3,t3,rfl,i6,b2,b5⟩;have b4:=b5.heap b3 oz;have G:=Q57 b2 e7.out i6;rw [p0.out _ f1.out f9.out] at G;obtain⟨e9,L,f8⟩:=Zh3 G b2 (f7.out.trans b5);clear G i6 b2 b5 e1 e7 f7;refine E _ _ b4 (fun _=>?_);clear E K b3;try simp only [Act.put,pq]
   refine tE 6 41 b4 ?_;refine Z0 kz ?_ _;clear b4;obtain⟨d6,b0⟩:=zE (Gy U f (f.set i (k,l)));have G:=e9.out;rw [b0] at G;have i2:Lw U f (k,l) (g,j) i=!d6:=by rw [<-b0];exact d9.out
   have d8:=Zh i2;clear i2 b0 e9;cases d6
   ·rw [Bool.not_false] at G;go_wp2;go_ret;have a1:=Q1w i4 d8.out;rw [<-H.out] at a1;exact⟨Y++(g2++g3),by unfold apB;rw [a1];rfl,by have t:=L.out.mono (d:=c+64) oz;simpa [List.append_assoc] using t,(d7.out.mono fun _ _ t=>t.elim).trans f8.out⟩
   ·rw [Bool.not_true] at G;go_wp2;exact⟨⟨i+1,Y++(g2++g3),by omega,tz,rfl,by have t:=L.out.mono (d:=c+2*(i+1)) oz;simpa [List.append_assoc] using t,by rw [M0,j7.out,d8.out];rfl,f8.out⟩,nz⟩
 have n2:=Lv a2;have s7:=Lv j2;have P:=k8.out;rw [if_neg a2,if_neg j2] at P;have d9:=Zh P;clear P a2 j2 k3 i1 m5 o1;rcases n2 with X | ⟨X,b6⟩ <;> rcases s7 with hb3 | ⟨hb3,hb4⟩
 all_goals go_wp2
 all_goals exact⟨⟨i+1,Y,by omega,tz,rfl,L.out.mono oz,by rw [M0,j7.out,d9.out];rfl,c8.out⟩,nz⟩
end Go.Proofs.YtejenndedjabhaaGreatDoor
