/- pats.Check. -/
import Derived.Test.YtbmbdoanammlgaaDoorP10
set_option maxRecDepth 100000
set_option maxHeartbeats 8000000
namespace Go.Proofs.YtbmbdoanammlgaaDoor
open Go.RowKit Go.Ab
attribute [local go_sem] Oper.semAt_some Zx Z4
theorem Tryd.infoPat:(Tryd.prog.info? 27).map (fun i=>(i.zero,i.size,i.bytes))=some (some (.agg #[.int .i64 0,.int .u32 0,.int .u32 0,.bool false,.int .i64 0,.int .i64 0,.slice none 0 0]),7,64):=by kernel_rfl
theorem Qv{k:Int}{pl mi:Nat}{nt:Bool}{mn mx:Int}{ao:Option Addr}{n cap:Nat}:∀ v∈Q2 k pl mi nt mn mx ao n cap,v.oneCell'=true:=by
 intro v a;simp only [Q2,List.mem_cons,List.not_mem_nil,or_false] at a;rcases a with rfl | rfl | rfl | rfl | rfl | rfl | rfl <;> rfl
def Stk(K:Nat->Prop)(W:World)(ps:List Pat)(xs:List Value):Prop:=
 xs.length=ps.length*7/\∀ i (h:i<ps.length),∃ c,c.length=7/\(∀ j v,c[j]?=some v->xs[i*7+j]?=some v)/\Qc K W ps[i] c
theorem Stk.nil(K:Nat->Prop)(W:World):Stk K W [] []:=⟨rfl,fun i h=>by simp at h⟩
theorem Stk.ext{K:Nat->Prop}{A B:World}{ps:List Pat}{xs:List Value}(h:Stk K A ps xs){S:Nat->Prop}(ht:Q1 S A B)(hS:∀ g,K g->¬ S g):Stk K B ps xs:=
 ⟨h.1,fun i hi=>by obtain⟨c,h1,h2,h3⟩:=h.2 i hi;exact⟨c,h1,h2,h3.keep ht hS⟩⟩
theorem Stk.push{K:Nat->Prop}{W:World}{ps:List Pat}{xs:List Value}(h:Stk K W ps xs){p:Pat}{c:List Value}(a:c.length=7)(m:Qc K W p c):Stk K W (ps++[p]) (xs++c):=by
 refine⟨by rw [List.length_append,h.1,a,List.length_append];simp;omega,fun i hi=>?_⟩;by_cases b:i<ps.length
 ·obtain⟨d,f,g,k⟩:=h.2 i b;refine⟨d,f,fun j v hj=>?_,by rw [List.getElem_append_left b];exact k⟩;have:=g j v hj;rw [List.getElem?_append_left (List.getElem?_eq_some_iff.1 this).1];exact this
 ·have l:i=ps.length:=by simp at hi;omega
  subst l;refine⟨c,a,fun j v hj=>?_,?_⟩
  ·rw [List.getElem?_append_right (by rw [h.1];omega),h.1];rw [show ps.length*7+j - ps.length*7=j by omega];exact hj
  ·have e:(ps++[p])[ps.length]'hi=p:=by simp
   rw [e];exact m
theorem Stk.pop{K:Nat->Prop}{W:World}{ps:List Pat}{p:Pat}{xs:List Value}(h:Stk K W (ps++[p]) xs) :
  Stk K W ps (xs.take (ps.length*7))/\∃ c,c.length=7/\(∀ j v,c[j]?=some v->xs[ps.length*7+j]?=some v)/\Qc K W p c:=by
 have f:=h.1;simp only [List.length_append,List.length_singleton] at f;refine⟨⟨by rw [List.length_take,f];omega,fun i hi=>?_⟩,?_⟩
 ·obtain⟨d,a,e,b⟩:=h.2 i (by simp;omega);refine⟨d,a,fun j v hj=>?_,by rw [List.getElem_append_left hi] at b;exact b⟩;have k:j<7:=by rw [<-a];exact(List.getElem?_eq_some_iff.1 hj).1
  rw [List.getElem?_take,if_pos oz];exact e j v hj
 ·obtain⟨d,a,e,b⟩:=h.2 ps.length zy;refine⟨d,a,e,?_⟩;have g:(ps++[p])[ps.length]' zy=p:=by simp
  rwa [g] at b
theorem Qj{K:Nat->Prop}{W:World}{p:Pat}{c:List Value}(h:Qc K W p c):∃ ao cap,c=Q2 p.k p.pl p.mi p.nt p.mn p.mx ao p.l.length cap/\p.l.length<=cap/\cap<=maxLen/\Qe K W p.l ao 0:=by
 obtain⟨k,pl,mi,nt,mn,mx,l⟩:=p;unfold Qc at h;obtain⟨ao,cap,a,_,_,b,d,e⟩:=h;exact⟨ao,cap,a,b,d,e⟩
theorem Wx{α:Type}(cs:Nat->List Value)(f:Nat->α):∀ n,(xsB cs n).map (fun x=>f x.1)=((List.range n).map f).reverse
 | 0=>rfl
 | n+1=>by rw [List.range_succ,List.map_append,List.reverse_append];show f n::_=_;rw [Wx cs f n];rfl
theorem Dp{α:Type}(l:List α)(d:α)(n:Nat)(h:n<=l.length):(List.range n).map (fun i=>l.getD i d)=l.take n:=by
 apply List.ext_getElem
 ·simp [Nat.min_eq_left h]
 ·intro i b a;have:i<l.length:=by simp at a;omega
  simp [List.getD_eq_getElem?_getD,List.getElem?_eq_getElem this]
theorem Kq{cs:Nat->List Value}:∀ {n:Nat} {x:Nat × List Value},x∈xsB cs n->x.1<n/\x.2=cs x.1
 | 0,x,h=>by cases h
 | n+1,x,h=>by
  rcases List.mem_cons.1 h with rfl | h
  ·exact⟨Nat.lt_succ_self _,rfl⟩
  ·have:=Kq h;exact⟨Nat.lt_succ_of_lt this.1,this.2⟩
theorem U8(cs:Nat->List Value):∀ n,(xsB cs n).length=n
 | 0=>rfl
 | n+1=>by show (xsB cs n).length+1=_;rw [U8 cs n]
theorem Zp{K:Nat->Prop}{w:World}{p:Pat}{cs:List Value}(p2:Qc K w p cs)(q:∀ g,K g->g<w.heap.size)(_hT:Tab w) :
  Calls Tryd.prog 6 #[.agg cs.toArray] w fun e w'=>e=.returned (.int .i64 (Ze p))/\Ext w w':=by
 have p3:=p2;obtain⟨b6,F,rfl,y3,y0,_⟩:=Qj p2;obtain⟨c5,u6⟩:=zE p.k;obtain⟨d0,v1⟩:=zE p.pl;obtain⟨c6,u7⟩:=zE p.mi;obtain⟨c9,v0⟩:=zE p.nt;obtain⟨c7,u8⟩:=zE p.mn;obtain⟨c8,u9⟩:=zE p.mx;obtain⟨c4,u4⟩:=zE p.l.length;rw [u6,v1,u7,v0,u8,u9,u4] at p3 ⊢;have r0:=Zh p3;unfold Q2;clear p2 p3 u6 v1 u7 v0 u8 u9 u4 y3 y0;refine X3 Tryd.func6 rfl ?_;simp only [Tryd.ntmps6,zS,Nat.reduceAdd,Nat.reduceSub];obtain⟨j,e5⟩:=zE w.heap.size;have Z:=Zh e5;clear e5;go_wp2;have e5:=Z.out;have s9:Stk (·<j) w [p] (Q2 c5 d0 c6 c9 c7 c8 b6 c4 F):=by
  subst e5;have:=(Stk.nil (·<w.heap.size) w).push (c:=Q2 c5 d0 c6 c9 c7 c8 b6 c4 F) rfl (r0.out.mono (fun g n=>q g n))
  simpa using this
 have m6:(((w.alloc (.cells (Q2 c5 d0 c6 c9 c7 c8 b6 c4 F).toArray 27)).alloc (.cells (Q2 c5 d0 c6 c9 c7 c8 b6 c4 F).toArray 27)).alloc (.cells #[.slice (some ⟨w.heap.size+1,0,none⟩) 1 1] 22)).ownsRow j 27 7 (.slice (some ⟨j+1,0,none⟩) 1 1) 1 (Q2 c5 d0 c6 c9 c7 c8 b6 c4 F):=by
  subst e5;exact⟨rfl,.inr ⟨_,_,_,rfl,by omega,Qs (Q9 zy),by omega,by decide,rfl,rfl⟩⟩
 have l4:(((w.alloc (.cells (Q2 c5 d0 c6 c9 c7 c8 b6 c4 F).toArray 27)).alloc (.cells (Q2 c5 d0 c6 c9 c7 c8 b6 c4 F).toArray 27)).alloc (.cells #[.slice (some ⟨w.heap.size+1,0,none⟩) 1 1] 22)).heap[j+2]?=some (.cells #[.slice (some ⟨j+1,0,none⟩) 1 1] 22 (0,0)):=by
  subst e5;exact Q9 zy
 have i7:Ext w (((w.alloc (.cells (Q2 c5 d0 c6 c9 c7 c8 b6 c4 F).toArray 27)).alloc (.cells (Q2 c5 d0 c6 c9 c7 c8 b6 c4 F).toArray 27)).alloc (.cells #[.slice (some ⟨w.heap.size+1,0,none⟩) 1 1] 22)):=(((Q1.refl _ _).alloc _).alloc _).alloc _;unfold Q2 at m6 l4 i7;generalize (((w.alloc (.cells [.int .i64 c5,.int .u32 (d0:Int),.int .u32 (c6:Int),.bool c9,.int .i64 c7,.int .i64 c8,.slice b6 c4 F].toArray 27)).alloc (.cells [.int .i64 c5,.int .u32 (d0:Int),.int .u32 (c6:Int),.bool c9,.int .i64 c7,.int .i64 c8,.slice b6 c4 F].toArray 27)).alloc (.cells #[.slice (some ⟨w.heap.size+1,0,none⟩) 1 1] 22))=A9 at m6 l4 i7 ⊢;rw [e5];clear e5
 refine wp_loop (fun a W=>∃(a5:Nat) (e9:List Pat) (g F:Nat) (xs:List Value) (g0:List Deferred),a5<=40/\a.defers=g0/\(a.tmps.size=52/\a.tmps.getD 3 undef=.pointer (some ⟨j+2,0,none⟩)/\a.tmps.getD 4 undef=.int .i64 a5)/\Z2 j g0 W /\
   W.heap[j+2]?=some (.cells #[.slice (some ⟨g,0,none⟩) e9.length F] 22 (0,0))/\W.ownsRow j 27 7 (.slice (some ⟨g,0,none⟩) e9.length F) e9.length xs/\g≠j+2/\Stk (·<j) W e9 xs /\
   chk (40 - a5) e9.reverse=Ze p/\Ext w W/\e9.length<=41*a5+1)
  (fun a _=>40 - (intOf (a.tmps.getD 4 undef)).toNat) ?_ ?_
 ·exact⟨0,[p],j+1,1,_,[],by omega,rfl,⟨rfl,rfl,rfl⟩,trivial,l4,m6,by omega,s9.ext i7 (fun _ _ n=>n),rfl,i7,by simp⟩
 clear l4 m6 s9 i7 r0;rintro⟨q6,g0⟩ W ⟨a5,e9,g,F,xs,w9,z9,o9,⟨g4,f1,n3⟩,i9,f2,d7,t8,o6,t6,l2,y5⟩;subst o9;obtain⟨q7,c2⟩:=Zb g4;obtain⟨f,rfl⟩:∃ s,s=q7:=⟨_,rfl⟩;have q2:q6=#[f 0,f 1,f 2,f 3,f 4,f 5,f 6,f 7,f 8,f 9,f 10,f 11,f 12,f 13,f 14,f 15,f 16,f 17,f 18,f 19,f 20,f 21,f 22,f 23,f 24,f 25,f 26,f 27,f 28,f 29,f 30,f 31,f 32,f 33,f 34,f 35,f 36,f 37,f 38,f 39,f 40,f 41,f 42,f 43,f 44,f 45,f 46,f 47,f 48,f 49,f 50,f 51]:=c2;clear c2;subst q2;change f 3=_ at f1;change f 4=_ at n3;rw [f1,n3];clear f1 n3 g4;have n2:=cell_of_one f2;have k5:=Zh t6;clear t6;rcases List.eq_nil_or_concat e9 with rfl | ⟨g9,B,v2⟩
 ·have e7:Ze p=0:=by
   rw [<-k5.out];cases 40 - a5 <;> rfl
  rw [e7];clear d7 o6 f2;go_wp2;refine X8 i9 (fun w'=>results_tmp rfl _ _ _) ?_;intro w' I _;exact⟨rfl,l2.after I fun b' L g1=>by have:=g1.1;have:=Z.out;omega⟩
 ·rw [List.concat_eq_append] at v2;subst v2;have y6:=o6.pop;obtain⟨e6,c,t3,j6,j7⟩:=y6;obtain⟨m,n9⟩:=zE g9.length;have g3:(g9++[B]).length=m+1:=by rw [List.length_append,n9];rfl
  rw [g3] at d7 f2 y5 n2;rw [n9] at e6 j6;clear g3 o6;by_cases u3:a5=40
  ·have e7:Ze p=12:=by
    rw [<-k5.out,u3,List.reverse_append];rfl
   subst u3;have r4:=Zh e7;have I:(0:Int)<((m+1:Nat):Int):=by omega
   clear d7 f2 j6 t3 j7 e6 e7;go_wp2;refine X8 i9 (fun w'=>results_tmp rfl _ _ _) ?_;intro w' I _;exact⟨Qr r4.out.symm,l2.after I fun b' L g1=>by have:=g1.1;have:=Z.out;omega⟩
  ·obtain⟨e3,e2,m3,v3,y7,v4⟩:=Qj j7;have s6:=D3 d7;have v5:=Uu d7 (o:=m*7) j6;obtain⟨r6,r7,f0,r8,r9,H,s0⟩:=Zt v5 m3;have m1:=fun y=>Wg j7 y;rw [m3] at m1;unfold Q2 at m1;have t7:(if Y3 B=0 then chk (39 - a5) (B.l++g9.reverse) else Y3 B)=Ze p:=by
    rw [<-k5.out,List.reverse_append,show 40 - a5=(39 - a5)+1 by omega];rfl
   obtain⟨i0,r2,w3,n1,v9,v8,r3⟩:=Zh7 t7 v3 j7 m1 j6 m3 v4;obtain⟨j9,p5⟩:=zE B.k;obtain⟨k4,q0⟩:=zE B.pl;obtain⟨k0,p6⟩:=zE B.mi;obtain⟨k3,p9⟩:=zE B.nt;obtain⟨k1,p7⟩:=zE B.mn;obtain⟨k2,p8⟩:=zE B.mx;obtain⟨e1,m5⟩:=zE B.l.length;rw [p5,q0,p6,p9,p7,p8,m5] at n1;rw [p5] at r6;rw [q0] at r7;rw [p6] at f0;rw [p9] at r8;rw [p7] at r9;rw [p8] at H;rw [m5] at s0 r2;have k7:=Zh m5;have I:(0:Int)<((m+1:Nat):Int):=by omega
   have L:¬ (a5:Int)=40:=by omega
   have l1:(m:Int)<((m+1:Nat):Int):=by omega
   have n5:m<=F:=by
    rcases d7.2 with ⟨e,_⟩ | ⟨_,_,_,e,_,_,z8,_⟩
    ·cases e
    ·cases e;omega
   have t9:g<W.heap.size:=(d7.lt _ rfl).2;clear t7 v3 j7 m1 j6 m3 v4 p5 q0 p6 p9 p7 p8 m5 t3 v5;obtain⟨w2,q9,k6⟩:=Zh3 d7 s6 f2;have s3:=f2;clear d7 s6 f2;have s4:j+2<W.heap.size:=(Array.getElem?_eq_some_iff.1 k6.out).1;have s1:=free_of_one s3;clear s3;have n8:=i9.lt;have y4:(#[.int .i64 j9,.int .u32 (k4:Int),.int .u32 (k0:Int),.bool k3,.int .i64 k1,.int .i64 k2,.slice e3 e1 e2]:Array Value).size=7:=rfl;go_wp2_with fail;have t0:Q1 (·=j+2) W ((W.setCell ⟨j+2,0,none⟩ (.slice (some ⟨g,0,none⟩) m F)).alloc (.cells #[.int .i64 j9,.int .u32 (k4:Int),.int .u32 (k0:Int),.bool k3,.int .i64 k1,.int .i64 k2,.slice e3 e1 e2] 27)):=((Q1.refl (·=j+2) W).setCell (p:=⟨j+2,0,none⟩) (.inr rfl) _).alloc _;have s5:((W.setCell ⟨j+2,0,none⟩ (.slice (some ⟨g,0,none⟩) m F)).alloc (.cells #[.int .i64 j9,.int .u32 (k4:Int),.int .u32 (k0:Int),.bool k3,.int .i64 k1,.int .i64 k2,.slice e3 e1 e2] 27)).heap[j+2]?=some (.cells #[.slice (some ⟨g,0,none⟩) m F] 22 (0,0)):=by
    have h0:(W.setCell ⟨j+2,0,none⟩ (.slice (some ⟨g,0,none⟩) m F)).heap[j+2]?=some (.cells #[.slice (some ⟨g,0,none⟩) m F] 22 (0,0)):=by
     simp only [World.setCell,Array.getElem?_modify,k6.out];simp
    exact Qs h0
   have t2:((W.setCell ⟨j+2,0,none⟩ (.slice (some ⟨g,0,none⟩) m F)).alloc (.cells #[.int .i64 j9,.int .u32 (k4:Int),.int .u32 (k0:Int),.bool k3,.int .i64 k1,.int .i64 k2,.slice e3 e1 e2] 27)).heap[W.heap.size]?=some (.cells #[.int .i64 j9,.int .u32 (k4:Int),.int .u32 (k0:Int),.bool k3,.int .i64 k1,.int .i64 k2,.slice e3 e1 e2] 27 (0,0)):=Q9 zy;refine(n1.out _).mono ?_;rintro e f9 ⟨rfl,b3⟩;have b7:=t0.after b3 (fun _ _ n=>n.elim);have n7:=b3.keep s5;have m0:=b3.keep t2;have o0:=Zz q9.out b7 (fun b hb e=>by cases hb;exact t8 e);have s8:=e6.ext b7 (fun b hb e=>by omega);have s7:=r3.out.keep b7 (fun b hb e=>by omega);have j0:=i9.keepC n8 b7 (fun b e=>.inr (.inr ⟨_,e ▸ k6.out,rfl⟩));have n6:Ext w f9:=l2.after b7 (fun b I L=>by have:=Z.out;omega);have t1:W.heap.size<f9.heap.size:=(Array.getElem?_eq_some_iff.1 m0).1;generalize W.heap.size=w5 at m0 t1 n8 t9 s4 ⊢;clear t0 s5 t2 b3 b7 w2 q9 k6 n2 r6 r7 f0 r8 r9 H s0 e6 r3 i9 l2 I L l1 n8 t9 s4 y4 w3 v9 v8 k5 n1;obtain⟨q8,e7⟩:=zE (Y3 B);have r4:=Zh e7;rw [e7] at i0 ⊢;clear e7;by_cases q3:q8=0
   ·rw [if_pos q3] at i0;subst q3;have y2:e1<=e2:=r2.out;have w8:f9.cell? ⟨w5,6,none⟩=some (.slice e3 e1 e2):=by simp [World.cell?,m0]
    unfold maxLen at y7;go_wp2_with fail
    case' inl=>(generalize h41:(41:Nat)=J;have o8:J<=B.l.length:=(by rw [k7.out];omega);have b7:B.l.take J=B.l.take 41:=(by rw [h41]))
    case' inr=>(have A1:e1<=41:=oz;generalize h41:e1=J;have o8:J<=B.l.length:=(by rw [k7.out];omega);have b7:B.l.take J=B.l.take 41:=(by rw [List.take_of_length_le (by rw [k7.out];omega),List.take_of_length_le (by rw [k7.out];omega)]))
    all_goals
     have z3:J<=41:=by omega
     refine(Hk e3 J e2 f9).mono ?_;rintro e E ⟨rfl,l9⟩;obtain⟨D,g2⟩:=zE f9.heap.size;have b3:Ext f9 E:=by rw [l9];exact(Q1.refl _ _).alloc _
     have m2:E.heap[D]?=some (.cells #[.slice e3 J e2] 22 (0,0)):=by rw [l9];exact Q9 g2.symm
     have A3:E.heap.size=D+1:=by rw [l9,<-g2];simp
     have l5:=b3.keep n7;have l7:=Y5 o0 b3;have f3:=s8.ext b3 (fun _ _ n=>n);have l8:=s7.ext b3;have l6:=j0.keepC (N:=D) (fun e he r hr=>by have:=j0.lt e he r hr;omega) b3 (fun _ n=>n.elim);have l3:Ext w E:=n6.trans b3;have a9:∀ e∈g0,∀ r,e.target=.collected r->r<D:=fun e he r hr=>by have:=j0.lt e he r hr;omega
     have z5:g<D:=by rw [<-g2];exact(o0.lt _ rfl).2
     have z2:j+2<D:=by rw [<-g2];exact(Array.getElem?_eq_some_iff.1 n7).1
     rw [g2];clear g2 l9 n7 o0 s8 s7 j0 n6 b3 m0 t1 w8 s1 y2 h41;have m4:∀ i,∃ c,i<J->(Wz E e3 (fun b=>b=D\/b<j) i c/\Qc (·<j) E (B.l.getD i B) c):=by
      intro i;by_cases p1:i<J
      ·obtain⟨A,y8,c,I,L,g1,l1,n5⟩:=l8.get i oz;obtain⟨A7,b2,x6,_⟩:=Qj n5;refine⟨c,fun _=>⟨⟨A,y8,_,_,_,_,_,_,_,_,_,I,.inr L,by rw [Nat.zero_add] at l1;exact l1,x6⟩,?_⟩⟩;rw [List.getD_eq_getElem?_getD,List.getElem?_eq_getElem oz,Option.getD_some];exact n5
      ·exact⟨[],fun n=>(p1 n).elim⟩
     obtain⟨cs,f5⟩:=Classical.axiomOfChoice m4;go_wp2
     refine Fg (xs:=xsB cs J) (S:=fun _=>False) (K:=fun b=>b=D\/b<j) rfl (enters_of Tryd.func32 kz rfl)
      (Gv (.inl rfl) m2 (by unfold maxLen;omega) (fun i p1=>(f5 i p1).1)) (fun _ n=>n.elim) (fun b n=>by rcases n with n | n <;> omega) (fun _=>rfl)
      (fun t y=>∃ A b2 b4,y.heap[j+2]?=some (.cells #[.slice (some ⟨A,0,none⟩) (m+t.length) b2] 22 (0,0))/\y.ownsRow j 27 7 (.slice (some ⟨A,0,none⟩) (m+t.length) b2) (m+t.length) b4 /\
       A≠j+2/\A≠D/\A≠D+1/\A≠D+2/\Stk (·<j) y (g9++t.map (fun s=>B.l.getD s.1 B)) b4/\Ext w y/\Z2 j g0 y)
      (fun _ _ _=>False) ?hI ?hIx ?h0
      (fun s i1 y=>i1.defers=[]/\∃ C,(i1.tmps.size=52/\i1.tmps.getD 3 undef=.pointer (some ⟨j+2,0,none⟩)/\i1.tmps.getD 9 undef=.pointer (some ⟨C,0,none⟩))/\D+3<=C/\y.heap[C]?=some (.cells s.2.toArray 27 (0,0))/\∃ i5 m8 f0,y.heap[j+2]?=some (.cells #[.slice (some ⟨i5,0,none⟩) m8 f0] 22 (0,0))/\i5≠C)
      ?hAx ?assign ?body ?done ?stop
     case hI=>
      rintro t m9 n0 ⟨A,b2,b4,a4,c3,g6,q4,q5,m7,e8,g7,g8⟩ q1;have a8:Q1 (·=D+2) m9 n0:=q1.mono (fun b _ n=>by rcases n with n | n;exact n.elim;omega);exact⟨A,b2,b4,a8.heap a4 oz,Zz c3 a8 (fun b hb e=>by cases hb;exact m7 e),g6,q4,q5,m7,e8.ext a8 (fun b hb e=>by omega),g7.after a8 (fun b I L=>by have:=Z.out;omega),g8.keepC a9 a8 (fun b n=>.inl oz)⟩
     case hIx=>exact fun _ _ _ _ n _=>n
     case hAx=>
      rintro s i1 m9 n0 ⟨l0,C,x0,x1,x2,i5,m8,f0,x3,x4⟩ q1;have a8:Q1 (·=D+2) m9 n0:=q1.mono (fun b _ n=>by omega);exact⟨l0,C,x0,x1,a8.heap x2 oz,i5,m8,f0,a8.heap x3 oz,x4⟩
     case h0=>
      intro y j4 _;exact⟨g,F,_,j4.keep l5,Y5 l7 j4,t8,by omega,by omega,by omega,by simpa using f3.ext j4 (fun _ _ n=>n),l3.trans j4,l6.keepC a9 j4 (fun _ n=>n.elim)⟩
     case assign=>
      rintro t s y z0 f6 ⟨A,b2,b4,a4,c3,_⟩ g4 s2;have z7:=(c3.lt _ rfl).2;obtain⟨j8,g5⟩:=Kq f6;obtain⟨_,_,A5,A6,M,O,P,Q,R,T,U,_,_,_,f7⟩:=(f5 _ j8).1;rw [<-g5] at f7;unfold Q2 at f7;rw [f7] at s2 ⊢;clear f7 g5 f6 l3 l6 l8 f3 l7 l5 m2 f5 m4;simp only [List.setIfInBounds_toArray,List.set_cons_zero,List.set_cons_succ,List.zip_toArray,List.zip_cons_cons,List.zip_nil_right,List.foldl_toArray,List.foldl_cons,List.foldl_nil];gi_wp2;exact s2 _ _ ((Q1.refl _ _).alloc _) ⟨rfl,y.heap.size,⟨rfl,rfl,rfl⟩,by omega,Q9 rfl,A,_,b2,Qs a4,by omega⟩
     case body=>
      rintro t s A8 ⟨q6,w9⟩ y f6 A4 a8 ⟨A,b2,b4,a4,c3,g6,q4,q5,m7,e8,g7,g8⟩ ⟨o9,C,⟨g4,f1,n4⟩,z4,j5,i5,m8,f0,p0,u0⟩;have v6:s∈xsB cs J:=by rw [f6];simp
      obtain⟨j8,g5⟩:=Kq v6;have p4:=(f5 _ j8).2;obtain⟨_,_,M,O,P,Q,R,T,U,Y,X,_,_,_,f7⟩:=(f5 _ j8).1;rw [f7] at g5 p4;have u5:=p4.keep a8 (fun b hb n=>by rcases n with n | n;exact n (.inr hb);exact n);rw [g5] at j5;unfold Q2 at j5;subst o9;obtain⟨q7,c2⟩:=Zb g4;obtain⟨f,rfl⟩:∃ s,s=q7:=⟨_,rfl⟩;have q2:q6=#[f 0,f 1,f 2,f 3,f 4,f 5,f 6,f 7,f 8,f 9,f 10,f 11,f 12,f 13,f 14,f 15,f 16,f 17,f 18,f 19,f 20,f 21,f 22,f 23,f 24,f 25,f 26,f 27,f 28,f 29,f 30,f 31,f 32,f 33,f 34,f 35,f 36,f 37,f 38,f 39,f 40,f 41,f 42,f 43,f 44,f 45,f 46,f 47,f 48,f 49,f 50,f 51]:=c2;clear c2;subst q2;change f 3=_ at f1;change f 9=_ at n4;rw [f1,n4];clear f1 n4 g4;have n2:=cell_of_one a4;have s1:=free_of_one a4;have u1:A≠C:=by rw [a4] at p0;cases p0;exact u0
      have z1:j+2<y.heap.size:=(Array.getElem?_eq_some_iff.1 a4).1;have A2:C<y.heap.size:=(Array.getElem?_eq_some_iff.1 j5).1;clear p0 u0;have t4:∀(V:World),V.heap[C]?=some (.cells #[.int .i64 M,.int .u32 (O:Int),.int .u32 (P:Int),.bool Q,.int .i64 R,.int .i64 T,.slice U Y X] 27 (0,0))->V.cell? ⟨C,0,none⟩=some (.int .i64 M)/\V.cell? ⟨C,1,none⟩=some (.int .u32 (O:Int))/\V.cell? ⟨C,2,none⟩=some (.int .u32 (P:Int))/\V.cell? ⟨C,3,none⟩=some (.bool Q)/\V.cell? ⟨C,4,none⟩=some (.int .i64 R)/\V.cell? ⟨C,5,none⟩=some (.int .i64 T)/\V.cell? ⟨C,6,none⟩=some (.slice U Y X):=by
       intro V h0;simp [World.cell?,h0]
      have a7:=Zh t4;have A0:t.length<J:=by
       have:=congrArg List.length f6;rw [U8] at this;simp at this;omega
      obtain⟨k8,b5,k9,r5,r1,f8,y9⟩:=Zh7 a4 c3 e8 g8 u5 j5 f6;clear a4 c3 e8 g8 u5 p4 j5 t4 l3 l6 l8 f3 l7 l5 m2 f5 m4 b7 f7 g5 v6 f6 a8 j8;gi_wp2;refine Vz (S:=fun V=>V.cell? ⟨C,0,none⟩=some (.int .i64 M)/\V.cell? ⟨C,1,none⟩=some (.int .u32 (O:Int))/\V.cell? ⟨C,2,none⟩=some (.int .u32 (P:Int))/\V.cell? ⟨C,3,none⟩=some (.bool Q)/\V.cell? ⟨C,4,none⟩=some (.int .i64 R)/\V.cell? ⟨C,5,none⟩=some (.int .i64 T)/\V.cell? ⟨C,6,none⟩=some (.slice U Y X)) kz kz (by rintro⟨_,_,n⟩;exact n) (a7.out _ f8.out) ?_;intro x8;have w4:=a7.out y.drew f8.out;have z6:j<=A:=(b5.out.lt _ rfl).1;refine tH 1 47 x8 ?_;refine rH [0,3] ?_;refine AllReadyH.cons rfl (fun K q=>?_) (AllReadyH.cons rfl (fun K q=>?_) AllReadyH.nil)
      ·go_simp;refine q.out _ _ w4 (fun e6=>?_);clear q K;refine tH 2 48 e6 ?_;refine rH [3] ?_;refine AllReadyH.cons rfl (fun K q=>?_) AllReadyH.nil;go_simp;refine q.out _ _ (a7.out _ (Qs f8.out)) (fun f3=>?_);clear q K;refine rH [4] ?_;refine AllReadyH.cons rfl (fun K q=>?_) AllReadyH.nil;rw [if_pos (show Region.wanted _ _=true from rfl)];refine Vp (.tmp 46) (.tmp 49) 22 rfl j 27 _ 7 64 Tryd.underlying22 Tryd.infoPat rfl zd (.slice (some ⟨A,0,none⟩) (m+t.length) b2) _ _ rfl (Y5 b5.out ((Q1.refl _ _).drew.alloc _)) ⟨y.heap.size,0,none⟩ 1 1 _ rfl rfl (Xf zy) ?o1 ?o2 ?o3 ?o4 ?o5;case o1=>
        intro f c2;simp only [List.mem_cons,List.not_mem_nil,or_false] at c2;rcases c2 with rfl | rfl | rfl | rfl | rfl | rfl | rfl <;> rfl
       case o2=>unfold maxLen;omega
       case o3=>omega
       case o4=>show j<=(y.alloc _).heap.size;rw [World.size_alloc];omega
       case o5=>
        intro w6 H a6 a2 j3 i6;obtain⟨x,rfl⟩:=Vx a2;have y1:x=A\/x=y.heap.size+1:=by
         rcases i6 with e | e
         ·left;simpa [Value.ownBlock] using e
         ·right;simpa [Value.ownBlock,World.size_alloc] using e
        have G:Q1 (·=A) y a6:=((Q1.refl (·=A) y).alloc _).drew.trans (j3.mono (fun b _ e=>by cases e;rfl));have b8:=G.heap f8.out (fun e=>u1 e.symm);have a0:=G.heap k8.out (fun e=>g6 e.symm);have e0:=k9.out.ext G (fun b hb e=>by omega);have d9:=r1.out.keep G (fun b hb e=>by omega);have d5:=r5.out.keepC a9 G (fun b e=>.inr (.inr (by obtain⟨i3,c0⟩:=Yr b5.out;exact⟨_,e ▸ c0,rfl⟩)));have d2:Ext w a6:=g7.after G (fun b I L=>by have:=Z.out;omega);have x9:=G.size;clear j3 i6;refine q.out _ _ (a7.out _ b8) (fun hS5=>?_);clear q K;refine tkH (i:=5) (d:=51) (v:=?_) rfl (Or.inl ⟨by rfl,?_⟩) hS5 ?_;rotate_left
        ·intro w o7;(try dsimp only at o7);go_simp;rw [if_pos ⟨by omega,by omega⟩,show ((m:Int)+(t.length:Int)).toNat=m+t.length by omega]
        try simp only [Act.put,List.setIfInBounds_toArray]
        refine rH [6,7] ?_;have c1:x≠j+2:=by omega
        have d1:m+(t++[s]).length=m+t.length+1:=by simp;omega
        have i2:=cell_of_one a0;have i4:=free_of_one a0;refine AllReadyH.cons rfl (fun K q=>?_) (AllReadyH.cons rfl (fun K q=>?_) AllReadyH.nil)
        ·rw [if_pos (show Region.wanted _ _=true from rfl)];refine wp_store_mid 27 (.tmp 51) (.tmp 47) rfl x ((m+t.length)*7) _ rfl rfl (Yl a2 (by simp;omega)) kz (all_oneCell_toArray Qv) ?_;have u:=Q1.setCells a6 x (Q2 M O P Q R T U Y X) ((m+t.length)*7);have b0:=Xs (cs:=Q2 M O P Q R T U Y X) a2 b5.out.1 rfl;have b9:=u.heap b8 oz;have a1:=u.heap a0 oz;have a3:=(e0.ext u (fun b hb e=>by omega)).push rfl (d9.keep u (fun b hb e=>by omega));have d6:=d5.keepC a9 u (fun b e=>.inr (.inr (by obtain⟨i3,c0⟩:=Yr a2;exact⟨_,e ▸ c0,rfl⟩)));have d3:Ext w _:=d2.after u (fun b I L=>by have:=Z.out;omega);refine q.out _ _ (a7.out _ b9) (fun hS6=>?_);clear q K;unfold Q2 at u b0 b9 a1 a3 d6 d3;have b1:Q1 (fun b=>b=A\/b=x) y _:=(G.mono (fun _ _ e=>.inl e)).trans (u.mono (fun _ _ e=>.inr e));simp only at u b0 b9 a1 a3 d6 d3 b1 ⊢;generalize a6.setCells x ((m+t.length)*7) [.int .i64 M,.int .u32 (O:Int),.int .u32 (P:Int),.bool Q,.int .i64 R,.int .i64 T,.slice U Y X]=e4 at u b0 b9 a1 a3 d6 d3 b1 hS6 ⊢;clear u e0 d9 d5 d2 b8 a0 a2 G hS5 i2 i4;refine rH [7] ?_;refine AllReadyH.cons rfl (fun K q=>?_) AllReadyH.nil;have w7:=cell_of_one a1;have x5:=free_of_one a1;go_simp;have z:=Q1.set1 e4 (j+2) 0 (.slice (some ⟨x,0,none⟩) (m+t.length+1) H);have d4:(e4.setCell ⟨j+2,0,none⟩ (.slice (some ⟨x,0,none⟩) (m+t.length+1) H)).heap[j+2]?=some (.cells #[.slice (some ⟨x,0,none⟩) (m+t.length+1) H] 22 (0,0)):=by
          simp only [World.setCell,Array.getElem?_modify,a1];simp
         refine q.out _ _ (a7.out _ (z.heap b9 oz)) (fun hS9=>?_);clear q K;refine wpAnyH_done kz ?_ _;refine⟨(b1.mono (fun b _ n=>?_)).trans (z.mono (fun b _ n=>?_)),x,H,b4++[.int .i64 M,.int .u32 (O:Int),.int .u32 (P:Int),.bool Q,.int .i64 R,.int .i64 T,.slice U Y X],?_,?_,c1,by omega,by omega,by omega,?_,d3.after z (fun b I L=>by have:=Z.out;omega),d6.keepC a9 z (fun b e=>.inr (.inr ⟨_,e ▸ a1,rfl⟩))⟩
         ·show ¬ ((b=D\/b<j)\/b=E.heap.size\/b=E.heap.size+1);omega
         ·show ¬ ((b=D\/b<j)\/b=E.heap.size\/b=E.heap.size+1);omega
         ·rw [d1];exact d4
         ·rw [d1];exact Zz b0 z (fun b hb e=>by cases hb;exact c1 e)
         ·rw [List.map_append,<-List.append_assoc];exact a3.ext z (fun b hb e=>by omega)
        ·go_simp;have z:=Q1.set1 a6 (j+2) 0 (.slice (some ⟨x,0,none⟩) (m+t.length+1) H);have d4:(a6.setCell ⟨j+2,0,none⟩ (.slice (some ⟨x,0,none⟩) (m+t.length+1) H)).heap[j+2]?=some (.cells #[.slice (some ⟨x,0,none⟩) (m+t.length+1) H] 22 (0,0)):=by
          simp only [World.setCell,Array.getElem?_modify,a0];simp
         have f4:=z.heap b8 oz;have d8:=Zz a2 z (fun b hb e=>by cases hb;exact c1 e);have a3:=e0.ext z (fun b hb e=>by omega);have j2:=d9.keep z (fun b hb e=>by omega);have j1:=d5.keepC a9 z (fun b e=>.inr (.inr ⟨_,e ▸ a0,rfl⟩));have i8:Ext w _:=d2.after z (fun b I L=>by have:=Z.out;omega);have b1:Q1 (fun b=>b=A\/b=j+2) y _:=(G.mono (fun _ _ e=>.inl e)).trans (z.mono (fun _ _ e=>.inr e));refine q.out _ _ (a7.out _ f4) (fun hS6=>?_);clear q K;generalize a6.setCell ⟨j+2,0,none⟩ (.slice (some ⟨x,0,none⟩) (m+t.length+1) H)=e4 at z d4 f4 d8 a3 j2 j1 i8 b1 hS6 ⊢;clear z e0 d9 d5 d2 b8 a0 a2 G hS5 i2 i4;refine rH [6] ?_;refine AllReadyH.cons rfl (fun K q=>?_) AllReadyH.nil;rw [if_pos (show Region.wanted _ _=true from rfl)];refine wp_store_mid 27 (.tmp 51) (.tmp 47) rfl x ((m+t.length)*7) _ rfl rfl (Yl d8 (by simp;omega)) kz (all_oneCell_toArray Qv) ?_;have u:=Q1.setCells e4 x (Q2 M O P Q R T U Y X) ((m+t.length)*7);have b0:=Xs (cs:=Q2 M O P Q R T U Y X) d8 b5.out.1 rfl;refine q.out _ _ (a7.out _ (u.heap f4 oz)) (fun hS9=>?_);clear q K;refine wpAnyH_done kz ?_ _;refine⟨(b1.mono (fun b _ n=>?_)).trans (u.mono (fun b _ n=>?_)),x,H,b4++Q2 M O P Q R T U Y X,?_,?_,c1,by omega,by omega,by omega,?_,i8.after u (fun b I L=>by have:=Z.out;omega),j1.keepC a9 u (fun b e=>.inr (.inr (by obtain⟨i3,c0⟩:=Yr d8;exact⟨_,e ▸ c0,rfl⟩)))⟩
         ·show ¬ ((b=D\/b<j)\/b=E.heap.size\/b=E.heap.size+1);omega
         ·show ¬ ((b=D\/b<j)\/b=E.heap.size\/b=E.heap.size+1);omega
         ·rw [d1];exact u.heap d4 (fun e=>c1 e.symm)
         ·rw [d1];exact b0
         ·rw [List.map_append,<-List.append_assoc];exact(a3.ext u (fun b hb e=>by omega)).push rfl (j2.keep u (fun b hb e=>by omega))
      ·go_simp;refine q.out _ _ (a7.out _ (Qs f8.out)) (fun f3=>?_);clear q K;refine rH [0] ?_;refine AllReadyH.cons rfl (fun K q=>?_) AllReadyH.nil;go_simp;refine q.out _ _ f3 (fun e6=>?_);clear q K;refine tH 2 48 e6 ?_;refine rH [4] ?_;refine AllReadyH.cons rfl (fun K q=>?_) AllReadyH.nil;rw [if_pos (show Region.wanted _ _=true from rfl)];refine Vp (.tmp 46) (.tmp 49) 22 rfl j 27 _ 7 64 Tryd.underlying22 Tryd.infoPat rfl zd (.slice (some ⟨A,0,none⟩) (m+t.length) b2) _ _ rfl (Y5 b5.out ((Q1.refl _ _).drew.alloc _)) ⟨y.heap.size,0,none⟩ 1 1 _ rfl rfl (Xf zy) ?o1 ?o2 ?o3 ?o4 ?o5;case o1=>
        intro f c2;simp only [List.mem_cons,List.not_mem_nil,or_false] at c2;rcases c2 with rfl | rfl | rfl | rfl | rfl | rfl | rfl <;> rfl
       case o2=>unfold maxLen;omega
       case o3=>omega
       case o4=>show j<=(y.alloc _).heap.size;rw [World.size_alloc];omega
       case o5=>
        intro w6 H a6 a2 j3 i6;obtain⟨x,rfl⟩:=Vx a2;have y1:x=A\/x=y.heap.size+1:=by
         rcases i6 with e | e
         ·left;simpa [Value.ownBlock] using e
         ·right;simpa [Value.ownBlock,World.size_alloc] using e
        have G:Q1 (·=A) y a6:=((Q1.refl (·=A) y).alloc _).drew.trans (j3.mono (fun b _ e=>by cases e;rfl));have b8:=G.heap f8.out (fun e=>u1 e.symm);have a0:=G.heap k8.out (fun e=>g6 e.symm);have e0:=k9.out.ext G (fun b hb e=>by omega);have d9:=r1.out.keep G (fun b hb e=>by omega);have d5:=r5.out.keepC a9 G (fun b e=>.inr (.inr (by obtain⟨i3,c0⟩:=Yr b5.out;exact⟨_,e ▸ c0,rfl⟩)));have d2:Ext w a6:=g7.after G (fun b I L=>by have:=Z.out;omega);have x9:=G.size;clear j3 i6;refine q.out _ _ (a7.out _ b8) (fun hS5=>?_);clear q K;refine tkH (i:=5) (d:=51) (v:=?_) rfl (Or.inl ⟨by rfl,?_⟩) hS5 ?_;rotate_left
        ·intro w o7;(try dsimp only at o7);go_simp;rw [if_pos ⟨by omega,by omega⟩,show ((m:Int)+(t.length:Int)).toNat=m+t.length by omega]
        try simp only [Act.put,List.setIfInBounds_toArray]
        refine rH [6,7] ?_;have c1:x≠j+2:=by omega
        have d1:m+(t++[s]).length=m+t.length+1:=by simp;omega
        have i2:=cell_of_one a0;have i4:=free_of_one a0;refine AllReadyH.cons rfl (fun K q=>?_) (AllReadyH.cons rfl (fun K q=>?_) AllReadyH.nil)
        ·rw [if_pos (show Region.wanted _ _=true from rfl)];refine wp_store_mid 27 (.tmp 51) (.tmp 47) rfl x ((m+t.length)*7) _ rfl rfl (Yl a2 (by simp;omega)) kz (all_oneCell_toArray Qv) ?_;have u:=Q1.setCells a6 x (Q2 M O P Q R T U Y X) ((m+t.length)*7);have b0:=Xs (cs:=Q2 M O P Q R T U Y X) a2 b5.out.1 rfl;have b9:=u.heap b8 oz;have a1:=u.heap a0 oz;have a3:=(e0.ext u (fun b hb e=>by omega)).push rfl (d9.keep u (fun b hb e=>by omega));have d6:=d5.keepC a9 u (fun b e=>.inr (.inr (by obtain⟨i3,c0⟩:=Yr a2;exact⟨_,e ▸ c0,rfl⟩)));have d3:Ext w _:=d2.after u (fun b I L=>by have:=Z.out;omega);refine q.out _ _ (a7.out _ b9) (fun hS6=>?_);clear q K;unfold Q2 at u b0 b9 a1 a3 d6 d3;have b1:Q1 (fun b=>b=A\/b=x) y _:=(G.mono (fun _ _ e=>.inl e)).trans (u.mono (fun _ _ e=>.inr e));simp only at u b0 b9 a1 a3 d6 d3 b1 ⊢;generalize a6.setCells x ((m+t.length)*7) [.int .i64 M,.int .u32 (O:Int),.int .u32 (P:Int),.bool Q,.int .i64 R,.int .i64 T,.slice U Y X]=e4 at u b0 b9 a1 a3 d6 d3 b1 hS6 ⊢;clear u e0 d9 d5 d2 b8 a0 a2 G hS5 i2 i4;refine rH [7] ?_;refine AllReadyH.cons rfl (fun K q=>?_) AllReadyH.nil;have w7:=cell_of_one a1;have x5:=free_of_one a1;go_simp;have z:=Q1.set1 e4 (j+2) 0 (.slice (some ⟨x,0,none⟩) (m+t.length+1) H);have d4:(e4.setCell ⟨j+2,0,none⟩ (.slice (some ⟨x,0,none⟩) (m+t.length+1) H)).heap[j+2]?=some (.cells #[.slice (some ⟨x,0,none⟩) (m+t.length+1) H] 22 (0,0)):=by
          simp only [World.setCell,Array.getElem?_modify,a1];simp
         refine q.out _ _ (a7.out _ (z.heap b9 oz)) (fun hS9=>?_);clear q K;refine wpAnyH_done kz ?_ _;refine⟨(b1.mono (fun b _ n=>?_)).trans (z.mono (fun b _ n=>?_)),x,H,b4++[.int .i64 M,.int .u32 (O:Int),.int .u32 (P:Int),.bool Q,.int .i64 R,.int .i64 T,.slice U Y X],?_,?_,c1,by omega,by omega,by omega,?_,d3.after z (fun b I L=>by have:=Z.out;omega),d6.keepC a9 z (fun b e=>.inr (.inr ⟨_,e ▸ a1,rfl⟩))⟩
         ·show ¬ ((b=D\/b<j)\/b=E.heap.size\/b=E.heap.size+1);omega
         ·show ¬ ((b=D\/b<j)\/b=E.heap.size\/b=E.heap.size+1);omega
         ·rw [d1];exact d4
         ·rw [d1];exact Zz b0 z (fun b hb e=>by cases hb;exact c1 e)
         ·rw [List.map_append,<-List.append_assoc];exact a3.ext z (fun b hb e=>by omega)
        ·go_simp;have z:=Q1.set1 a6 (j+2) 0 (.slice (some ⟨x,0,none⟩) (m+t.length+1) H);have d4:(a6.setCell ⟨j+2,0,none⟩ (.slice (some ⟨x,0,none⟩) (m+t.length+1) H)).heap[j+2]?=some (.cells #[.slice (some ⟨x,0,none⟩) (m+t.length+1) H] 22 (0,0)):=by
          simp only [World.setCell,Array.getElem?_modify,a0];simp
         have f4:=z.heap b8 oz;have d8:=Zz a2 z (fun b hb e=>by cases hb;exact c1 e);have a3:=e0.ext z (fun b hb e=>by omega);have j2:=d9.keep z (fun b hb e=>by omega);have j1:=d5.keepC a9 z (fun b e=>.inr (.inr ⟨_,e ▸ a0,rfl⟩));have i8:Ext w _:=d2.after z (fun b I L=>by have:=Z.out;omega);have b1:Q1 (fun b=>b=A\/b=j+2) y _:=(G.mono (fun _ _ e=>.inl e)).trans (z.mono (fun _ _ e=>.inr e));refine q.out _ _ (a7.out _ f4) (fun hS6=>?_);clear q K;generalize a6.setCell ⟨j+2,0,none⟩ (.slice (some ⟨x,0,none⟩) (m+t.length+1) H)=e4 at z d4 f4 d8 a3 j2 j1 i8 b1 hS6 ⊢;clear z e0 d9 d5 d2 b8 a0 a2 G hS5 i2 i4;refine rH [6] ?_;refine AllReadyH.cons rfl (fun K q=>?_) AllReadyH.nil;rw [if_pos (show Region.wanted _ _=true from rfl)];refine wp_store_mid 27 (.tmp 51) (.tmp 47) rfl x ((m+t.length)*7) _ rfl rfl (Yl d8 (by simp;omega)) kz (all_oneCell_toArray Qv) ?_;have u:=Q1.setCells e4 x (Q2 M O P Q R T U Y X) ((m+t.length)*7);have b0:=Xs (cs:=Q2 M O P Q R T U Y X) d8 b5.out.1 rfl;refine q.out _ _ (a7.out _ (u.heap f4 oz)) (fun hS9=>?_);clear q K;refine wpAnyH_done kz ?_ _;refine⟨(b1.mono (fun b _ n=>?_)).trans (u.mono (fun b _ n=>?_)),x,H,b4++Q2 M O P Q R T U Y X,?_,?_,c1,by omega,by omega,by omega,?_,i8.after u (fun b I L=>by have:=Z.out;omega),j1.keepC a9 u (fun b e=>.inr (.inr (by obtain⟨i3,c0⟩:=Yr d8;exact⟨_,e ▸ c0,rfl⟩)))⟩
         ·show ¬ ((b=D\/b<j)\/b=E.heap.size\/b=E.heap.size+1);omega
         ·show ¬ ((b=D\/b<j)\/b=E.heap.size\/b=E.heap.size+1);omega
         ·rw [d1];exact u.heap d4 (fun e=>c1 e.symm)
         ·rw [d1];exact b0
         ·rw [List.map_append,<-List.append_assoc];exact(a3.ext u (fun b hb e=>by omega)).push rfl (j2.keep u (fun b hb e=>by omega))
     case done=>
      rintro y ⟨A,b2,b4,a4,c3,g6,q4,q5,m7,e8,g7,g8⟩ a8 x7;rw [U8] at a4 c3;have l0:(xsB cs J).map (fun s=>B.l.getD s.1 B)=(B.l.take J).reverse:=by rw [Wx cs (fun i=>B.l.getD i B),Dp _ _ _ o8]
      rw [l0] at e8;have g3:(g9++(B.l.take J).reverse).length=m+J:=by rw [List.length_append,n9,List.length_reverse,List.length_take,Nat.min_eq_left o8]
      have t5:chk (40 - (a5+1)) (g9++(B.l.take J).reverse).reverse=Ze p:=by
       rw [List.reverse_append,List.reverse_reverse,b7,Mp _ _ _ oz,<-i0.out,show 40 - (a5+1)=39 - a5 by omega]
      have u2:Z2 j ({ target:=.collected E.heap.size,args:=#[] }::g0) y:=Z2.cons g8 oz x7 (fun e he a8=>by have:=a9 e he _ a8;omega);rw [<-g3] at a4 c3;obtain⟨v7,w1,k8,b5,k9,w0⟩:=Zh6 t5 u2 a4 c3 e8 g3;clear t5 u2 a4 c3 e8 g3 l0 l3 l6 l8 f3 l7 l5 m2 f5 m4 b7;go_wp2;exact⟨⟨a5+1,_,A,b2,b4,_,by omega,rfl,⟨rfl,rfl,tz⟩,w1.out,k8.out,b5.out,g6,k9.out,v7.out,g7,by have:=w0.out;omega⟩,nz⟩
     case stop=>exact fun _ _ _ _ _ _ n=>n.elim
   ·rw [if_neg q3] at i0;go_wp2;refine X8 j0 (fun w'=>results_tmp rfl _ _ _) ?_;intro w' I _;exact⟨Qr i0.out,n6.after I fun b' L g1=>by have:=g1.1;have:=Z.out;omega⟩
end Go.Proofs.YtbmbdoanammlgaaDoor
