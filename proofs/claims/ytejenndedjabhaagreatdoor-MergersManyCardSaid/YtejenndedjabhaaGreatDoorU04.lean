/- PLAIN: -/
import Derived.Test.YtejenndedjabhaaGreatDoorU03
set_option maxRecDepth 100000
set_option maxHeartbeats 8000000
namespace Go.Ab
def Ys(a b:Nat):Nat:=a &&& (4294967295 ^^^ b)
theorem Q3v(i:Nat):(4294967295:Nat).testBit i=decide (i<32):=Nat.testBit_two_pow_sub_one 32 i
theorem Ul{a:Nat}(h:a<4294967296){i:Nat}(hi:32<=i):a.testBit i=false:=
 Nat.testBit_lt_two_pow (Nat.lt_of_lt_of_le h (by
  have:=Nat.pow_le_pow_right (show 0<2 by decide) hi
  simpa using this))
theorem Uy{a:Nat}(b:Nat)(c:a<4294967296)(i:Nat):(Ys a b).testBit i=(a.testBit i && !b.testBit i):=by
 unfold Ys;rw [Nat.testBit_and,Nat.testBit_xor,Q3v];by_cases d:i<32
 ·simp [d]
 ·rw [Ul c (by omega)];rfl
theorem Pc{a:Nat}(h:∀ i,32<=i->a.testBit i=false):a<4294967296:=
 Nat.lt_pow_two_of_testBit (n:=32) a h
theorem Es{a b:Nat}(ha:a<4294967296):Ys a b<4294967296:=Pc fun i hi=>by rw [Uy b ha,Ul ha hi];rfl
def K6(s f:Nat × Nat)(m:Nat):Nat × Nat:=(Ys s.1 m ||| (f.1 &&& m),Ys s.2 m ||| (f.2 &&& m))
def Q5i(s:Nat × Nat)(f:Nat):Int:=if s.1.testBit f=true then 1 else if s.2.testBit f=true then -1 else 0
def Qb6(s:Nat × Nat)(f:Nat)(v:Int):Nat × Nat:=(Ys s.1 (2 ^ f) ||| (if v=1 then 2 ^ f else 0),Ys s.2 (2 ^ f) ||| (if v=-1 then 2 ^ f else 0))
def Qe(s:Nat × Nat):Prop:=s.1<4294967296/\s.2<4294967296
def okS(s:Nat × Nat):Bool:=Z7 s.1 s.2
theorem Bt{s:Nat × Nat}(f:Nat × Nat)(m:Nat)(a:Qe s)(i:Nat):(K6 s f m).1.testBit i=if m.testBit i=true then f.1.testBit i else s.1.testBit i:=by
 unfold K6;simp only [Nat.testBit_or,Nat.testBit_and,Uy m a.1];cases m.testBit i <;> simp
theorem T1{s:Nat × Nat}(f:Nat × Nat)(m:Nat)(a:Qe s)(i:Nat):(K6 s f m).2.testBit i=if m.testBit i=true then f.2.testBit i else s.2.testBit i:=by
 unfold K6;simp only [Nat.testBit_or,Nat.testBit_and,Uy m a.2];cases m.testBit i <;> simp
theorem Tv{s f:Nat × Nat}(m:Nat)(hs:Qe s)(hf:Qe f):Qe (K6 s f m):=
 ⟨Pc fun i hi=>by rw [Bt f m hs,Ul hf.1 hi,Ul hs.1 hi];simp,Pc fun i hi=>by rw [T1 f m hs,Ul hf.2 hi,Ul hs.2 hi];simp⟩
theorem Pe{s:Nat × Nat}(l:Qe s):okS s=true↔∀ i,i<32->¬ (s.1.testBit i=true/\s.2.testBit i=true)/\((s.1.testBit i=true\/s.2.testBit i=true)->i<24):=by
 unfold okS Z7;rw [Bool.and_eq_true,beq_iff_eq,beq_iff_eq];constructor
 ·rintro⟨b,d⟩ i c;refine⟨fun⟨q1,q2⟩=>?_,fun a=>?_⟩
  ·have:=congrArg (fun x=>x.testBit i) b;simp [q1,q2] at this
  ·apply Nat.lt_of_not_le;intro m;have e:(s.1 ||| s.2)<2 ^ 24:=by
    have j:(s.1 ||| s.2)<16777216:=by omega
    simpa using j
   have k:=Nat.testBit_lt_two_pow (Nat.lt_of_lt_of_le e (Nat.pow_le_pow_right (show 0<2 by decide) m));rw [Nat.testBit_or] at k;rcases a with a | a <;> simp [a] at k
 ·intro a
  have f:∀ i,s.1.testBit i=true\/s.2.testBit i=true->i<24:=fun i c=>by
   apply (a i ?_).2 c;apply Nat.lt_of_not_le;intro g;rw [Ul l.1 g,Ul l.2 g] at c;simp at c
  refine⟨Nat.eq_of_testBit_eq fun i=>?_,?_⟩
  ·rw [Nat.testBit_and,Nat.zero_testBit];cases b:s.1.testBit i
   ·rfl
   ·cases d:s.2.testBit i
    ·rfl
    ·have c:=f i (.inl b);exact absurd ⟨b,d⟩ (a i (by omega)).1
  ·have e:(s.1 ||| s.2)<2 ^ 24:=Nat.lt_pow_two_of_testBit _ fun i c=>by
    rw [Nat.testBit_or];cases b:s.1.testBit i
    ·cases d:s.2.testBit i
     ·rfl
     ·have:=f i (.inr d);omega
    ·have:=f i (.inl b);omega
   have j:(s.1 ||| s.2)<16777216:=by simpa using e
   omega
theorem Q4a{s f:Nat × Nat}{m:Nat}(a:Qe s)(c:Qe f)(j:okS s=true)(k:okS f=true):okS (K6 s f m)=true:=by
 rw [Pe (Tv m a c)];intro b d;rw [Bt f m a,T1 f m a];have g:=(Pe a).1 j b d;have i:=(Pe c).1 k b d;by_cases e:m.testBit b=true
 ·simp only [e,if_true];exact i
 ·simp only [e];exact g
def Q59(s c:Nat × Nat):Bool:=c.1 &&& s.1 == c.1 && c.2 &&& s.2 == c.2
theorem Q86{a b:Nat}:a &&& b=a↔∀ i,a.testBit i=true->b.testBit i=true:=by
 constructor
 ·intro c i d;have:=congrArg (fun x=>x.testBit i) c;simp [d] at this;exact this
 ·intro c;refine Nat.eq_of_testBit_eq fun i=>?_
  rw [Nat.testBit_and];cases h1:a.testBit i
  ·rfl
  ·rw [c i h1];rfl
theorem Rm{a b:Nat}(e:a<4294967296):Ys a b=0↔a &&& b=a:=by
 rw [Q86];constructor
 ·intro d c f;have:=congrArg (fun x=>x.testBit c) d;simp only [Uy b e,Nat.zero_testBit,f,Bool.true_and] at this
  simpa using this
 ·intro d;refine Nat.eq_of_testBit_eq fun c=>?_
  rw [Uy b e,Nat.zero_testBit];cases h1:a.testBit c
  ·rfl
  ·rw [d c h1];rfl
end Go.Ab
namespace Go.Ab
open Go.RowKit
theorem Q8o(a:Nat){b:Nat}(c:b<4294967296):a &&& (4294967295 - b)=Ys a b:=by
 unfold Ys
 congr 1
 refine Nat.eq_of_testBit_eq fun i=>?_
 rw [Nat.testBit_xor,Q3v];have:=Nat.testBit_two_pow_sub_succ (n:=32) (x:=b) c i;rw [show (2 ^ 32 - (b+1):Nat)=4294967295 - b by omega] at this;rw [this];by_cases d:i<32
 ·simp [d]
 ·rw [Ul c oz];simp [d]
theorem Ft(a b:Nat)(d:a<4294967296)(c:b<4294967296):bits .andNot .u32 (a:Int) (b:Int)=((Ys a b:Nat):Int):=by
 rw [u32_andNot_nat a b d c,Q8o a c]
end Go.Ab
namespace Go.Ab
def Q9n(n:Nat):List Int:=(List.range n).map fun(i:Nat)=>(i:Int)
def Qa1(F:List Int):Bool:=decide (F=Q9n F.length)
def Q9j(F:List Int):Bool:=(List.range F.length).all fun i=>F.contains (i:Int)
def Qau(F:List Int):Int:=if Qa1 F=true then 1 else if Q9j F=true then 4 else 5
end Go.Ab
namespace Go.Ab
open Go.RowKit
def Qh(L:List Int):List Value:=L.map fun x=>Value.int .i64 x
theorem M1(L:List Int)(x:Int):Qh (L++[x])=Qh L++[.int .i64 x]:=by simp [Qh]
def Qa9(L:List Int):Bool:=decide (∀ i,i<L.length->i+1<L.length->L.getD i 0<=L.getD (i+1) 0)
def Q0z(X:List Int)(j:Nat):List Int:=(X.set (j+1) (X.getD j 0)).set j (X.getD (j+1) 0)
theorem Ri(X:List Int){j:Nat}(h:j+1<X.length)(k:Nat):(Q0z X j).getD k 0=if k=j then X.getD (j+1) 0 else if k=j+1 then X.getD j 0 else X.getD k 0:=by
 unfold Q0z;rw [List.getD_eq_getElem?_getD,List.getElem?_set];by_cases a:j=k
 ·subst a;rw [if_pos rfl,if_pos rfl,List.length_set,if_pos oz];rfl
 ·rw [if_neg a,if_neg (fun e=>a e.symm),List.getElem?_set];by_cases b:j+1=k
  ·subst b;rw [if_pos rfl,if_pos rfl,if_pos h];rfl
  ·rw [if_neg b,if_neg (fun e=>b e.symm),List.getD_eq_getElem?_getD]
def Dk(X:List Int)(i j:Nat):Prop:=∀ p q,p<q->q<=i->q≠j->X.getD p 0<=X.getD q 0
theorem Dk.start{X:List Int}{i:Nat}(h:∀ p q,p<q->q<i->X.getD p 0<=X.getD q 0):Dk X i i:=fun p q h1 h2 h3=>h p q h1 oz
theorem Dk.swap{X:List Int}{i j:Nat}(h:Dk X i (j+1)) (l:j+1<=i) (m:i<X.length) (n:X.getD (j+1) 0<X.getD j 0):Dk (Q0z X j) i j:=by
 intro a d g e k;rw [Ri X oz,Ri X oz,if_neg k];by_cases c:d=j+1
 ·subst c;rw [if_pos rfl];by_cases b:a=j
  ·subst b;rw [if_pos rfl];omega
  ·rw [if_neg b,if_neg oz];exact h a j oz oz oz
 ·rw [if_neg c];by_cases b:a=j
  ·subst b;rw [if_pos rfl];exact h (a+1) d oz e c
  ·rw [if_neg b];by_cases f:a=j+1
   ·subst f;rw [if_pos rfl];exact h j d oz e c
   ·rw [if_neg f];exact h a d g e c
theorem Dk.stop{X:List Int}{i j:Nat}(h:Dk X i j)(f:j<=i)(d:j=0\/∃ k,j=k+1/\¬ X.getD (k+1) 0<X.getD k 0):∀ p q,p<q->q<i+1->X.getD p 0<=X.getD q 0:=by
 intro p q b e;by_cases a:q=j
 ·subst a;rcases d with rfl | ⟨k,rfl,g⟩
  ·omega
  ·by_cases c:p=k
   ·subst c;omega
   ·exact Int.le_trans (h p k oz oz oz) oz
 ·exact h p q b oz a
end Go.Ab
namespace Go.Proofs.YtejenndedjabhaaGreatDoor
open Go.RowKit Go.Ab
theorem Zq{w:World}{v:Value}{n:Nat}{xs:List Value}(h:Rd w v n 1 xs){k:Nat}(e:k<n):∃ g off cap,v=.slice (some ⟨g,off,none⟩) n cap/\g<w.heap.size/\w.cell? ⟨g,off+k,none⟩=some (xs.getD k undef):=by
 obtain⟨_,_,d,cap,rfl,a⟩:=h;obtain⟨g,off,rfl,c,b⟩:=a oz;exact⟨g,off,cap,rfl,c,b k oz⟩
theorem Y1(L:List Int){i:Nat}(h:i<L.length):(Qh L).getD i undef=.int .i64 L[i]:=by
 unfold Qh;rw [List.getD_eq_getElem?_getD,List.getElem?_map,List.getElem?_eq_getElem h];rfl
attribute [local go_sem] Oper.semAt_some Z6 Qn
def Q9q(F:Int->Bool)(xs:List Int)(z:Int):Prop:=(z=-1/\xs.any F=false)\/∃ k:Nat,∃ h:k<xs.length,z=(k:Int)/\(xs.take k).any F=false/\F xs[k]=true
theorem S3{w:World}{ao:Option Addr}{N cap:Nat}{xs:List Int}(q:Rd w (.slice ao N cap) N 1 (Qh xs)) (C:xs.length=N) (d:Nat) (lb:Array Value) (j:∀ args w,(callFunc d args).run Tryz.prog w=.ok (.enter d args) w)
  (F:Int->Bool) (B:∀ x∈xs,∀ V,Ext w V->Calls Tryz.prog d (#[.int .i64 x]++lb) V fun e w'=>e=.returned (.bool (F x))/\Ext V w') :
  Calls Tryz.prog 114 #[.slice ao N cap,.func (.func d) #[] lb] w fun e w'=>∃ z:Int,e=.returned (.int .i64 z)/\Q9q F xs z/\Ext w w':=by
 have O:=q.2.1;unfold maxLen at O;obtain⟨K,J,v,I⟩:=Zh4 q B C j;clear q B C j;go_enter Tryz.func114,Tryz.ntmps114;go_wp2
 refine wp_loop (fun a n=>∃(b:Nat),b<=N/\a.defers=[]/\gS a [0,1,7,8]=(19,[.slice ao N cap,.func (.func d) #[] lb,.int .i64 N,.int .i64 b])/\(xs.take b).any F=false/\Ext w n)
  (fun a _=>N - (intOf (a.tmps.getD 8 undef)).toNat) ?_ ?_
 ·exact⟨0,by omega,rfl,rfl,by simp,Q0.refl _ _⟩
 rintro⟨X,_⟩ n ⟨b,U,M,H,D,y⟩;subst M;obtain⟨Y,rfl⟩:=Qt H;clear H;have l:=Zh D;have c:=Zh y;clear D y;by_cases E:b<N
 ·have L:(b:Int)<(N:Int):=by omega
  have S:(0:Int)<=(b:Int):=by omega
  have k:b<xs.length:=by rw [v.out];exact E
  obtain⟨R,W,Q,G,T,p⟩:=Zq (K.out.ext c.out) E;simp only [zV,true_and] at G;obtain⟨rfl,rfl⟩:=G;rw [Y1 xs k] at p;have i:=J.out _ (List.getElem_mem k) n c.out;obtain⟨x,r⟩:=zE (xs[b]);rw [r] at p i;obtain⟨g,o⟩:=zE (F x);rw [o] at i;have s:Hid (F xs[b]=g):=Zh (by rw [r];exact o);have t:=Zh i;clear i r o;have j:=I.out;go_wp2_with fail;clear j;refine t.out.mono ?_;rintro e P ⟨rfl,A⟩;have u:=Zh (c.out.trans A);clear t c A p;cases g
  ·have f:(xs.take (b+1)).any F=false:=by
    rw [List.take_succ_eq_append_getElem k,List.any_append,l.out];simp [s.out]
   have m:=Zh f;clear f;go_wp2;exact⟨⟨b+1,by omega,tz,rfl,m.out,u.out⟩,nz⟩
  ·go_wp2;go_ret;exact⟨_,rfl,.inr ⟨b,k,rfl,l.out,s.out⟩,u.out⟩
 ·obtain rfl:b=N:=by omega
  have L:¬ (b:Int)<(b:Int):=by omega
  have f:xs.any F=false:=by have:=l.out;rwa [List.take_of_length_le (by rw [v.out];exact Nat.le_refl _)] at this
  have m:=Zh f;clear f;go_wp2;go_ret;exact⟨_,rfl,.inl ⟨rfl,m.out⟩,c.out⟩
theorem Bw{w:World}{ao:Option Addr}{N cap:Nat}{xs:List Int}(j:Rd w (.slice ao N cap) N 1 (Qh xs)) (d:xs.length=N) (a:Nat) (lb:Array Value) (g:∀ args w,(callFunc a args).run Tryz.prog w=.ok (.enter a args) w)
  (F:Int->Bool) (c:∀ x∈xs,∀ V,Ext w V->Calls Tryz.prog a (#[.int .i64 x]++lb) V fun e w'=>e=.returned (.bool (F x))/\Ext V w') :
  Calls Tryz.prog 115 #[.slice ao N cap,.func (.func a) #[] lb] w fun e w'=>e=.returned (.bool (xs.any F))/\Ext w w':=by
 have i:=S3 j d (cap:=cap) a lb g F c;have l:=Zh i;clear i c j g d;go_enter Tryz.func115,Tryz.ntmps115;go_wp2_with fail;refine l.out.mono ?_;rintro e r ⟨p,rfl,k,n⟩;have f:decide (0<=p)=xs.any F:=by
  rcases k with ⟨rfl,b⟩ | ⟨q,o,rfl,_,b⟩
  ·rw [b];rfl
  ·rw [List.any_eq_true.2 ⟨_,List.getElem_mem o,b⟩];simp
 have m:=Zh f;clear k f;go_wp2;go_ret;exact⟨by rw [<-m.out];rfl,n⟩
end Go.Proofs.YtejenndedjabhaaGreatDoor
namespace Go.Ab
open Go.RowKit
theorem Q98(b o j:Nat):(⟨b,o,none⟩:Addr).add j=⟨b,o+j,none⟩:=by
 unfold Addr.add;split
 ·rename_i a;subst a;rfl
 ·simp
theorem Rc:∀(ws:Wd) (a:Nat),Ql (ws.drop a)=(Ql ws).drop (a*2)
 | _,0=>rfl
 | [],a+1=>by simp [Ql]
 | s::ws,a+1=>by
  rw [List.drop_succ_cons,Rc ws a,U7,show (a+1)*2=a*2+1+1 by omega,List.drop_succ_cons,List.drop_succ_cons]
theorem R0:∀(ws:Wd) (a:Nat),Ql (ws.take a)=(Ql ws).take (a*2)
 | _,0=>rfl
 | [],a+1=>by simp [Ql]
 | s::ws,a+1=>by
  rw [List.take_succ_cons,U7,R0 ws a,U7,show (a+1)*2=a*2+1+1 by omega,List.take_succ_cons,List.take_succ_cons]
theorem Q4.cut{w:World}{A:Option Addr}{c:Nat}{ws:Wd}(h:Q4 w (.slice A ws.length c) ws) {a b:Nat} (u:a<=b) (v:b<=ws.length) (x:ws.length<=c) :
  Q4 w (sliced A a b c 2) ((ws.drop a).take (b - a)):=by
 have d:((ws.drop a).take (b - a)).length=b - a:=by rw [List.length_take,List.length_drop];omega
 obtain⟨⟨r,t,p,q,f,k⟩,l⟩:=h;simp only [zV,true_and] at f;obtain⟨rfl,rfl⟩:=f;refine⟨⟨by rw [Kc],by omega,_,_,by unfold sliced;rw [d],fun h0=>?_⟩,fun s hs=>l s (List.mem_of_mem_drop (List.mem_of_mem_take hs))⟩;rw [d] at h0;obtain⟨e,g,rfl,o,m⟩:=k oz
 have i:∀ j,j<(b - a)*2->w.cell? ⟨e,g+a*2+j,none⟩=some ((Ql ((ws.drop a).take (b - a))).getD j undef):=fun j hj=>by
  rw [Nat.add_assoc,m (a*2+j) oz,R0,Rc]
  congr 1
  rw [List.getD_eq_getElem?_getD,List.getD_eq_getElem?_getD,List.getElem?_take,if_pos hj,List.getElem?_drop]
 rw [d];by_cases n:c=a
 ·omega
 ·exact⟨e,g+a*2,by rw [if_neg n];simp [Q98],o,fun j hj=>i j hj⟩
theorem Tl{ws:Wd}{a b:Nat}(h:b=ws.length):(ws.drop a).take (b - a)=ws.drop a:=by
 subst h;rw [<-List.length_drop,List.take_length]
theorem take_zero{ws:Wd}(b:Nat):(ws.drop 0).take (b - 0)=ws.take b:=by simp
section
variable {P:Program} {t:TypeId} {size:Nat}
theorem Sy{A:Option Addr}{n c:Nat}(e:P.underlying t=some (.slice (P.elem t))) (d:∀ D,(sizeOf (P.elem t)).run P D=.ok size D) (a b:Nat) (f:a<=b) (g:b<=c) (D:World) :
  (Instr.slice t (.slice A n c) (some (.int .i64 (a:Int))) (some (.int .i64 (b:Int))) none).run P D=.ok (sliced A a b c size) D:=by
 rw [run_slice_lh D t A n c e .i64 .i64 (a:Int) (b:Int) oz oz oz,d];rfl
theorem Gy{A:Option Addr}{n c:Nat}(d:P.underlying t=some (.slice (P.elem t))) (a:∀ D,(sizeOf (P.elem t)).run P D=.ok size D) (b:Nat) (e:b<=c) (D:World) :
  (Instr.slice t (.slice A n c) none (some (.int .i64 (b:Int))) none).run P D=.ok (sliced A 0 b c size) D:=by
 rw [run_slice_h D t A n c d .i64 (b:Int) oz oz,a];rfl
theorem Wu{A:Option Addr}{n c:Nat}(d:P.underlying t=some (.slice (P.elem t))) (b:∀ D,(sizeOf (P.elem t)).run P D=.ok size D) (a:Nat) (e:a<=n) (D:World) :
  (Instr.slice t (.slice A n c) (some (.int .i64 (a:Int))) none none).run P D=.ok (sliced A a n c size) D:=by
 rw [run_slice_l D t A n c d .i64 (a:Int) oz oz,b];rfl
end
end Go.Ab
namespace Go.Ab
open Go.RowKit
def W0(xs:List Value)(j:Nat):List Value:=(xs.drop (j*7)).take 7
theorem Q2s{xs:List Value}{j i:Nat}(a:i<7):(W0 xs j)[i]?=xs[j*7+i]?:=by
 unfold W0;rw [List.getElem?_take_of_lt a,List.getElem?_drop]
theorem Q1y{xs:List Value}{j i:Nat}{v:Value}(h:(W0 xs j)[i]?=some v):xs[j*7+i]?=some v:=by
 have a:i<(W0 xs j).length:=(List.getElem?_eq_some_iff.1 h).1;have:i<7:=by unfold W0 at a;rw [List.length_take] at a;omega
 rw [<-Q2s this];exact h
theorem Q4d{w:World}{base:Nat}{e:TypeId}{g n cap:Nat}{xs:List Value}(h:w.ownsRow base e 7 (.slice (some ⟨g,0,none⟩) n cap) n xs) (j:Nat):w.rangeAt g (j*7) (W0 xs j):=
 R9 h fun _ _ hv=>Q1y hv
theorem R1:∀(vs cur:List Value) (o i:Nat),o+vs.length<=cur.length->(Xb cur o vs)[i]?=if o<=i/\i<o+vs.length then vs[i - o]? else cur[i]?
 | [],cur,o,i,_=>by unfold Xb;rw [if_neg (by simp only [List.length_nil];omega)]
 | v::vs,cur,o,i,h=>by
  simp only [List.length_cons] at h ⊢;unfold Xb;rw [R1 vs _ _ _ (by rw [List.length_set];omega)];by_cases h1:o+1<=i/\i<o+1+vs.length
  ·rw [if_pos h1,if_pos oz,show i - o=(i - (o+1))+1 by omega,List.getElem?_cons_succ]
  ·rw [if_neg h1];by_cases h2:i=o
   ·subst h2;rw [if_pos oz,Nat.sub_self,List.getElem?_set_self oz];rfl
   ·rw [if_neg oz,List.getElem?_set_ne oz]
inductive Uq (T:TypeId) (w:World):Pat->List Value->(Nat->Prop)->Prop
 | mk {k:Int} {pl mi:Nat} {nt:Bool} {mn mx:Int} {l:List Pat} {ao:Option Addr} {cap:Nat} {K:Nat->Prop} (xs:List Value) (Ks:Nat->Nat->Prop)
   (hpl:pl<4294967296) (hmi:mi<4294967296)
   (hO:w.ownsRow 0 T 7 (.slice ao l.length cap) l.length xs)
   (hg:∀ g,(Value.slice ao l.length cap).ownBlock=some g->K g/\∀ j,j<l.length->¬ Ks j g)
   (hs:∀ j b,j<l.length->Ks j b->K b)
   (hd:∀ i j b,i<l.length->j<l.length->i≠j->Ks i b->¬ Ks j b)
   (hc:∀ j (h:j<l.length),Uq T w l[j] (W0 xs j) (Ks j)):Uq T w (.node k pl mi nt mn mx l) (Qg k pl mi nt mn mx ao l.length cap) K
theorem Uq.keep{T:TypeId}{S:Nat->Prop}{A B:World}(d:Q0 S A B):∀ {p:Pat} {cs:List Value} {K:Nat->Prop},Uq T A p cs K->(∀ b,K b->¬ S b)->Uq T B p cs K:=by
 intro p cs K a
 induction a with
 | mk xs Ks hpl hmi hO hg hs hd hc ih=>
  intro c;exact .mk xs Ks hpl hmi (Qd hO d fun g hb=>c g (hg g hb).1) hg hs hd fun j a=>ih j a fun b hb=>c b (hs j b a hb)
theorem Uq.mono{T:TypeId}{w:World}{p:Pat}{cs:List Value}{K L:Nat->Prop}(h:Uq T w p cs K)(a:∀ b,K b->L b):Uq T w p cs L:=by
 cases h with
 | mk xs Ks hpl hmi hO hg hs hd hc=>exact .mk xs Ks hpl hmi hO (fun g hb=>⟨a g (hg g hb).1,(hg g hb).2⟩) (fun j b h1 h2=>a b (hs j b h1 h2)) hd hc
theorem K5{w:World}{base:Nat}{e:TypeId}{sz:Nat}{ao:Option Addr}{n cap:Nat}{xs:List Value}(h:w.ownsRow base e sz (.slice ao n cap) n xs):n<=cap/\cap<=maxLen:=by
 rcases h.2 with ⟨a,_⟩ | ⟨_,_,_,a,_,_,b,c,_⟩
 ·simp only [zV] at a;simp [a.2.1,a.2.2]
 ·simp only [zV] at a;obtain⟨_,_,rfl⟩:=a;exact⟨b,c⟩
theorem Mq{w:World}{base:Nat}{e:TypeId}{sz n cap:Nat}{ao:Option Addr}{xs:List Value}(h:w.ownsRow base e sz (.slice ao n cap) n xs) (b:0<n):∃ g,ao=some ⟨g,0,none⟩:=by
 rcases h.2 with ⟨a,_⟩ | ⟨g,_,_,a,_⟩
 ·simp only [zV] at a;omega
 ·cases a;exact⟨g,rfl⟩
theorem Uq.at{T:TypeId}{w:World}:∀ {p:Pat} {cs:List Value} {K:Nat->Prop},Uq T w p cs K->Qu K w p cs:=by
 intro p cs K c
 induction c with
 | @mk k pl mi nt mn mx l ao cap K xs Ks hpl hmi hO hg hs hd hc ih=>
  unfold Qu;obtain⟨d,e⟩:=K5 hO;refine⟨ao,cap,rfl,hpl,hmi,d,e,Z1.mk fun j hj=>?_⟩;obtain⟨a,rfl⟩:=Mq hO oz;refine⟨a,0,W0 xs j,rfl,(hg a rfl).1,(hO.lt a rfl).2,by rw [Nat.zero_add,Nat.zero_add];exact Q4d hO j,Qu.mono (fun b hb=>hs j b hj hb) (ih j hj)⟩
end Go.Ab
namespace Go.Ab
open Go.RowKit
def Kj{α:Type}(P:Program)(gf:Nat)(lb:Array Value)(M:Nat->Nat->Prop)(E:Nat->(Nat->Prop)->α->World->Array Value->Prop) (xs:List α) (K:Nat->Prop) (w:World):Prop:=
 ∀(l:Nat) (J Jx:(Nat->Prop)->List α->World->Prop) (W:World),Q0 (fun b=>¬ K b) w W ->
  (∀ O O' pre A B,J O pre A->Q0 (fun b=>O b/\M W.heap.size b) A B->(∀ b,O' b->(O b\/A.heap.size<=b)/\b<B.heap.size)->J O' pre B) ->
  (∀ O O' pre A B,Jx O pre A->Q0 (fun b=>O b/\M W.heap.size b) A B->(∀ b,O' b->(O b\/A.heap.size<=b)/\b<B.heap.size)->Jx O' pre B) ->
  (∀ O pre x rest A ys,xs=pre++x::rest->J O pre A->E W.heap.size O x A ys->YieldAt Fence.wide 0 P l ys A fun e B=>
   (e=.returned (.bool true)/\J O (pre++[x]) B/\Q0 (fun b=>¬ K b/\¬ O b) A B)\/(e=.returned (.bool false)/\Jx O (pre++[x]) B/\Q0 (fun b=>¬ K b/\¬ O b) A B)) ->
  J (fun _=>False) [] W ->
  Calls P gf (#[.func (.yield l) #[] #[]]++lb) W fun e B=>(∃ v,e=.returned v)/\∃ O,(J O xs B\/∃ pre x rest,xs=pre++x::rest/\Jx O (pre++[x]) B)
theorem Wb{α:Type}{P:Program}{g:Operand}{ps:Array Tmp}{assign body:Code}{Q:Exit->Act->World->Prop}{a:Act}{w:World}
  {gf:Nat} {lb:Array Value} (c9:a.eval g=.func (.func gf) #[] lb) (b7:∀ args w,(callFunc gf args).run P w=.ok (.enter gf args) w)
  {M:Nat->Nat->Prop} {E:Nat->(Nat->Prop)->α->World->Array Value->Prop} {xs:List α} {K:Nat->Prop} (d2:Kj P gf lb M E xs K w) (b1:∀ b,K b->b<w.heap.size) (d1:∀ n O x A ys,E n O x A ys->ys.size=ps.size)
  (c1:∀ n O x A B ys,E n O x A ys->Q0 (fun b=>b=w.heap.size+1) A B->(∃ o,A.heap[w.heap.size+1]?=some o/\o.isCells=false)->E n O x B ys)
  (I:(Nat->Prop)->List α->World->Prop) (J:Code->(Nat->Prop)->List α->World->Prop)
  (Y:∀ O O' pre A B,I O pre A->(∀ b,O b->w.heap.size+2<=b/\b<A.heap.size)->Q0 (fun b=>(O b/\M (w.heap.size+2) b)\/b=w.heap.size+1) A B->(∀ b,O' b->(O b\/A.heap.size<=b)/\b<B.heap.size)->I O' pre B)
  (R:∀ c O O' pre A B,J c O pre A->(∀ b,O b->w.heap.size+2<=b/\b<A.heap.size)->Q0 (fun b=>(O b/\M (w.heap.size+2) b)\/b=w.heap.size+1) A B->(∀ b,O' b->(O b\/A.heap.size<=b)/\b<B.heap.size)->J c O' pre B)
  (b8:∀ W,Ext w W->W.heap.size=w.heap.size+2->I (fun _=>False) [] W) (b6:Array Value->Array Value->Array Value)
  (c3:∀(n:Nat) (O:Nat->Prop) (x:α) (ys:Array Value) (W:World) (Kn:Act->World->Prop),E n O x W ys->Kn { tmps:=b6 ys a.tmps,defers:=[] } W ->
   assign.wpIn (Fence.wide.inRound (w.heap.size+1)) 0 P (Exit.then Kn (fun _ _ _=>False)) { tmps:=(ps.zip ys).foldl (fun t (p,v)=>t.setIfInBounds p v) a.tmps,defers:=[] } W)
  (c4:∀(O:Nat->Prop) (pre:List α) (x:α) (rest:List α) (ys:Array Value) (W:World),xs=pre++x::rest->w.heap.size+2<=W.heap.size->(∀ b,O b->w.heap.size+2<=b/\b<W.heap.size)->Q0 (fun b=>¬ K b) w W->I O pre W->E (w.heap.size+2) O x W ys ->
   body.wpIn (Fence.wide.inRound (w.heap.size+1)) 0 P (Nn (fun b=>K b\/O b\/b=w.heap.size\/b=w.heap.size+1) (I O) (fun c=>J c O) (pre++[x]) W) { tmps:=b6 ys a.tmps,defers:=[] } W)
  (c7:∀ O W,I O xs W->(∀ b,O b->w.heap.size+2<=b/\b<W.heap.size)->Q0 (fun b=>¬ K b) w W->W.heap[w.heap.size]?=some (.deferred (some []))->Q .normal { a with defers:={ target:=.collected w.heap.size,args:=#[] }::a.defers } W)
  (d3:∀ c O pre x rest W,xs=pre++x::rest->J c O (pre++[x]) W->W.heap[w.heap.size]?=some (.deferred (some []))->c.wp P Q { a with defers:={ target:=.collected w.heap.size,args:=#[] }::a.defers } W) :
  (Code.rangeFunc g ps assign body).wp P Q a w:=by
 refine(wpIn_wide (n:=0)).1 (wpIn_rangeFunc ?_);intro fn _;obtain⟨e,s⟩:∃ e:LoopState->Option Code->Loop,e=fun st pe=>{ state:=st,pending:=pe,fn,tmps:=a.tmps,params:=ps,assign,body,defers:=w.heap.size }:=⟨_,rfl⟩;obtain⟨q,S⟩:=zE ((w.alloc (.deferred (some []))).alloc (.loop (e .ready none)));have c2:q.heap[w.heap.size+1]?=some (.loop (e .ready none)):=by
  rw [<-S];have:=World.alloc_heap_new (w.alloc (.deferred (some []))) (.loop (e .ready none));rwa [World.size_alloc] at this
 have c0:q.heap[w.heap.size]?=some (.deferred (some [])):=by
  rw [<-S];exact(Below.heap_alloc _ _ _ zy).trans (World.alloc_heap_new w _)
 have a7:Ext w q:=by rw [<-S];exact((Q0.refl _ w).alloc _).alloc _
 have a1:q.heap.size=w.heap.size+2:=by rw [<-S];simp
 have D:∀(O:Nat->Prop) (X:World) o,Q0 (fun b=>(O b/\M (w.heap.size+2) b)\/b=w.heap.size+1) X (X.putObj (w.heap.size+1) o):=fun O X o=>(Q0.refl _ X).putObj (.inr (.inr rfl)) o;have b5:∀(X:World) o,Q0 (fun b=>¬ K b) X (X.putObj (w.heap.size+1) o):=fun X o=>(Q0.refl _ X).putObj (.inr (fun hk=>by have:=b1 _ hk;omega)) o
 refine⟨w.heap.size+1,[{ target:=.collected w.heap.size,args:=#[] }],q,{ target:=.fn (.func gf) lb,args:=#[.func (.yield (w.heap.size+1)) #[] #[]] },q,gf,
  #[.func (.yield (w.heap.size+1)) #[] #[]]++lb,q,?_,?_,fun _ _=>trivial,?_,fun h=>by simp [Fence.wide] at h,?_⟩
 ·rw [<-S,s];exact run_enterLoop_outer _ _ _ _ _
 ·simp only [resolve,c9];simp [go_sem]
 ·simp [invoke,go_sem,b7]
 ·refine callsIn_wide.2 ((d2 (w.heap.size+1)
   (fun O pre W=>I O pre W/\(∀ b,O b->w.heap.size+2<=b/\b<W.heap.size)/\W.heap[w.heap.size+1]?=some (.loop (e .ready none))/\W.heap[w.heap.size]?=some (.deferred (some []))/\Q0 (fun b=>¬ K b) w W/\w.heap.size+2<=W.heap.size)
   (fun O pre W=>∃ c,J c O pre W/\(∀ b,O b->w.heap.size+2<=b/\b<W.heap.size)/\W.heap[w.heap.size+1]?=some (.loop (e .done (some c)))/\W.heap[w.heap.size]?=some (.deferred (some []))/\w.heap.size+2<=W.heap.size)
   q a7.of ?_ ?_ ?_ ⟨b8 _ a7 a1,fun b hb=>hb.elim,c2,c0,a7.of,by omega⟩).mono ?_)
  ·rintro O O' pre A B ⟨a2,r,a3,a4,b9,N⟩ f j;rw [a1] at f;refine⟨Y _ _ _ _ _ a2 r (f.mono fun b _ hb=>.inl hb) j,fun b hb=>?_,f.heap a3 (fun hb=>?_),f.heap a4 (fun hb=>?_),b9.after f (fun b b3 hb=>?_),Nat.le_trans N f.size⟩
   ·obtain⟨a5,a6⟩:=j b hb;exact⟨a5.elim (fun h=>(r b h).1) (fun h=>Nat.le_trans N h),a6⟩
   ·have:=(r _ hb.1).1;omega
   ·have:=(r _ hb.1).1;omega
   ·have:=(r _ hb.1).1;omega
  ·rintro O O' pre A B ⟨c,a2,r,a3,a4,N⟩ f j;rw [a1] at f;refine⟨c,R _ _ _ _ _ _ a2 r (f.mono fun b _ hb=>.inl hb) j,fun b hb=>?_,f.heap a3 (fun hb=>?_),f.heap a4 (fun hb=>?_),Nat.le_trans N f.size⟩
   ·obtain⟨a5,a6⟩:=j b hb;exact⟨a5.elim (fun h=>(r b h).1) (fun h=>Nat.le_trans N h),a6⟩
   ·have:=(r _ hb.1).1;omega
   ·have:=(r _ hb.1).1;omega
  ·rintro O pre x rest W ys a8 ⟨U,j,z,T,f,G⟩ a0;rw [a1] at a0;have b3:w.heap.size+1<W.heap.size:=by omega
   have a9:=run_yield (P:=P) (args:=ys) z (by rw [s];exact d1 _ _ x _ _ a0);rw [s] at a9;refine⟨fn,_,assign,body,a9,roundIn_of_wpIn trivial (c3 _ _ x ys W _ a0 ?_)⟩;clear a9;refine⟨_,run_beginRound z (by rw [s]),?_⟩;have d0:(W.putObj (w.heap.size+1) (.loop { e .ready none with state:=.busy })).heap[w.heap.size+1]?=some (.loop { e .ready none with state:=.busy }):=World.putObj_heap_same b3;have c5:(W.putObj (w.heap.size+1) (.loop { e .ready none with state:=.busy })).heap[w.heap.size]?=some (.deferred (some [])):=(World.putObj_heap_other oz).trans T;have Z:∀ b,O b->w.heap.size+2<=b/\b<(W.putObj (w.heap.size+1) (.loop { e .ready none with state:=.busy })).heap.size:=fun b hb=>by simpa using j b hb
   have c8:E (w.heap.size+2) O x (W.putObj (w.heap.size+1) (.loop { e .ready none with state:=.busy })) ys:=c1 _ _ _ _ _ _ a0 ((Q0.refl (fun b=>b=w.heap.size+1) W).putObj (.inr rfl) _) ⟨_,z,rfl⟩;refine wpIn_mono (c4 O pre x rest ys _ a8 (by simpa using G) Z (f.trans (b5 W _)) (Y _ _ _ _ _ U j (D O W _) (fun b hb=>⟨.inl hb,(Z b hb).2⟩)) c8) ?_
   have V:∀(jump:Option Code) (d:World),Q0 (fun b=>¬ (K b\/O b\/b=w.heap.size\/b=w.heap.size+1)) (W.putObj (w.heap.size+1) (.loop { e .ready none with state:=.busy })) d ->
     (Instr.endRound (w.heap.size+1) jump).run P d=.ok (.bool jump.isNone) (d.putObj (w.heap.size+1) (.loop (e (if jump.isNone then .ready else .done) jump))) /\
     (d.putObj (w.heap.size+1) (.loop (e (if jump.isNone then .ready else .done) jump))).heap[w.heap.size+1]?=some (.loop (e (if jump.isNone then .ready else .done) jump)) /\
     (d.putObj (w.heap.size+1) (.loop (e (if jump.isNone then .ready else .done) jump))).heap[w.heap.size]?=some (.deferred (some [])) /\
     Q0 (fun b=>¬ K b/\¬ O b) W (d.putObj (w.heap.size+1) (.loop (e (if jump.isNone then .ready else .done) jump)))/\(∀ b,O b->w.heap.size+2<=b/\b<d.heap.size):=fun jump d k=>by
    have b2:=k.heap d0 (fun h=>h (.inr (.inr (.inr rfl))));have c6:=k.heap c5 (fun h=>h (.inr (.inr (.inl rfl))));have:=run_endRound (P:=P) jump b2;rw [s] at this ⊢;have b4:¬ K (w.heap.size+1)/\¬ O (w.heap.size+1):=⟨fun hk=>by have:=b1 _ hk;omega,fun ho=>by have:=(j _ ho).1;omega⟩;refine⟨this,World.putObj_heap_same (Array.getElem?_eq_some_iff.1 b2).1,(World.putObj_heap_other oz).trans c6,?_,fun b hb=>⟨(Z b hb).1,Nat.lt_of_lt_of_le (Z b hb).2 k.size⟩⟩;exact(((Q0.refl _ W).putObj (.inr b4) _).trans (k.mono fun b _ hb=>⟨fun hk=>hb (.inl hk),fun ho=>hb (.inr (.inl ho))⟩)).putObj (.inr b4) _
   rintro b0 d4 d H;cases b0 with
   | normal=>
    obtain⟨k,y⟩:=H;obtain⟨F,C,u,l,m⟩:=V none d k;have i:∀ o b,O b->w.heap.size+2<=b/\b<(d.putObj (w.heap.size+1) o).heap.size:=fun o b hb=>by simpa using m b hb
    exact⟨_,_,F,.inl ⟨rfl,⟨Y _ _ _ _ _ y m (D O d _) (fun b hb=>⟨.inl hb,(i _ b hb).2⟩),i _,C,u,f.trans (l.mono fun b _ hb=>hb.1),Nat.le_trans G l.size⟩,l⟩⟩
   | ret=>
    obtain⟨k,y⟩:=H;obtain⟨F,C,u,l,m⟩:=V (some .ret) d k;have i:∀ o b,O b->w.heap.size+2<=b/\b<(d.putObj (w.heap.size+1) o).heap.size:=fun o b hb=>by simpa using m b hb
    exact⟨_,_,F,.inr ⟨rfl,⟨.ret,R _ _ _ _ _ _ y m (D O d _) (fun b hb=>⟨.inl hb,(i _ b hb).2⟩),i _,C,u,Nat.le_trans G l.size⟩,l⟩⟩
   | exit id=>
    obtain⟨k,y⟩:=H;obtain⟨F,C,u,l,m⟩:=V (some (.exit id)) d k;have i:∀ o b,O b->w.heap.size+2<=b/\b<(d.putObj (w.heap.size+1) o).heap.size:=fun o b hb=>by simpa using m b hb
    exact⟨_,_,F,.inr ⟨rfl,⟨.exit id,R _ _ _ _ _ _ y m (D O d _) (fun b hb=>⟨.inl hb,(i _ b hb).2⟩),i _,C,u,Nat.le_trans G l.size⟩,l⟩⟩
   | goto t=>
    obtain⟨k,y⟩:=H;obtain⟨F,C,u,l,m⟩:=V (some (.goto t)) d k;have i:∀ o b,O b->w.heap.size+2<=b/\b<(d.putObj (w.heap.size+1) o).heap.size:=fun o b hb=>by simpa using m b hb
    exact⟨_,_,F,.inr ⟨rfl,⟨.goto t,R _ _ _ _ _ _ y m (D O d _) (fun b hb=>⟨.inl hb,(i _ b hb).2⟩),i _,C,u,Nat.le_trans G l.size⟩,l⟩⟩
   | panic ch=>exact H.elim
   | outgrown=>exact H.elim
  ·rintro b0 L ⟨⟨v,rfl⟩,O,(⟨U,j,z,T,f,G⟩ | ⟨pre,x,rest,a8,c,U,j,z,T,G⟩)⟩
   ·refine⟨none,_,by have:=run_endLoop (P:=P) z (by rw [s];simp);rw [s] at this;exact this,?_⟩;have i:∀ o b,O b->w.heap.size+2<=b/\b<(L.putObj (w.heap.size+1) o).heap.size:=fun o b hb=>by simpa using j b hb
    exact c7 O _ (Y _ _ _ _ _ U j (D O L _) (fun b hb=>⟨.inl hb,(i _ b hb).2⟩)) (i _) (f.trans (b5 L _)) ((World.putObj_heap_other oz).trans T)
   ·refine⟨some c,_,by have:=run_endLoop (P:=P) z (by rw [s];simp);rw [s] at this;exact this,?_⟩;have i:∀ o b,O b->w.heap.size+2<=b/\b<(L.putObj (w.heap.size+1) o).heap.size:=fun o b hb=>by simpa using j b hb
    exact(wpIn_wide (n:=0)).2 (d3 c O pre x rest _ a8 (R _ _ _ _ _ _ U j (D O L _) (fun b hb=>⟨.inl hb,(i _ b hb).2⟩)) ((World.putObj_heap_other oz).trans T))
end Go.Ab
namespace Go.Ab
section
variable {α:Type} (H:List α->Nat->Bool) (P:List α->List α) (k:Nat)
def Vg(w:List α)(i:Nat):List α:=w.take i++P ((w.drop i).take k)++w.drop (i+k)
def Jn(w:List α):Nat->Nat->List α->List (Nat × List α)
 | 0,_,_=>[]
 | n+1,i,d=>
  if H w i then
   (i,d++P ((w.drop i).take k)++w.drop (i+k))::(if k=0 then Jn w n (i+1) (d++P ((w.drop i).take k)++(w.drop i).take 1) else Jn w n (i+k) (d++P ((w.drop i).take k)))
  else Jn w n (i+1) (d++(w.drop i).take 1)
def J5(m:Nat):Nat->List α->Nat->List (Nat × List α)
 | 0,_,_=>[]
 | n+1,w,i=>
  if w.length<i+k then []
  else if H w i then(i,Vg P k w i)::J5 m n (Vg P k w i) (i+m+(if k=0 then 1 else 0))
  else J5 m n w (i+1)
def U2:Nat->List α->Nat->List (Nat × List α)
 | 0,_,_=>[]
 | _+1,_,0=>[]
 | n+1,w,i+1=>
  if H w i then(i,Vg P k w i)::U2 n (Vg P k w i) (i+1 - max k 1)
  else U2 n w i
end
def Jo{α:Type}(t:List (Nat × List α)):Bool:=t.any fun x=>decide (32<x.2.length)
def Vm{α:Type}(w:List α)(t:List (Nat × List α)):List α:=(t.map (·.2)).getLastD w
section
variable {α:Type} {H:List α->Nat->Bool} {P:List α->List α} {k m:Nat}
theorem Cf(a:∀ c,c.length=k->(P c).length=m) {w:List α} {i:Nat} (h:i+k<=w.length):(Vg P k w i).length+k=w.length+m:=by
 unfold Vg;rw [List.length_append,List.length_append,List.length_take,List.length_drop,a _ (by rw [List.length_take,List.length_drop];omega)];omega
end
end Go.Ab
namespace Go.Proofs.YtejenndedjabhaaGreatDoor
open Go.RowKit Go.Ab
attribute [local go_sem] Oper.semAt_some Z6 Qn
theorem Q0r(a b:Nat)(i:a<4294967296)(j:b<4294967296)(w:World) :
  Calls Tryz.prog 124 #[.agg #[.int .u32 (a:Int),.int .u32 (b:Int)]] w fun e w'=>e=.returned (.bool (Z7 a b))/\Ext w w':=by
 obtain⟨q,r⟩:=He i j;have p:a ||| b<4294967296:=Nat.or_lt_two_pow (n:=32) i j;have d:Z7 a b=((a &&& b == 0) && ((a ||| b) / 16777216 == 0)):=rfl;obtain⟨f,l⟩:=zE (a &&& b == 0);obtain⟨c,k⟩:=zE (a ||| b);rw [l] at q d;rw [k] at r d p;have s:((c:Int) / 16777216 == 0)=(c / 16777216 == 0):=by
  apply Bool.eq_iff_iff.2;rw [beq_iff_eq,beq_iff_eq];omega
 obtain⟨o,m⟩:=zE (c / 16777216 == 0);rw [m] at s d;have g:=Zh d;clear d l k m;go_enter Tryz.func124,Tryz.ntmps124;cases f
 ·go_wp2;go_ret;exact⟨by rw [g.out];rfl,(Q0.refl _ _).alloc _⟩
 ·go_wp2;go_ret;exact⟨by rw [g.out];rfl,(Q0.refl _ _).alloc _⟩
def wE(ws:Wd):Int:=if 32<ws.length then 11 else if Xp ws=true then 0 else 14
theorem Ve{w:World}{v:Value}{ws:Wd}(q:Q4 w v ws) :
  Calls Tryz.prog 92 #[v] w fun e w'=>e=.returned (.int .i64 (wE ws))/\Ext w w':=by
 obtain⟨K,L,rfl,F⟩:=q.slice;unfold maxLen at F;have m:=Zh q;clear q;obtain⟨b,k⟩:=zE ws.length;have u:=Zh k;have f:Hid (wE ws=if 32<b then 11 else if Xp ws=true then 0 else 14):=Zh (by unfold wE;rw [k]);rw [k] at F m ⊢;clear k;by_cases A:32<b
 ·rw [if_pos A] at f;have z:(32:Int)<(b:Int):=by omega
  go_enter Tryz.func92,Tryz.ntmps92;go_wp2;go_ret;exact⟨by rw [f.out];rfl,Q0.refl _ _⟩
 rw [if_neg A] at f;have R:¬ (32:Int)<(b:Int):=by omega
 go_enter Tryz.func92,Tryz.ntmps92;go_wp2
 refine wp_loop (fun c n=>∃(a:Nat),a<=b/\c.defers=[]/\gS c [8,9,10]=(18,[.slice K b L,.int .i64 b,.int .i64 a])/\Xp (ws.take a)=true/\Ext w n)
  (fun c _=>b - (intOf (c.tmps.getD 10 undef)).toNat) ?_ ?_
 ·exact⟨0,by omega,rfl,rfl,by simp [Xp],Q0.refl _ _⟩
 rintro⟨V,_⟩ n ⟨a,T,M,I,D,j⟩;subst M;obtain⟨W,rfl⟩:=Qt I;clear I;have s:=Zh D;clear D;by_cases N:a<b
 ·have z:(a:Int)<(b:Int):=by omega
  have l:a<ws.length:=by rw [u.out];exact N
  obtain⟨Q,U,P,E,S,x,y⟩:=(m.out.ext j).at l;simp only [zV] at E;obtain⟨rfl,O,rfl⟩:=E;clear O;obtain⟨G,H⟩:=m.out.2.get a l;obtain⟨c,o⟩:=zE ((ws.getD a (0,0)).1);obtain⟨i,p⟩:=zE ((ws.getD a (0,0)).2);rw [o] at x G;rw [p] at y H;have r:=Zh o;have t:=Zh p;clear o p;go_wp2_with fail;refine(Q0r c i G H _).mono ?_;rintro e J ⟨rfl,C⟩;have B:Ext w J:=j.trans (Q0.trans ((Q0.refl _ n).alloc _) C);clear j C x y;cases hok:Z7 c i
  ·have d:Xp ws=false:=Ev l (by rw [r.out,t.out];exact hok);have g:=Zh d;clear d hok;go_wp2;go_ret;exact⟨by rw [f.out,g.out];rfl,B⟩
  ·have d:=Ra l s.out (by rw [r.out,t.out];exact hok);have g:=Zh d;clear d hok;go_wp2;exact⟨⟨a+1,by omega,tz,rfl,g.out,B⟩,nz⟩
 ·obtain rfl:a=b:=by omega
  have z:¬ (a:Int)<(a:Int):=by omega
  have d:Xp ws=true:=by have:=s.out;rwa [List.take_of_length_le (by rw [u.out];exact Nat.le_refl _)] at this
  have g:=Zh d;clear d;go_wp2;go_ret;exact⟨by rw [f.out,g.out];rfl,j⟩
def Qb0(p:Pat)(ws:Wd):Bool:=decide (ws.length<=32) && decide (wE ws=0) && decide (Ya p=0)
def Df(l:List UInt8):List Value:=l.map fun b=>Value.int .u8 b.toNat
theorem Q9a:(Tryz.prog.info? 5).map (fun i=>(i.zero,i.size,i.bytes))=some (some (.int .u8 0),1,1):=by kernel_rfl
def Ka(base b:Nat)(w:World)(l:List UInt8):Prop:=∃ p v,w.heap[b]?=some (.cells #[p,v] 144 (0,0))/\(p=.pointer none\/p=.pointer (some ⟨b,0,none⟩))/\w.ownsRow base 5 1 v l.length (Df l)
theorem Nu{base b:Nat}{w:World}{p v v':Value}{n:Nat}{xs:List Value}(h1:w.heap[b]?=some (.cells #[p,v] 144 (0,0))) (h2:w.ownsRow base 5 1 v' n xs):v'.ownBlock≠some b:=fun e=>by
 rcases h2.2 with ⟨h,_⟩ | ⟨g,cap,cur,h,_,hc,_⟩
 ·rw [h] at e;cases e
 ·rw [h] at e;cases e;rw [h1] at hc;simp only [Option.some.injEq,Obj.cells.injEq] at hc;exact absurd hc.2.1 zd
theorem Vx{w:World}{base:Nat}{e:TypeId}{sz n g:Nat}{v:Value}{xs:List Value}(h:w.ownsRow base e sz v n xs)(a:v.ownBlock=some g):∃ cur,w.heap[g]?=some (.cells cur e (0,0)):=by
 rcases h.2 with ⟨b,_⟩ | ⟨f,d,cur,b,_,c,_⟩
 ·rw [b] at a;cases a
 ·rw [b] at a;cases a;exact⟨cur,c⟩
theorem Cr{S:Nat->Prop}{A B:World}(h:Q0 S A B){p:Addr}(a:A.heap.size<=p.block\/S p.block)(n:Nat):Q0 S A (B.freeze p n):=by
 unfold World.freeze
 split
 ·exact h
 ·refine⟨h.os,h.tape,h.output,by simpa using h.size,fun k hk hS=>?_⟩;simp only [Array.getElem?_modify];rw [if_neg (by rintro rfl;rcases a with a | a;omega;exact hS a)];exact h.block k hk hS
def Q0s(base b:Nat)(w:World)(q:Nat):Prop:=q=b\/(base<=q/\∃ cur,w.heap[q]?=some (.cells cur 5 (0,0)))
theorem Tb(x:Value)(w:World):(callFunc 168 #[x]).run Tryz.prog w=.ok (.value x) w:=by
 rw [run_callFunc_extern Tryz.func168 kz kz kz (e:=Extern.AbiNoEscape.same) kz,Lib.run_noEscape];rfl
theorem Q0g{base b:Nat}{w:World}{l:List UInt8}(h:Ka base b w l) :
  Calls Tryz.prog 148 #[.pointer (some ⟨b,0,none⟩)] w fun e w'=>e=.returned (.tuple #[])/\Ka base b w' l/\Q0 (fun q=>q=b) w w':=by
 obtain⟨r,n,a,o,i⟩:=h;have s:w.cell? ⟨b,0,none⟩=some r:=by rw [cell_of_row w b 0 _ _ _ a];rfl
 have j:w.shape? b=some (144,2):=by simp [World.shape?,a]
 have x:w.frozen? ⟨b,0,none⟩=false:=frozen_of_row w b 0 _ _ a;rcases o with rfl | rfl
 ·obtain⟨p,c,k⟩:=Option.map_eq_some_iff.1 (show (Tryz.prog.info? 144).map (·.size)=some 2 by kernel_rfl);have m:liesAt Tryz.prog Tryz.prog.depth 144 (2 / Tryz.prog.cellsOf 144) 0 144 1=true:=by kernel_rfl
  have t:=Lib.run_to_unsafe (P:=Tryz.prog) (w:=w) ⟨b,0,none⟩ Tryz.underlying142 Tryz.underlying199 c (by rw [k];decide) j (Nat.zero_lt_succ 1);have u:=Lib.run_from_unsafe (P:=Tryz.prog) (w:=w) ⟨b,0,none⟩ Tryz.underlying199 Tryz.underlying142 c j m;have v:=Tb (.pointer (some ⟨b,0,none⟩)) w;clear c k m j;have f:=Zh i;have d:=Zh a;clear i a;go_enter Tryz.func148,Tryz.ntmps148;go_wp2;go_end0
  refine⟨rfl,⟨.pointer (some ⟨b,0,none⟩),n,?_,.inr rfl,Qd f.out (Q0.set1 w b 0 _) fun g hg e=>Nu d.out f.out (by rw [hg,e])⟩,Q0.set1 w b 0 _⟩;have a:=d.out;simp only [World.setCell,Array.getElem?_modify,a];rfl
 ·have f:=Zh i;have d:=Zh a;clear i a;go_enter Tryz.func148,Tryz.ntmps148;go_wp2;obtain⟨p,c,_⟩:=Option.map_eq_some_iff.1 (show (Tryz.prog.info? 144).map (·.size)=some 2 by kernel_rfl);rw [Lib.run_neq_ptr_same w _ Tryz.underlying142 c];go_wp2;go_end0
  exact⟨rfl,⟨_,n,d.out,.inr rfl,f.out⟩,Q0.refl _ _⟩
theorem Rh{base b:Nat}{w:World}{l:List UInt8}(c:UInt8)(h:Ka base b w l)(L:base<=b)(N:l.length<100000) :
  Calls Tryz.prog 109 #[.pointer (some ⟨b,0,none⟩),.int .u8 c.toNat] w fun e w'=>e=.returned .nilIface/\Ka base b w' (l++[c])/\Q0 (Q0s base b w) w w':=by
 have v:=Zh (Q0g h);clear h;go_enter Tryz.func109,Tryz.ntmps109;go_wp2_with fail;refine v.out.mono ?_;rintro e d ⟨rfl,⟨p,m,k,x,y⟩,z⟩;clear v;have G:d.cell? ⟨b,1,none⟩=some m:=by rw [cell_of_row d b 1 _ _ _ k];rfl
 have M:b<d.heap.size:=(Array.getElem?_eq_some_iff.1 k).1;obtain⟨j,u,f,n⟩:=Zh4 k x y z;clear k x y z
 go_wp2_with (at_builtin;refine Zv rfl (.tmp 11) (.tmp 13) 40 rfl base 5 _ 1 1 Tryz.underlying40 Q9a rfl zd _ _ _ rfl (Qb f.out ((Q0.refl _ d).alloc _)) ⟨d.heap.size,0,none⟩ 1 1 [.int .u8 c.toNat] rfl rfl (Zy rfl) ?c2 ?c3 ?c4 ?c5 ?_)
 case c2=>first | rfl | (intro O D;simp at D;rcases D with rfl;rfl)
 case c3=>unfold maxLen;omega
 case c4=>omega
 case c5=>simp;omega
 intro o r a s A _;have t:Q0 (fun b'=>m.ownBlock=some b') d a:=Q0.trans (Q0.alloc (Q0.refl _ d) _) A;have i:=t.heap j.out (fun e=>Nu j.out f.out e);have K:a.frozen? ⟨b,1,none⟩=false:=frozen_of_row a b 1 _ _ i;have c5:a.cell? ⟨b,1,none⟩=some m:=by rw [cell_of_row a b 1 _ _ _ i];rfl
 have B:Q0 (Q0s base b w) w (a.setCell ⟨b,1,none⟩ (.slice o (l.length+1) r)):=by
  have I:Q0 (fun q=>q=b\/m.ownBlock=some q) w a:=(n.out.mono fun q _ e=>.inl e).trans (t.mono fun q _ e=>.inr e);refine(I.mono fun q hq e=>?_).setCell (p:=⟨b,1,none⟩) (.inr (.inl rfl)) _;rcases e with e | e
  ·exact .inl e
  ·refine .inr ⟨(f.out.lt q e).1,?_⟩;obtain⟨H,J⟩:=Vx f.out e;exact⟨H,by rw [<-n.out.block q hq (fun h=>Nu j.out f.out (by rw [e,h]))];exact J⟩
 have C:Ka base b (a.setCell ⟨b,1,none⟩ (.slice o (l.length+1) r)) (l++[c]):=by
  refine⟨p,.slice o (l.length+1) r,?_,u.out,?_⟩
  ·simp only [World.setCell,Array.getElem?_modify,i];simp
  ·rw [show Df (l++[c])=Df l++[.int .u8 c.toNat] by simp [Df],List.length_append];exact Qd s (Q0.set1 a b 1 _) fun g hg e=>Nu i s (by rw [hg,e])
 have E:=Zh C;have F:=Zh B;clear C B t A s i j u f n G;go_wp2;go_ret;exact⟨rfl,E.out,F.out⟩
theorem Q4v(l:List UInt8)(j:Nat)(x:UInt8)(h:l[j]?=some x):(Df l)[j]?=some (.int .u8 x.toNat):=by simp [Df,h]
theorem Q68{base b:Nat}{w:World}{l:List UInt8}(h:Ka base b w l) :
  Calls Tryz.prog 110 #[.pointer (some ⟨b,0,none⟩)] w fun e w'=>e=.returned (.string ⟨l.toArray⟩)/\Q0 (fun q=>base<=q) w w':=by
 obtain⟨H,r,g,A,f⟩:=h;clear A;have s:w.drew.cell? ⟨b,1,none⟩=some r:=by
  have:w.drew.heap[b]?=some (.cells #[H,r] 144 (0,0)):=g;rw [cell_of_row _ b 1 _ _ _ this];rfl
 by_cases p:l=[]
 ·subst p;have B:∀(q:Option Addr) (w:World),(Builtin.unsafeString_ #[179,3] 9 #[.pointer q,.int .i64 0]).run Tryz.prog w=.ok (.string .empty) w:=fun q w=>Lib.run_unsafeString_none w _ _ _ q;rcases f.2 with ⟨rfl,_⟩ | ⟨a,c,d,rfl,n,k,_⟩
  ·have j:(Builtin.unsafeSliceData_ #[40] 179 #[.slice none 0 0]).run Tryz.prog w.drew=.ok (.pointer none) w.drew:=rfl;clear g f;go_enter Tryz.func110,Tryz.ntmps110;go_wp2
   go_region
   all_goals (go_wp2;go_ret;exact⟨rfl,(Q0.refl _ w).drew⟩)
  ·by_cases m:c=0
   ·subst m
    have j:(Builtin.unsafeSliceData_ #[40] 179 #[.slice (some ⟨a,0,none⟩) 0 0]).run Tryz.prog w.drew=.ok (.pointer (some ⟨w.drew.heap.size,0,none⟩)) (w.drew.alloc (.view ⟨a,0,none⟩ 5)):=
     Lib.run_unsafeSliceData_zero w.drew _ _ 5 Tryz.underlying179 ⟨a,0,none⟩ 0 (5,d.size) (by have o:w.drew.heap[a]?=_:=k;simp [World.shape?,o])
    have L:b<w.heap.size:=(Array.getElem?_eq_some_iff.1 g).1;have z:(w.drew.alloc (.view ⟨a,0,none⟩ 5)).cell? ⟨b,1,none⟩=some (.slice (some ⟨a,0,none⟩) 0 0):=((Q0.refl (fun _=>False) w.drew).alloc _).cell_some s id;have K:(w.alloc (.view ⟨a,0,none⟩ 5)).drew.cell? ⟨b,1,none⟩=some (.slice (some ⟨a,0,none⟩) 0 0):=z;have J:w.cell? ⟨b,1,none⟩=some (.slice (some ⟨a,0,none⟩) 0 0):=s;clear g f k;go_enter Tryz.func110,Tryz.ntmps110;go_wp2
    go_region
    all_goals (go_wp2;go_ret;exact⟨rfl,((Q0.refl _ w).drew).alloc _⟩)
   ·have j:(Builtin.unsafeSliceData_ #[40] 179 #[.slice (some ⟨a,0,none⟩) 0 c]).run Tryz.prog w.drew=.ok (.pointer (some ⟨a,0,none⟩)) w.drew:=Lib.run_unsafeSliceData_row _ _ _ _ _ _ m;clear g f k m;go_enter Tryz.func110,Tryz.ntmps110;go_wp2
    go_region
    all_goals (go_wp2;go_ret;exact⟨rfl,(Q0.refl _ w).drew⟩)
 ·have E:l.length≠0:=by simpa using p
  obtain⟨a,c,d,rfl,C,n,N,u,D,F⟩:∃ a c d,r=.slice (some ⟨a,0,none⟩) l.length c/\base<=a/\w.heap[a]?=some (.cells d 5 (0,0))/\l.length<=c/\c<=maxLen/\d.size=c*1/\d.toList.take (l.length*1)=Df l:=by
   rcases f.2 with ⟨_,G⟩ | h
   ·exact absurd G E
   ·exact h
  have j:(Builtin.unsafeSliceData_ #[40] 179 #[.slice (some ⟨a,0,none⟩) l.length c]).run Tryz.prog w.drew=.ok (.pointer (some ⟨a,0,none⟩)) w.drew:=Lib.run_unsafeSliceData_row _ _ _ _ _ _ oz;have B:(Builtin.unsafeString_ #[179,3] 9 #[.pointer (some ⟨a,0,none⟩),.int .i64 l.length]).run Tryz.prog w.drew=.ok (.string ⟨l.toArray⟩) (w.drew.freeze ⟨a,0,none⟩ l.length):=by
   refine Lib.run_unsafeString_row w.drew 179 3 9 5 Tryz.underlying179 kz a d.size (by have o:w.drew.heap[a]?=some (.cells d 5 (0,0)):=n;simp [World.shape?,o]) l p oz (by unfold maxLen at u;omega) ?_;intro i I x;have M:i<l.length:=(List.getElem?_eq_some_iff.1 x).1;have t:=f.cellAt i oz;rw [Q4v l i I x] at t;rw [show (⟨a,0,none⟩:Addr).add i=⟨a,i,none⟩ by simp [Addr.add];exact fun h=>h.symm];exact t
  have v:Q0 (fun q=>base<=q) w (w.drew.freeze ⟨a,0,none⟩ l.length):=Cr ((Q0.refl _ w).drew) (.inr C) _;have y:=Zh v;clear v g f n D F;unfold maxLen at u;go_enter Tryz.func110,Tryz.ntmps110;go_wp2
  go_region
  all_goals (go_wp2;go_ret;exact⟨rfl,y.out⟩)
theorem Q84{w:World}{ao:Option Addr}{N cap:Nat}{l:List Int}(s:Rd w (.slice ao N cap) N 1 (Qh l)) (G:l.length=N) (P:0<N) :
  Calls Tryz.prog 36 #[.slice ao N cap] w fun e w'=>∃ m,e=.returned (.int .i64 m)/\(m∈l/\∀ x∈l,m<=x)/\w'=w:=by
 have R:=s.2.1;unfold maxLen at R;have B:0<l.length:=by omega
 obtain⟨O,U,Y,r,a1,n⟩:=Zq s P;simp only [zV,true_and] at r;obtain⟨rfl,rfl⟩:=r;rw [Y1 l B,Nat.add_zero] at n;have C:l[0]∈l.take 1:=by
  rw [List.take_succ_eq_append_getElem B];simp
 have A:∀ x∈l.take 1,l[0]<=x:=fun x o=>by
  rw [List.take_succ_eq_append_getElem B] at o;simp at o;rw [o];exact Int.le_refl _
 obtain⟨D,L⟩:=zE (l[0]);rw [L] at n C A;obtain⟨M,E,j,i⟩:=Zh4 s G C A;clear s C A L G;have y:¬ (N:Int)<1:=by omega
 go_enter Tryz.func36,Tryz.ntmps36;go_wp2;clear y n
 refine wp_loop (fun a F=>∃(c:Nat) (m:Int),c<=N/\1<=c/\a.defers=[]/\(a.tmps.size=25/\a.tmps.getD 0 undef=.slice (some ⟨O,U,none⟩) N cap/\a.tmps.getD 3 undef=.int .i64 m/\a.tmps.getD 4 undef=.int .i64 c)/\m∈l.take c/\(∀ x∈l.take c,m<=x)/\F=w)
  (fun a _=>N - (intOf (a.tmps.getD 4 undef)).toNat) ?_ ?_
 ·exact⟨1,D,by omega,by omega,rfl,⟨rfl,rfl,rfl,rfl⟩,j.out,i.out,rfl⟩
 clear j i;rintro⟨V,_⟩ F ⟨c,m,a3,a4,Q,⟨J,t,u,v⟩,g,f,rfl⟩;subst Q;obtain⟨W,K⟩:=Z8 J;obtain⟨b,rfl⟩:∃ x,x=W:=⟨_,rfl⟩;have T:V=#[b 0,b 1,b 2,b 3,b 4,b 5,b 6,b 7,b 8,b 9,b 10,b 11,b 12,b 13,b 14,b 15,b 16,b 17,b 18,b 19,b 20,b 21,b 22,b 23,b 24]:=K;clear K;subst T;change b 0=_ at t;change b 3=_ at u;change b 4=_ at v;rw [t,u,v];clear t u v J;have j:=Zh g;have i:=Zh f;clear g f;by_cases H:c<N;case neg=>
  obtain rfl:c=N:=by omega
  have y:¬ (c:Int)<(c:Int):=by omega
  have g:=j.out;have f:=i.out;rw [List.take_of_length_le (by rw [E.out];exact Nat.le_refl _)] at g f;have q:=Zh g;have p:=Zh f;clear g f j i;go_wp2;go_ret;exact⟨_,rfl,⟨q.out,p.out⟩,rfl⟩
 have y:(c:Int)<(N:Int):=by omega
 have a0:(0:Int)<=(c:Int):=by omega
 have I:c<l.length:=by rw [E.out];exact H
 obtain⟨X,a5,Z,r,a2,n⟩:=Zq M.out H;simp only [zV,Option.some.injEq,Addr.mk.injEq,and_true,true_and] at r;obtain⟨⟨rfl,rfl⟩,rfl⟩:=r;rw [Y1 l I] at n;have k:l.take (c+1)=l.take c++[l[c]]:=List.take_succ_eq_append_getElem I;obtain⟨x,o⟩:=zE (l[c]);rw [o] at n k;clear o;by_cases S:m<=x
 ·have g:m∈l.take (c+1):=by rw [k];simp [j.out]
  have f:∀ z∈l.take (c+1),m<=z:=fun z d=>by
   rw [k] at d;rcases List.mem_append.1 d with d | d
   ·exact i.out z d
   ·rw [List.mem_singleton] at d;rw [d];exact S
  have q:=Zh g;have p:=Zh f;clear g f j i k;go_wp2;exact⟨⟨c+1,m,by omega,by omega,by first | trivial | rfl,⟨rfl,rfl,rfl,rfl⟩,q.out,p.out,by first | trivial | rfl⟩,nz⟩
 ·have g:x∈l.take (c+1):=by rw [k];simp
  have f:∀ z∈l.take (c+1),x<=z:=fun z d=>by
   rw [k] at d;rcases List.mem_append.1 d with d | d
   ·have:=i.out z d;omega
   ·rw [List.mem_singleton] at d;rw [d];exact Int.le_refl _
  have q:=Zh g;have p:=Zh f;clear g f j i k;go_wp2;exact⟨⟨c+1,by omega,by omega,x,⟨rfl,by omega⟩,q.out,p.out⟩,nz⟩
theorem Sj{w:World}{u v:Value}{us vs:List Int}(d:Rd w u us.length 1 (Qh us)) (m:Rd w v vs.length 1 (Qh vs)) :
  Calls Tryz.prog 26 #[u,v] w fun e w'=>e=.returned (.bool (decide (us=vs)))/\Ext w w':=by
 have N:=d.2.1;have O:=m.2.1;unfold maxLen at N O;obtain⟨X,W,rfl,_⟩:=d.2.2;obtain⟨Z,Y,rfl,_⟩:=m.2.2;obtain⟨c,k⟩:=zE us.length;obtain⟨F,j⟩:=zE vs.length;rw [k] at d N ⊢;rw [j] at m O ⊢;obtain⟨U,V,E,D⟩:=Zh4 d m k j;clear d m;go_enter Tryz.func26,Tryz.ntmps26;by_cases J:c=F;case neg=>
  have f:((c:Int) !=(F:Int))=true:=by simp;omega
  have s:=Zh (decide_eq_false (fun h:us=vs=>J (by rw [<-k,<-j,h])));clear k j;go_wp2;go_ret;exact⟨by rw [s.out];rfl,Q0.refl _ _⟩
 subst J;clear k j;go_wp2
 refine wp_loop (fun a G=>∃(b:Nat),b<=c/\a.defers=[]/\(a.tmps.size=26/\a.tmps.getD 0 undef=.slice X c W/\a.tmps.getD 1 undef=.slice Z c Y/\a.tmps.getD 12 undef=.int .i64 c/\a.tmps.getD 13 undef=.int .i64 b)/\us.take b=vs.take b/\Ext w G)
  (fun a _=>c - (intOf (a.tmps.getD 13 undef)).toNat) ?_ ?_
 ·exact⟨0,by omega,rfl,⟨rfl,rfl,rfl,rfl,rfl⟩,by simp,Q0.refl _ _⟩
 rintro⟨a3,_⟩ G ⟨b,b3,a1,⟨P,t,x,y,z⟩,K,i⟩;subst a1;obtain⟨a4,d⟩:=Z8 P;obtain⟨u,rfl⟩:∃ g,g=a4:=⟨_,rfl⟩;have a2:a3=#[u 0,u 1,u 2,u 3,u 4,u 5,u 6,u 7,u 8,u 9,u 10,u 11,u 12,u 13,u 14,u 15,u 16,u 17,u 18,u 19,u 20,u 21,u 22,u 23,u 24,u 25]:=d;clear d;subst a2;change u 0=_ at t;change u 1=_ at x;change u 12=_ at y;change u 13=_ at z;rw [t,x,y,z];clear t x y z P;have C:=Zh K;clear K;by_cases o:b<c;case neg=>
  obtain rfl:b=c:=by omega
  have a0:¬ (b:Int)<(b:Int):=by omega
  have A:=C.out;rw [List.take_of_length_le (by rw [E.out];exact Nat.le_refl _),List.take_of_length_le (by rw [D.out];exact Nat.le_refl _)] at A;have S:=Zh (decide_eq_true A);clear A;go_wp2;go_ret;exact⟨by rw [S.out];rfl,i⟩
 have a0:(b:Int)<(c:Int):=by omega
 have a9:(0:Int)<=(b:Int):=by omega
 have L:b<us.length:=by rw [E.out];exact o
 have M:b<vs.length:=by rw [D.out];exact o
 obtain⟨a7,b4,a5,l,b1,H⟩:=Zq (U.out.ext i) o;simp only [zV,true_and] at l;obtain⟨rfl,rfl⟩:=l;obtain⟨a8,b5,a6,l,b2,I⟩:=Zq (V.out.ext i) o;simp only [zV,true_and] at l;obtain⟨rfl,rfl⟩:=l;rw [Y1 us L] at H;rw [Y1 vs M] at I;have p:us.take (b+1)=us.take b++[us[b]]:=List.take_succ_eq_append_getElem L;have q:vs.take (b+1)=vs.take b++[vs[b]]:=List.take_succ_eq_append_getElem M;have f:us[b]≠vs[b]->us≠vs:=fun h e=>by subst e;exact h rfl
 obtain⟨g,Q⟩:=zE (us[b]);obtain⟨r,R⟩:=zE (vs[b]);rw [Q] at H p f;rw [R] at I q f;clear Q R;by_cases B:g=r
 ·subst B;have T:Hid (us.take (b+1)=vs.take (b+1)):=Zh (by rw [p,q,C.out]);clear p q f;go_wp2
  go_quiet (fail)
  go_wp2;exact⟨⟨b+1,by omega,tz,⟨rfl,rfl,rfl,rfl,rfl⟩,T.out,i.drewN _⟩,nz⟩
 ·have s:=Zh (decide_eq_false (f B));have b0:(g != r)=true:=by simpa using B
  clear p q f;go_wp2
  go_quiet (fail)
  go_wp2;go_ret;exact⟨by rw [s.out];rfl,i.drewN _⟩
def Qbj(xs:List Int)(b:Int):Bool:=xs.contains b
end Go.Proofs.YtejenndedjabhaaGreatDoor
namespace Go.Ab
open Go.RowKit
def Qb3{α:Type}(P:Program)(gf:Nat)(lb:Array Value)(M:Nat->Nat->Prop)(E:Nat->(Nat->Prop)->α->World->Array Value->Prop) (xs:List α) (fin:Option (List PanicEntry)) (K:Nat->Prop) (w:World):Prop:=
 ∀(l:Nat) (J Jx:(Nat->Prop)->List α->World->Prop) (W:World),Q0 (fun b=>¬ K b) w W ->
  (∀ O O' pre A B,J O pre A->Q0 (fun b=>O b/\M W.heap.size b) A B->(∀ b,O' b->(O b\/A.heap.size<=b)/\b<B.heap.size)->J O' pre B) ->
  (∀ O O' pre A B,Jx O pre A->Q0 (fun b=>O b/\M W.heap.size b) A B->(∀ b,O' b->(O b\/A.heap.size<=b)/\b<B.heap.size)->Jx O' pre B) ->
  (∀ O pre x rest A ys,xs=pre++x::rest->J O pre A->E W.heap.size O x A ys->YieldAt Fence.wide 0 P l ys A fun e B=>
   (e=.returned (.bool true)/\J O (pre++[x]) B/\Q0 (fun b=>¬ K b/\¬ O b) A B)\/(e=.returned (.bool false)/\Jx O (pre++[x]) B/\Q0 (fun b=>¬ K b/\¬ O b) A B)) ->
  J (fun _=>False) [] W ->
  Calls P gf (#[.func (.yield l) #[] #[]]++lb) W fun e B=>((∃ v,e=.returned v)/\∃ O,((fin=none/\J O xs B)\/∃ pre x rest,xs=pre++x::rest/\Jx O (pre++[x]) B))\/(∃ ch,fin=some ch/\e=.panicked ch/\∃ O,J O xs B)
theorem Fe{P:Program}{fn:Func}{tmps:Array Value}{R:Ending->World->Prop}{ch:List PanicEntry}{base:Nat} :
  ∀(ds:List Deferred) (w:World),Qz base ds w->(∀ w',Q0 (Shut base w) w w'->w'.heap.size=w.heap.size->R (.panicked ch) w') ->
   LeavesInM Fence.wide 0 P fn tmps R ds (.panicking ch) w
 | [],w,_,h=>h w (Q0.refl _ _) rfl
 | d::ds,w,⟨r,hb,hd,hr,hn,hm⟩,h=>by
  refine⟨by simp,.inl ⟨r,_,by rw [hd],run_takeDeferred hr,?_⟩⟩;refine Fe ds _ (hm.keep' (S:=(·=r)) ((Q0.refl (·=r) w).putObj (.inr rfl) _) (fun b e=>by subst e;exact hn)) ?_;intro w' ht hs;have hput:Q0 (Shut base w) w (w.putObj r (.deferred none)):=(Q0.refl _ w).putObj (.inr ⟨hb,fun o ho=>by rw [hr] at ho;cases ho;rfl⟩) _;refine h w' (hput.after ht fun b hlt hsh=>?_) (by rw [hs];simp);refine⟨hsh.1,fun o ho=>?_⟩;by_cases hbr:b=r
  ·subst hbr;rw [hr] at ho;cases ho;rfl
  ·exact hsh.2 o (by rw [World.putObj_heap_other hbr];exact ho)
theorem N6{P:Program}{fn:Func}{R:Ending->World->Prop}{a:Act}{w:World}{ch:List PanicEntry}{base:Nat}(hm:Qz base a.defers w)
  (hR:∀ w',Q0 (Shut base w) w w'->w'.heap.size=w.heap.size->R (.panicked ch) w') :
  bodyPostM Fence.wide 0 P fn R (.panic ch) a w:=Fe _ _ hm hR
end Go.Ab
namespace Go.Ab
open Go.RowKit
def Q7g{α:Type}(P:Program)(gf:Nat)(lb:Array Value)(M:Nat->Nat->Prop)(E:Nat->α->World->Array Value->Prop)(xs:List α)(fin:Option (List PanicEntry)) (T:Nat->Prop) (C:World->Prop) (w:World):Prop:=
 ∀(l:Nat) (J Jx:List α->World->Prop) (W:World),Q0 T w W ->
  w.heap.size<=l->(∃ o,W.heap[l]?=some o/\o.isCells=false) ->
  (∀ pre A B,J pre A->Q0 (fun b=>W.heap.size<=b/\M W.heap.size b) A B->J pre B) ->
  (∀ pre A B,Jx pre A->Q0 (fun b=>W.heap.size<=b/\M W.heap.size b) A B->Jx pre B) ->
  (∀ pre A,J pre A->C A/\∃ o,A.heap[l]?=some o/\o.isCells=false) ->
  (∀ pre x rest A ys,xs=pre++x::rest->J pre A->E W.heap.size x A ys->YieldAt Fence.wide 0 P l ys A fun e B=>
   (e=.returned (.bool true)/\J (pre++[x]) B/\Q0 (fun b=>T b\/b=l) A B)\/(e=.returned (.bool false)/\Jx (pre++[x]) B/\Q0 (fun b=>T b\/b=l) A B)) ->
  J [] W ->
  Calls P gf (#[.func (.yield l) #[] #[]]++lb) W fun e B=>((∃ v,e=.returned v)/\((fin=none/\J xs B)\/∃ pre x rest,xs=pre++x::rest/\Jx (pre++[x]) B))\/(∃ ch,fin=some ch/\e=.panicked ch/\J xs B)
theorem Q3d{α:Type}{P:Program}{g:Operand}{ps:Array Tmp}{assign body:Code}{Q:Exit->Act->World->Prop}{a:Act}{w:World}
  {gf:Nat} {lb:Array Value} (c5:a.eval g=.func (.func gf) #[] lb) (b3:∀ args w,(callFunc gf args).run P w=.ok (.enter gf args) w)
  {M:Nat->Nat->Prop} {E:Nat->α->World->Array Value->Prop} {xs:List α} {u:Option (List PanicEntry)} {T:Nat->Prop} {C:World->Prop} (d0:Q7g P gf lb M E xs u T C w) (b8:∀ b,T b->b<w.heap.size) (c9:∀ n x A ys,E n x A ys->ys.size=ps.size)
  (_hEs:∀ n x A B ys,E n x A ys->Q0 (fun b=>b=w.heap.size+1) A B->(∃ o,A.heap[w.heap.size+1]?=some o/\o.isCells=false)->E n x B ys)
  (I:List α->World->Prop) (L:Code->List α->World->Prop) (b6:∀ pre A,I pre A->C A)
  (U:∀ pre A B,I pre A->Q0 (fun b=>(w.heap.size+2<=b/\M (w.heap.size+2) b)\/b=w.heap.size+1) A B->(∃ o,A.heap[w.heap.size+1]?=some o/\o.isCells=false)->I pre B)
  (O:∀ c pre A B,L c pre A->Q0 (fun b=>(w.heap.size+2<=b/\M (w.heap.size+2) b)\/b=w.heap.size+1) A B->(∃ o,A.heap[w.heap.size+1]?=some o/\o.isCells=false)->L c pre B)
  (b4:∀ W,Ext w W->W.heap.size=w.heap.size+2->I [] W) (b2:Array Value->Array Value->Array Value)
  (c0:∀(n:Nat) (pre:List α) (x:α) (rest:List α) (ys:Array Value) (W:World) (Kn:Act->World->Prop),xs=pre++x::rest->I pre W->E n x W ys->(∀ W',Q0 T W W'->I (pre++[x]) W'->Kn { tmps:=b2 ys a.tmps,defers:=[] } W') ->
   assign.wpIn (Fence.wide.inRound (w.heap.size+1)) 0 P (Exit.then Kn (fun _ _ _=>False)) { tmps:=(ps.zip ys).foldl (fun t (p,v)=>t.setIfInBounds p v) a.tmps,defers:=[] } W)
  (c1:∀(pre:List α) (x:α) (rest:List α) (ys:Array Value) (W:World),xs=pre++x::rest->w.heap.size+2<=W.heap.size->Q0 (fun b=>T b\/w.heap.size<=b) w W->I (pre++[x]) W ->
   body.wpIn (Fence.wide.inRound (w.heap.size+1)) 0 P (Nn (fun b=>¬ T b) I (fun c=>L c) (pre++[x]) W) { tmps:=b2 ys a.tmps,defers:=[] } W)
  (c8:∀ ch W,u=some ch->I xs W->W.heap[w.heap.size]?=some (.deferred (some []))->w.heap.size+2<=W.heap.size->Q (.panic ch) { a with defers:={ target:=.collected w.heap.size,args:=#[] }::a.defers } W)
  (c4:u=none->∀ W,I xs W->W.heap[w.heap.size]?=some (.deferred (some []))->w.heap.size+2<=W.heap.size->Q .normal { a with defers:={ target:=.collected w.heap.size,args:=#[] }::a.defers } W)
  (d1:∀ c pre x rest W,xs=pre++x::rest->L c (pre++[x]) W->W.heap[w.heap.size]?=some (.deferred (some []))->c.wp P Q { a with defers:={ target:=.collected w.heap.size,args:=#[] }::a.defers } W) :
  (Code.rangeFunc g ps assign body).wp P Q a w:=by
 refine(wpIn_wide (n:=0)).1 (wpIn_rangeFunc ?_);intro fn _;obtain⟨f,r⟩:∃ f:LoopState->Option Code->Loop,f=fun st pe=>{ state:=st,pending:=pe,fn,tmps:=a.tmps,params:=ps,assign,body,defers:=w.heap.size }:=⟨_,rfl⟩;obtain⟨l,R⟩:=zE ((w.alloc (.deferred (some []))).alloc (.loop (f .ready none)));have b1:l.heap[w.heap.size+1]?=some (.loop (f .ready none)):=by
  rw [<-R];have:=World.alloc_heap_new (w.alloc (.deferred (some []))) (.loop (f .ready none));rwa [World.size_alloc] at this
 have b7:l.heap[w.heap.size]?=some (.deferred (some [])):=by
  rw [<-R];exact(Below.heap_alloc _ _ _ zy).trans (World.alloc_heap_new w _)
 have a5:Ext w l:=by rw [<-R];exact((Q0.refl _ w).alloc _).alloc _
 have Y:l.heap.size=w.heap.size+2:=by rw [<-R];simp
 have V:∀ b,w.heap.size<=b->¬ T b:=fun b hb d=>by have:=b8 b d;omega
 have H:∀(X:World) o,Q0 (fun b=>(w.heap.size+2<=b/\M (w.heap.size+2) b)\/b=w.heap.size+1) X (X.putObj (w.heap.size+1) o):=fun X o=>(Q0.refl _ X).putObj (.inr (.inr rfl)) o
 refine⟨w.heap.size+1,[{ target:=.collected w.heap.size,args:=#[] }],l,{ target:=.fn (.func gf) lb,args:=#[.func (.yield (w.heap.size+1)) #[] #[]] },l,gf,
  #[.func (.yield (w.heap.size+1)) #[] #[]]++lb,l,?_,?_,fun _ _=>trivial,?_,fun h=>by simp [Fence.wide] at h,?_⟩
 ·rw [<-R,r];exact run_enterLoop_outer _ _ _ _ _
 ·simp only [resolve,c5];simp [go_sem]
 ·simp [invoke,go_sem,b3]
 ·refine callsIn_wide.2 ((d0 (w.heap.size+1)
   (fun pre W=>I pre W/\W.heap[w.heap.size+1]?=some (.loop (f .ready none))/\W.heap[w.heap.size]?=some (.deferred (some []))/\Q0 (fun b=>T b\/w.heap.size<=b) w W/\w.heap.size+2<=W.heap.size)
   (fun pre W=>∃ c,L c pre W/\W.heap[w.heap.size+1]?=some (.loop (f .done (some c)))/\W.heap[w.heap.size]?=some (.deferred (some []))/\w.heap.size+2<=W.heap.size)
   l a5.of (Nat.le_succ _) ⟨_,b1,rfl⟩ ?_ ?_ ?_ ?_ ⟨b4 _ a5 Y,b1,b7,a5.of,by omega⟩).mono ?_)
  ·rintro pre A B ⟨N,y,a3,b5,a4⟩ d;rw [Y] at d;exact⟨U _ _ _ N (d.mono fun b _ hb=>.inl hb) ⟨_,y,rfl⟩,d.heap y (fun hb=>by have:=hb.1;omega),d.heap a3 (fun hb=>by have:=hb.1;omega),b5.after d (fun b a9 hb=>by have:=hb.1;omega),Nat.le_trans a4 d.size⟩
  ·rintro pre A B ⟨c,N,y,a3,a4⟩ d;rw [Y] at d;exact⟨c,O _ _ _ _ N (d.mono fun b _ hb=>.inl hb) ⟨_,y,rfl⟩,d.heap y (fun hb=>by have:=hb.1;omega),d.heap a3 (fun hb=>by have:=hb.1;omega),Nat.le_trans a4 d.size⟩
  ·rintro pre A ⟨N,y,_⟩;exact⟨b6 _ _ N,_,y,rfl⟩
  ·rintro pre x rest W ys a0 ⟨q,i,m,d,s⟩ a6;rw [Y] at a6;have a9:w.heap.size+1<W.heap.size:=by omega
   have b0:=run_yield (P:=P) (args:=ys) i (by rw [r];exact c9 _ x _ _ a6);rw [r] at b0;refine⟨fn,_,assign,body,b0,roundIn_of_wpIn trivial (c0 _ pre x rest ys W _ a0 q a6 ?_)⟩;intro W' S q;clear b0;have i:=S.heap i (V _ oz);have m:=S.heap m (V _ oz);have d2:=d;have d:=d.trans (S.mono fun b _ h=>.inl h);have Z:=s;have s:=Nat.le_trans s S.size;have a9:w.heap.size+1<W'.heap.size:=by omega
   have d3:Q0 (fun b=>T b\/b=w.heap.size+1) W W':=S.mono fun b _ h=>.inl h;refine⟨_,run_beginRound i (by rw [r]),?_⟩;have c7:(W'.putObj (w.heap.size+1) (.loop { f .ready none with state:=.busy })).heap[w.heap.size+1]?=some (.loop { f .ready none with state:=.busy }):=World.putObj_heap_same a9;have c2:(W'.putObj (w.heap.size+1) (.loop { f .ready none with state:=.busy })).heap[w.heap.size]?=some (.deferred (some [])):=(World.putObj_heap_other oz).trans m;have b9:Q0 (fun b=>T b\/w.heap.size<=b) w (W'.putObj (w.heap.size+1) (.loop { f .ready none with state:=.busy })):=d.putObj (.inl (Nat.le_succ _)) _;refine wpIn_mono (c1 pre x rest ys _ a0 (by simpa using s) b9 (U _ _ _ q (H W' _) ⟨_,i,rfl⟩)) ?_
   have u:∀(jump:Option Code) (e:World),Q0 (fun b=>¬ ¬ T b) (W'.putObj (w.heap.size+1) (.loop { f .ready none with state:=.busy })) e ->
     (Instr.endRound (w.heap.size+1) jump).run P e=.ok (.bool jump.isNone) (e.putObj (w.heap.size+1) (.loop (f (if jump.isNone then .ready else .done) jump))) /\
     (e.putObj (w.heap.size+1) (.loop (f (if jump.isNone then .ready else .done) jump))).heap[w.heap.size+1]?=some (.loop (f (if jump.isNone then .ready else .done) jump)) /\
     (e.putObj (w.heap.size+1) (.loop (f (if jump.isNone then .ready else .done) jump))).heap[w.heap.size]?=some (.deferred (some [])) /\
     Q0 (fun b=>T b\/b=w.heap.size+1) W (e.putObj (w.heap.size+1) (.loop (f (if jump.isNone then .ready else .done) jump)))/\(∃ o,e.heap[w.heap.size+1]?=some o/\o.isCells=false):=fun jump e k=>by
    have a8:=k.heap c7 (fun h=>h (V _ oz));have c3:=k.heap c2 (fun h=>h (V _ oz));have:=run_endRound (P:=P) jump a8;rw [r] at this ⊢;refine⟨this,World.putObj_heap_same (Array.getElem?_eq_some_iff.1 a8).1,(World.putObj_heap_other oz).trans c3,?_,_,a8,rfl⟩;exact(d3.trans ((Q0.refl _ W').putObj (.inr (.inr rfl)) _)).trans (k.mono fun b _ hb=>.inl (Classical.byContradiction hb)) |>.putObj (.inr (.inr rfl)) _
   have c6:∀ {X:World},Q0 (fun b=>T b\/b=w.heap.size+1) W X->Q0 (fun b=>T b\/w.heap.size<=b) w X:=fun h=>d2.trans (h.mono fun b _ hb=>hb.imp id (fun a2=>by omega));rintro a2 d4 e K;cases a2 with
   | normal=>
    obtain⟨k,D⟩:=K;obtain⟨J,F,z,j,G⟩:=u none e k;exact⟨_,_,J,.inl ⟨rfl,⟨U _ _ _ D (H e _) G,F,z,c6 j,Nat.le_trans Z j.size⟩,j⟩⟩
   | ret=>
    obtain⟨k,D⟩:=K;obtain⟨J,F,z,j,G⟩:=u (some .ret) e k;exact⟨_,_,J,.inr ⟨rfl,⟨.ret,O _ _ _ _ D (H e _) G,F,z,Nat.le_trans Z j.size⟩,j⟩⟩
   | exit id=>
    obtain⟨k,D⟩:=K;obtain⟨J,F,z,j,G⟩:=u (some (.exit id)) e k;exact⟨_,_,J,.inr ⟨rfl,⟨.exit id,O _ _ _ _ D (H e _) G,F,z,Nat.le_trans Z j.size⟩,j⟩⟩
   | goto t=>
    obtain⟨k,D⟩:=K;obtain⟨J,F,z,j,G⟩:=u (some (.goto t)) e k;exact⟨_,_,J,.inr ⟨rfl,⟨.goto t,O _ _ _ _ D (H e _) G,F,z,Nat.le_trans Z j.size⟩,j⟩⟩
   | panic ch=>exact K.elim
   | outgrown=>exact K.elim
  ·rintro a2 a1 (⟨⟨v,rfl⟩,(⟨a7,q,i,m,d,s⟩ | ⟨pre,x,rest,a0,c,q,i,m,s⟩)⟩ | ⟨ch,a7,rfl,q,i,m,d,s⟩)
   ·refine⟨none,_,by have:=run_endLoop (P:=P) i (by rw [r];simp);rw [r] at this;exact this,?_⟩;exact c4 a7 _ (U _ _ _ q (H a1 _) ⟨_,i,rfl⟩) ((World.putObj_heap_other oz).trans m) (by simpa using s)
   ·refine⟨some c,_,by have:=run_endLoop (P:=P) i (by rw [r];simp);rw [r] at this;exact this,?_⟩;exact(wpIn_wide (n:=0)).2 (d1 c pre x rest _ a0 (O _ _ _ _ q (H a1 _) ⟨_,i,rfl⟩) ((World.putObj_heap_other oz).trans m))
   ·exact c8 ch a1 a7 q m s
end Go.Ab
namespace Go.Ab
open Go.RowKit
section
variable {P:Program} {ops:Array Oper} {Q:Exit->Act->World->Prop} {md:Region.Mode} {S:World->Prop} {Lt:List Nat}
def Wq(md:Region.Mode)(ops:Array Oper)(listed:Array Bool):Prop:=
 ∀ k o,ops[k]?=some o->listed.getD k false=true->∀ e∈o.after,Region.binds md e=true->listed.getD e.on false=true
def Dw(md:Region.Mode)(ops:Array Oper)(i:Nat):Nat->Nat->Bool
 | 0,_=>false
 | f+1,k=>match ops[k]? with
  | some o=>o.after.toList.any fun e=>Region.binds md e && (e.on == i || Dw md ops i f e.on)
  | none=>false
theorem R3{listed:Array Bool}{i:Nat}(hc:Wq md ops listed)(hi:listed.getD i false=false):∀(f k:Nat),Dw md ops i f k=true->listed.getD k false=false/\¬ k∈Region.ready md ops listed
 | 0,_,h=>by cases h
 | f+1,k,h=>by
  unfold Dw at h;cases ho:ops[k]? with
  | none=>rw [ho] at h;cases h
  | some o=>
   rw [ho] at h;obtain⟨e,he,hb⟩:=List.any_eq_true.1 h;rw [Bool.and_eq_true,Bool.or_eq_true,beq_iff_eq] at hb;have he':e∈o.after:=by simpa using he
   have hon:listed.getD e.on false=false:=by
    rcases hb.2 with h1 | h1
    ·rw [h1];exact hi
    ·exact(R3 hc hi f e.on h1).1
   constructor
   ·cases hk:listed.getD k false with
    | false=>rfl
    | true=>rw [hc k o ho hk e he' hb.1] at hon;cases hon
   ·intro hr;obtain⟨_,o',ho',hall⟩:=mem_ready.1 hr;rw [ho] at ho';cases ho';rw [hall e he' hb.1] at hon;cases hon
theorem Wq.step{a:Array Bool}{j:Nat}(m:Wq md ops a)(n:j∈Region.ready md ops a):Wq md ops (a.setIfInBounds j true):=by
 intro k o g e b d c;refine getD_set_true ?_;by_cases f:k=j
 ·subst f;obtain⟨_,p,i,l⟩:=mem_ready.1 n;rw [g] at i;cases i;exact l b d c
 ·rw [getD_set_ne false (Ne.symm f)] at e;exact m k o g e b d c
def Qx(P:Program)(md:Region.Mode)(ops:Array Oper)(Q:Exit->Act->World->Prop)(S:World->Prop)(Lt:List Nat):Nat->Array Bool->Act->World->Prop
 | 0,listed,a,w=>Region.ready md ops listed=[]/\Q .normal a w
 | fuel+1,listed,a,w=>
  (Region.ready md ops listed=[]->Q .normal a w) /\
  ∀ i∈Region.ready md ops listed,wpOp P ops Q i (fun a' w'=>(Lt.contains i=false->S w')/\Qx P md ops Q S Lt fuel (listed.setIfInBounds i true) a' w') a w
theorem Gd:∀(fuel:Nat) (listed:Array Bool) (a:Act) (w:World),Qx P md ops Q S Lt fuel listed a w->wpAny P md ops Q fuel listed a w
 | 0,_,_,_,h=>h
 | fuel+1,_,_,_,h=>⟨h.1,fun i hi=>wpOp_mono (fun a' w' h'=>Gd fuel _ a' w' h'.2) (h.2 i hi)⟩
theorem Ta{i:Nat}{g:Oper}{v:Value}(r:ops[i]?=some g)(B:∀(j:Nat) (o:Oper) cs b,ops[j]?=some o->o.op≠.select cs b)
  (D:∀ c a w,Q (.panic c) (a.put g.dst v) w->Q (.panic c) a w) (H:∀ j,Lt.contains j=true->Dw md ops i ops.size j=true) :
  ∀(fuel:Nat) (listed:Array Bool) (a:Act) (w:World),Wq md ops listed ->
   (∀ j oj,ops[j]?=some oj->j≠i->listed.getD j true=false->(∀ e∈oj.after,Region.binds md e=true->e.on≠i)->g.apart ops oj=true) ->
   i∈Region.ready md ops listed->YieldsIf P ops S g v a->S w ->
   Qx P md ops Q S Lt fuel (listed.setIfInBounds i true) (a.put g.dst v) w->Qx P md ops Q S Lt (fuel+1) listed a w:=by
 intro fuel
 induction fuel with
 | zero=>
  intro listed a w _ _ f p m l;refine⟨fun h=>(by rw [h] at f;cases f),fun j hj=>?_⟩;by_cases d:j=i
  ·subst d;exact p.wpOp r m ⟨fun _=>m,l⟩
  ·have:=ready_mono hj d;rw [l.1] at this;cases this
 | succ fuel ih=>
  intro listed a w u x f p m l;refine⟨fun h=>(by rw [h] at f;cases f),fun j hj=>?_⟩;by_cases d:j=i
  ·subst d;exact p.wpOp r m ⟨fun _=>m,l⟩
  ·have n:=l.2 j (ready_mono hj d);have y:listed.getD i false=false:=by
    have t:=(mem_ready.1 f).1;rcases Nat.lt_or_ge i listed.size with q | q
    ·simp [q] at t ⊢;exact t
    ·simp [Array.getElem?_eq_none q]
   have F:Lt.contains j=false:=by
    cases hl:Lt.contains j with
    | false=>rfl
    | true=>exact absurd hj (R3 u y _ _ (H j hl)).2
   obtain⟨A,oj,s,E⟩:=mem_ready.1 hj
   have I:∀ e∈oj.after,Region.binds md e=true->e.on≠i:=fun e he hb heq=>by
    have n:=E e he hb;rw [heq,y] at n;cases n
   have C:=wpOp_putIf s (x j oj s d A I) (fun cs b=>B i g cs b r) (fun cs b=>B j oj cs b s) D p n
   have G:∀ k ok,ops[k]?=some ok->k≠i->(listed.setIfInBounds j true).getD k true=false ->
     (∀ e∈ok.after,Region.binds md e=true->e.on≠i)->g.apart ops ok=true:=fun k ok hk hki hun hno=>by
    refine x k ok hk hki ?_ hno;by_cases z:j=k
    ·subst z;exact A
    ·rw [getD_set_ne true z] at hun;exact hun
   refine wpOp_mono (fun a' w' h3=>⟨h3.2.1,ih (listed.setIfInBounds j true) a' w' (u.step hj) G (ready_mono f (Ne.symm d)) h3.1 (h3.2.1 F) ?_⟩) C;rw [Array.setIfInBounds_comm _ _ d];exact h3.2.2
def Ls(md:Region.Mode)(ops:Array Oper)(listed:Array Bool):Bool:=
 (List.range ops.size).all fun k=>!listed.getD k false || match ops[k]? with
  | some o=>o.after.toList.all fun e=>!Region.binds md e || listed.getD e.on false
  | none=>true
theorem Sp{d:Array Bool}(h:Ls md ops d=true):Wq md ops d:=by
 intro j k c i e g f;have a:=List.all_eq_true.1 h j (List.mem_range.2 (Array.getElem?_eq_some_iff.1 c).1);rw [i,c] at a;simp only [Bool.not_true,Bool.false_or] at a;have b:=List.all_eq_true.1 a e (by simpa using g);rw [f] at b
 simpa using b
theorem Wk{i:Nat}{oi:Oper}{v:Value}{fuel:Nat}{listed:Array Bool}{a:Act}{w:World}(hi:ops[i]?=some oi)
  (hs:Region.noSelect ops=true) (hf:Region.free md ops listed i=true) (hr:(Region.ready md ops listed).contains i=true) (hc:Ls md ops listed=true) (hl:(Lt.all fun j=>Dw md ops i ops.size j)=true)
  (hQ:∀ c a w,Q (.panic c) (a.put oi.dst v) w->Q (.panic c) a w) (hy:YieldsIf P ops S oi v a) (hS:S w)
  (h:Qx P md ops Q S Lt fuel (listed.setIfInBounds i true) (a.put oi.dst v) w):Qx P md ops Q S Lt (fuel+1) listed a w:=
 Ta hi (Region.noSelect_spec hs) hQ (fun j hj=>List.all_eq_true.1 hl j (by simpa using hj)) fuel listed a w (Sp hc) (Region.free_spec hi hf) (by simpa using hr) hy hS h
theorem tkE{i d:Nat}{oi:Oper}{v:Value}{fuel:Nat}{listed:Array Bool}{a:Act}{w:World}(hi:ops[i]?=some oi)
  (hy:YieldsIf P ops S oi v a) (hS:S w) (h:Qx P md ops Q S Lt fuel (listed.setIfInBounds i true) (a.put (some d) v) w)
  (hs:Region.noSelect ops=true:=by kernel_rfl) (hf:Region.free md ops listed i=true:=by kernel_rfl) (hr:(Region.ready md ops listed).contains i=true:=by kernel_rfl) (hc:Ls md ops listed=true:=by kernel_rfl) (hl:(Lt.all fun j=>Dw md ops i ops.size j)=true:=by kernel_rfl) (hd:oi.dst=some d:=by rfl)
  (hQ:∀ c a w,Q (.panic c) (a.put (some d) v) w->Q (.panic c) a w:=by exact fun _ _ _ h=>h):Qx P md ops Q S Lt (fuel+1) listed a w:=
 Wk hi hs hf hr hc hl (by rw [hd];exact hQ) hy hS (by rw [hd];exact h)
theorem tE(i d:Nat){oi:Oper}{v:Value}{fuel:Nat}{listed:Array Bool}{a a':Act}{w:World}
  (hS:S w) (h:Qx P md ops Q S Lt fuel (listed.setIfInBounds i true) a' w) (hi:ops[i]?=some oi:=by exact rfl)
  (hy:YieldsIf P ops S oi v a:=by(exact Or.inl ⟨by rfl,by(intro w hSw;(try dsimp only at hSw);go_simp;try with_reducible rfl)⟩)) (ha:a.put (some d) v=a':=by((try simp only [Act.put,pq]);exact rfl))
  (hs:Region.noSelect ops=true:=by kernel_rfl) (hf:Region.free md ops listed i=true:=by kernel_rfl) (hr:(Region.ready md ops listed).contains i=true:=by kernel_rfl) (hc:Ls md ops listed=true:=by kernel_rfl) (hl:(Lt.all fun j=>Dw md ops i ops.size j)=true:=by kernel_rfl) (hd:oi.dst=some d:=by rfl)
  (hQ:∀ c a w,Q (.panic c) (a.put (some d) v) w->Q (.panic c) a w:=by exact fun _ _ _ h=>h):Qx P md ops Q S Lt (fuel+1) listed a w:=
 Wk hi hs hf hr hc hl (by rw [hd];exact hQ) hy hS (by rw [hd,ha];exact h)
def Q1(P:Program)(md:Region.Mode)(ops:Array Oper)(Q:Exit->Act->World->Prop)(S:World->Prop)(Lt:List Nat)(fuel:Nat)(listed:Array Bool)(a:Act)(w:World)(rs:List Nat):Prop:=
 ∀ i∈rs,wpOp P ops Q i (fun a' w'=>(Lt.contains i=false->S w')/\Qx P md ops Q S Lt fuel (listed.setIfInBounds i true) a' w') a w
theorem Q1.nil{fuel:Nat}{listed:Array Bool}{a:Act}{w:World}:Q1 P md ops Q S Lt fuel listed a w []:=fun _ h=>by cases h
theorem Q1.cons{fuel:Nat}{listed:Array Bool}{a:Act}{w:World}{i:Nat}{o:Oper}{rs:List Nat}(ho:ops[i]?=some o)
  (h:∀ K':Act->World->Prop,Go.Shut (∀ a w,S w->(S w->Qx P md ops Q S Lt fuel (listed.setIfInBounds i true) a w)->K' a w)->if Region.wanted o (yielded ops a.tmps)=true then Oper.wp P o a w K' Q else K' (a.put o.dst undef) w)
  (hs:Q1 P md ops Q S Lt fuel listed a w rs):Q1 P md ops Q S Lt fuel listed a w (i::rs):=fun j hj=>by
 rcases List.mem_cons.1 hj with rfl | hj
 ·exact wpOp_step ho (fun K' hK=>h K' (fun a w hS hW=>hK a w ⟨fun _=>hS,hW hS⟩))
 ·exact hs j hj
theorem Q1.late{fuel:Nat}{listed:Array Bool}{a:Act}{w:World}{i:Nat}{o:Oper}{rs:List Nat}(ho:ops[i]?=some o)(hl:Lt.contains i=true)
  (h:∀ K':Act->World->Prop,Go.Shut (∀ a w,Qx P md ops Q S Lt fuel (listed.setIfInBounds i true) a w->K' a w)->if Region.wanted o (yielded ops a.tmps)=true then Oper.wp P o a w K' Q else K' (a.put o.dst undef) w)
  (hs:Q1 P md ops Q S Lt fuel listed a w rs):Q1 P md ops Q S Lt fuel listed a w (i::rs):=fun j hj=>by
 rcases List.mem_cons.1 hj with rfl | hj
 ·exact wpOp_step ho (fun K' hK=>h K' (fun a w hW=>hK a w ⟨fun q=>(by rw [hl] at q;cases q),hW⟩))
 ·exact hs j hj
theorem Ti{rs:List Nat}{fuel:Nat}{listed:Array Bool}{a:Act}{w:World}(hr:Region.ready md ops listed=rs)(hne:rs≠[])
  (h:Q1 P md ops Q S Lt fuel listed a w rs):Qx P md ops Q S Lt (fuel+1) listed a w:=⟨fun h0=>absurd (hr ▸ h0) hne,hr ▸ h⟩
theorem rE(rs:List Nat){fuel:Nat}{listed:Array Bool}{a:Act}{w:World}(h:Q1 P md ops Q S Lt fuel listed a w rs)
  (hr:Region.ready md ops listed=rs:=by kernel_rfl) (hne:rs≠[]:=by simp):Qx P md ops Q S Lt (fuel+1) listed a w:=Ti hr hne h
theorem Qp{listed:Array Bool}{a:Act}{w:World}(hr:Region.ready md ops listed=[])(h:Q .normal a w) :
  ∀ fuel,Qx P md ops Q S Lt fuel listed a w
 | 0=>⟨hr,h⟩
 | _+1=>⟨fun _=>h,by rw [hr];simp⟩
theorem Zo{id:Nat}{a:Act}{w:World}(Lt:List Nat)(hm:P.follows .mixedOrders=true)(hS:S w.drew)
  (h:S w.drew->Qx P .any ops Q S Lt ops.size (Array.replicate ops.size false) a w.drew):(Code.region id ops true).wp P Q a w:=
 wp_region_any hm (Gd _ _ _ _ (h hS))
theorem V4{id l n:Nat}{a:Act}{w:World}(Lt:List Nat)(hm:P.follows .mixedOrders=true)(hd:Ug ops=true)(hQ:¬ LetsOut Q)(hS:S w.drew)
  (h:S w.drew->Qx P .any ops Q S Lt ops.size (Array.replicate ops.size false) a w.drew):(Code.region id ops true).wpIn (Fence.wide.inRound l) n P Q a w:=
 V1 hm hd hQ (Gd _ _ _ _ (h hS))
end
end Go.Ab
namespace Go.Proofs.YtejenndedjabhaaGreatDoor
open Go.RowKit Go.Ab
mutual
def Q8u:Pat->Nat
 | .node _ _ _ _ _ _ l=>Q97 l+1
def Q97:List Pat->Nat
 | []=>0
 | p::l=>Q8u p+Q97 l
end
mutual
def Nv:Pat->Bool
 | .node k _ _ _ mn _ l=>if k=0 then true else if k=3 then Q8s l else if k=4 then Q9b l else if k=5 then mn == 0 || Q9p l else false
def Q8s:List Pat->Bool
 | []=>true
 | p::l=>Nv p && Q8s l
def Q9b:List Pat->Bool
 | []=>false
 | p::l=>Nv p || Q9b l
def Q9p:List Pat->Bool
 | []=>false
 | p::_=>Nv p
end
def Qaj(p:Pat):Bool:=decide (Ya p=0) && Nv p
attribute [local go_sem] Oper.semAt_some Z6 Qn
theorem Stk.append{K:Nat->Prop}{W:World}{ps qs:List Pat}{xs f:List Value}(h:Stk K W ps xs)(k:Stk K W qs f):Stk K W (ps++qs) (xs++f):=by
 refine⟨by rw [List.length_append,h.1,k.1,List.length_append];omega,fun i hi=>?_⟩;by_cases e:i<ps.length
 ·obtain⟨a,b,c,d⟩:=h.2 i e;refine⟨a,b,fun j v hj=>?_,by rw [List.getElem_append_left e];exact d⟩;have:=c j v hj;rw [List.getElem?_append_left (List.getElem?_eq_some_iff.1 this).1];exact this
 ·obtain⟨a,b,c,d⟩:=k.2 (i - ps.length) (by simp at hi;omega);refine⟨a,b,fun j v hj=>?_,by rw [List.getElem_append_right oz];exact d⟩;have:=c j v hj;rw [List.getElem?_append_right (by rw [h.1];omega),h.1];rw [show i*7+j - ps.length*7=(i - ps.length)*7+j by omega];exact this
theorem Z1.row{K:Nat->Prop}{w:World}{l:List Pat}{ao:Option Addr}(h:Z1 K w l ao 0)(cap:Nat):∀ T,T<=l.length->T<=maxLen ->
  ∃ news,Rd w (.slice ao T cap) T 7 news/\Stk K w (l.take T) news/\∀ v∈news,v.oneCell'=true
 | 0,_,_=>⟨[],⟨rfl,Nat.zero_le _,ao,cap,rfl,fun h=>absurd h zd⟩,Stk.nil K w,fun v hv=>by cases hv⟩
 | T+1,hT,hm=>by
  obtain⟨news,hr,hs,h1⟩:=Z1.row h cap T oz oz;obtain⟨g,off,c,rfl,hg,hgl,hra,hp⟩:=h.get T oz;obtain⟨qo,qcap,hc,_⟩:=Yx hp;have hc7:c.length=7:=by rw [hc];rfl
  rw [Nat.zero_add] at hra;obtain⟨hl,_,_,_,e,h3⟩:=hr;refine⟨news++c,⟨by rw [List.length_append,hl,hc7];omega,hm,_,cap,rfl,fun _=>⟨g,off,rfl,hgl,fun j hj=>?_⟩⟩,?_,?_⟩
  ·by_cases hjT:j<T*7
   ·obtain⟨g',off',e1,_,h4⟩:=h3 oz;simp only [zV] at e;obtain⟨e,_⟩:=e;rw [<-e] at e1;cases e1;rw [h4 j hjT,List.getD_eq_getElem?_getD,List.getD_eq_getElem?_getD,List.getElem?_append_left oz]
   ·have hjc:j - T*7<c.length:=by omega
    have:=hra (j - T*7) _ (List.getElem?_eq_getElem hjc);rw [show off+T*7+(j - T*7)=off+j by omega] at this;rw [this,List.getD_eq_getElem?_getD,List.getElem?_append_right oz,hl,List.getElem?_eq_getElem hjc,Option.getD_some]
  ·rw [List.take_succ_eq_append_getElem oz];exact hs.push hc7 hp
  ·intro v hv;rcases List.mem_append.1 hv with hv | hv
   ·exact h1 v hv
   ·rw [hc] at hv;exact Ua v hv
end Go.Proofs.YtejenndedjabhaaGreatDoor
namespace Go.Ab
open Go.RowKit
open Go.Maps (Keyed IsMap string_keyed)
def Lp(D:DataW Unit)(f:List UInt8->Option Int)(z:Nat):Prop:=Maps.Tidy D/\Maps.size D=z/\∀ t,Maps.has D (.string t)=(f t).isSome/\∀ n,f t=some n->D.atKey (.string t) (.lit (.int .i64 0))=.lit (.int .i64 n)
theorem Lp.empty:Lp (.map []) (fun _=>none) 0:=⟨Maps.tidy_empty,rfl,fun _=>⟨rfl,fun _ h=>by cases h⟩⟩
theorem Q09{s t:List UInt8}(h:s≠t):Lit.string s≠Lit.string t:=fun e=>h (by injection e)
theorem Q6h{D:DataW Unit}{f:List UInt8->Option Int}(b:IsMap D)(h:∀ t,Maps.has D (.string t)=(f t).isSome/\∀ n,f t=some n->D.atKey (.string t) (.lit (.int .i64 0))=.lit (.int .i64 n)) (t:List UInt8) (c:Int) :
  ∀ x,Maps.has (D.put (.string t) (.lit (.int .i64 c))) (.string x)=(if x=t then some c else f x).isSome/\∀ n,(if x=t then some c else f x)=some n->(D.put (.string t) (.lit (.int .i64 c))).atKey (.string x) (.lit (.int .i64 0))=.lit (.int .i64 n):=by
 intro x;by_cases a:x=t
 ·subst a;rw [if_pos rfl];refine⟨Maps.has_put_same b (show WideAt.IsKeyLit (.string x) from trivial) _,fun n hn=>?_⟩;cases hn;exact Maps.atKey_put_same b (show WideAt.IsKeyLit (.string x) from trivial) _ _
 ·rw [if_neg a,Maps.has_put_other (Q09 a),Maps.atKey_put_other (Q09 a)];exact h x
section
variable {P:Program} {k e:TypeId} {w:World} {b n z:Nat} {f:List UInt8->Option Int}
def Zb(P:Program)(k e:TypeId)(w:World)(b n:Nat)(f:List UInt8->Option Int)(z:Nat):Prop:=∃ D:DataW Unit,w.ownsMap P k (plainElem P e) b n D/\Lp D f z
theorem Zb.keep{S:Nat->Prop}{V:World}(h:Zb P k e w b n f z)(l:Q0 S w V)(i:¬ S b):Zb P k e V b n f z:=by
 obtain⟨a,⟨d,c,j,m⟩,g⟩:=h;exact⟨a,⟨d,c,l.heap j i,m⟩,g⟩
theorem Zb.lt(h:Zb P k e w b n f z):b<w.heap.size:=by
 obtain⟨c,a,_⟩:=h;exact a.lt
theorem Zb.made{V:World}(a:w.alloc (.map #[] 0)=V) (c:w.heap.size=b):Zb P k e V b 0 (fun _=>none) 0:=by
 subst a c;exact⟨_,World.ownsMap_made _ _ _ _,Lp.empty⟩
theorem Zb.mono{m:Nat}(h:Zb P k e w b n f z)(g:n<=m):Zb P k e w b m f z:=by
 obtain⟨a,c,d⟩:=h;exact⟨a,c.mono g,d⟩
theorem Zb.fn{g:List UInt8->Option Int}(h:Zb P k e w b n f z)(a:∀ t,g t=f t):Zb P k e w b n g z:=by
 obtain rfl:g=f:=funext a;exact h
variable {ops:Array Oper} {rest:List Oper} {o:Oper} {a:Act} {Q:Exit->Act->World->Prop}
theorem Yf(A:o.guard=none)(m x:Operand)(t:TypeId)(C:o.op=Op.lookup t m x true)
  (i:P.underlying k=some .string) (E:P.underlying t=some (.map k e)) (v:P.underlying e=some (.int .i64)) (G:(zeroValue e).run P w=.ok (.int .i64 0) w) (b n:Nat) (B:a.eval m=.map (some b)) (h:Zb P k e w b n f z)
  (s:ByteArray) (F:a.eval x=.string s) (D:s.size<=maxLen) (r:Option Int) (j:f s.data.toList=r)
  (d:wpList P ops Q rest (a.put o.dst (.tuple #[.int .i64 (r.getD 0),.bool r.isSome])) w):wpList P ops Q (o::rest) a w:=by
 obtain⟨l,p,_,_,q⟩:=h;refine wpList_lookup_own_ok_int w A m x t C k e .i64 (string_keyed i) E v G b n l B p (.string s) (.string s.data.toList) F (WideMaps.keyOf_string_mk i D) fun c hc _=>?_
 obtain⟨g,u⟩:=q s.data.toList;rw [g,j];subst j;cases hf:f s.data.toList with
 | none=>
  rw [hf] at g d;rw [Maps.atKey_of_not_has g] at hc;cases hc;exact d
 | some y=>
  rw [hf] at d;rw [u y hf] at hc;cases hc;exact d
theorem Ma(C:o.guard=none)(m x v:Operand)(t:TypeId)(F:o.op=Op.mapUpdate t m x v)
  (d:P.underlying k=some .string) (I:P.underlying t=some (.map k e)) (B:P.underlying e=some (.int .i64)) (b n:Nat) (D:a.eval m=.map (some b)) (h:Zb P k e w b n f z) (E:n<maxLen)
  (s:ByteArray) (K:a.eval x=.string s) (G:s.size<=maxLen) (c:Int) (J:a.eval v=.int .i64 c) (A:(Lit.int .i64 c).wf=true)
  (u:∀ V,Zb P k e V b (n+1) (fun y=>if y=s.data.toList then some c else f y) (if (f s.data.toList).isSome=true then z else z+1)->Q0 (fun q=>q=b) w V->wpList P ops Q rest (a.put o.dst undef) V):wpList P ops Q (o::rest) a w:=by
 obtain⟨l,p,g,r,i⟩:=h;refine wpList_mapUpdate_own w C m x v t F k e (string_keyed d) I (plainElem P e) b n l D p E (.string s) (.int .i64 c) (.string s.data.toList) K J (WideMaps.keyOf_string_mk d G) (.lit (.int .i64 c)) [] (plainElem_int B A) fun V h5 h6=>?_
 refine u V ⟨_,h5,h5.tidy (string_keyed d),?_,Q6h g.isMap i _ _⟩ ((Q0.refl _ w).grown h6 (fun j e=>.inr (by cases e;rfl)));have H:=Maps.size_put (k:=.string s.data.toList) g (.lit (.int .i64 c));rw [H,(i s.data.toList).1,r]
theorem Bh(i:o.guard=none)(m:Operand)(t:TypeId)(l:o.op=Op.call { callee:=Callee.builtin Builtin.len,args:=#[m],argTypes:=#[t] })
  (p:P.underlying t=some (.map k e)) (b n:Nat) (j:a.eval m=.map (some b)) (h:Zb P k e w b n f z)
  (g:wpList P ops Q rest (a.put o.dst (.int .i64 z)) w):wpList P ops Q (o::rest) a w:=by
 obtain⟨c,d,_,rfl,_⟩:=h;exact wpList_len_own w i m t l k e p (plainElem P e) b n c j d g
end
end Go.Ab
