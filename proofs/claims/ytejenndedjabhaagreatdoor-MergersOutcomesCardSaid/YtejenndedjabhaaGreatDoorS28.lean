/- light: some bool for a case. ablautlaw15.MergersOutcomes (printed by gen15.py). -/
import Derived.Test.YtejenndedjabhaaGreatDoorS20
import Derived.Test.YtejenndedjabhaaGreatDoorS21
set_option maxRecDepth 100000
set_option maxHeartbeats 16000000
namespace Go.Proofs.YtejenndedjabhaaGreatDoor
open Go.RowKit Go.Ab
attribute [local go_sem] Oper.semAt_some Zm Qv
theorem T7{w:World}{ps:Qr}{lo:Option Addr}{n lc:Nat}(G:Qt w (.slice lo n lc) ps) (H:ps.length=n) (W:n<=lc)
  (d:Option Addr) (a c:Nat) (V:a<=maxLen) (f:Option Addr) (b e:Nat) (X:b<=maxLen) (s:Option Addr) (g r:Nat) (x:g<=maxLen) (p m:Int) :
  Calls Tryz.prog 15 #[.agg #[.slice lo n lc,.slice d a c,.slice f b e,.slice s g r,.int .u32 p,.int .u32 m]] w (Q9d (a<=50/\b<=50/\g<=80) w):=by
 have a8:n<=maxLen:=by rw [<-H];exact G.1.2.1
 have B:Ext w (w.alloc (.cells #[.slice lo n lc,.slice d a c,.slice f b e,.slice s g r,.int .u32 p,.int .u32 m] 28)):=(Q0.refl _ w).alloc _;have k:(w.alloc (.cells #[.slice lo n lc,.slice d a c,.slice f b e,.slice s g r,.int .u32 p,.int .u32 m] 28)).heap[w.heap.size]?=some (.cells #[.slice lo n lc,.slice d a c,.slice f b e,.slice s g r,.int .u32 p,.int .u32 m] 28 (0,0)):=Q3 rfl;obtain⟨J,a1,a2,a0,a3⟩:=Zh5 G H W V X;unfold maxLen at a8 x;clear G H W V X;obtain⟨l,C⟩:=zE (w.alloc (.cells #[.slice lo n lc,.slice d a c,.slice f b e,.slice s g r,.int .u32 p,.int .u32 m] 28));obtain⟨o,D⟩:=zE w.heap.size;rw [C] at B k;rw [D] at k;obtain⟨L,M,y⟩:=Zh3 C D B;clear C D B;go_enter Tryz.func15,Tryz.ntmps15;go_upto_region 1 with (fail)
 rw [L.out,M.out];clear L M;have N:l.cell? ⟨o,0,none⟩=some (.slice lo n lc):=by rw [cell_of_row _ _ _ _ _ _ k];rfl
 have O:l.cell? ⟨o,1,none⟩=some (.slice d a c):=by rw [cell_of_row _ _ _ _ _ _ k];rfl
 have P:l.cell? ⟨o,2,none⟩=some (.slice f b e):=by rw [cell_of_row _ _ _ _ _ _ k];rfl
 have Q:l.cell? ⟨o,3,none⟩=some (.slice s g r):=by rw [cell_of_row _ _ _ _ _ _ k];rfl
 go_wp2_with fail;refine(Lp (J.out.ext y.out) a1.out a2.out).mono ?_;rintro a4 u ⟨A,rfl,q⟩;have R:=q.cell_some N id;have a5:=q.cell_some O id;have a6:=q.cell_some P id;have S:=q.cell_some Q id;have z:=Zh (y.out.trans q);clear q k J y N O P Q;cases A
 ·go_wp2;go_ret;exact⟨_,rfl,fun h=>by(first | cases h | (revert h;simp)),z.out⟩
 have T:Ext u (u.alloc (.cells #[.slice d a c,.slice f b e] 23)):=(Q0.refl _ u).alloc _;have x:Q11 (u.alloc (.cells #[.slice d a c,.slice f b e] 23)) (.slice (some ⟨u.heap.size,0,none⟩) 2 2) [.slice d a c,.slice f b e]:=by
  refine⟨⟨by simp,by unfold maxLen;simp,_,_,rfl,fun _=>⟨_,_,rfl,(Array.getElem?_eq_some_iff.1 (Q3 rfl)).1,fun j hj=>?_⟩⟩,?_⟩
  ·have a7:j=0\/j=1:=by simp at hj;omega
   rcases a7 with rfl | rfl <;> (rw [cell_of_row _ _ _ _ _ _ (Q3 rfl)];rfl)
  ·intro b4 Z;simp only [List.mem_cons,List.not_mem_nil,or_false] at Z;rcases Z with rfl | rfl
   ·exact⟨_,_,_,rfl,a0.out⟩
   ·exact⟨_,_,_,rfl,a3.out⟩
 have Y:=Cz x rfl;have K:=Zh Y;have I:=Zh T;clear Y x T;go_wp2_with fail;refine K.out.mono ?_;rintro a4 b5 ⟨A,rfl,E,U⟩;have v:=I.out.trans U;have a9:=v.cell_some R id;have b0:=v.cell_some S id;have t:=Zh (z.out.trans v);clear U v K I z R a5 a6 S;cases A
 ·clear E;go_wp2;go_ret;exact⟨_,rfl,fun h=>by(first | cases h | (revert h;simp)),t.out⟩
 have F:=E rfl;have i:=Zh (And.intro (F (.slice d a c) zy d a c rfl) (F (.slice f b e) zy f b e rfl));clear E F;by_cases b3:(g:Int)<=80;case neg=>
  clear i;go_wp2;go_ret;exact⟨_,rfl,fun h=>by(first | cases h | (revert h;simp)),t.out⟩
 by_cases b1:(n:Int)<=12;case pos=>
  go_wp2;go_ret;exact⟨_,rfl,fun _=>⟨i.out.1,i.out.2,by omega⟩,t.out⟩
 by_cases b2:(g:Int)<=8
 ·go_wp2;go_ret;exact⟨_,rfl,fun _=>⟨i.out.1,i.out.2,by omega⟩,t.out⟩
 ·go_wp2;go_ret;exact⟨_,rfl,fun _=>⟨i.out.1,i.out.2,by omega⟩,t.out⟩
theorem Sb{w:World}{base:Nat}{e:TypeId}{ao:Option Addr}{n c:Nat}{u:Wd}(a:u.length=n)(h:w.ownsRow base e 2 (.slice ao n c) n (Qx u)) (b:Zn u):Qk w (.slice ao n c) u:=by subst a;exact Qk.own h b
theorem Gv{w:World}{v:Value}{u:Wd}(h:Qk w v u):Q4 w v u:=by obtain⟨a,b,rfl,h,_⟩:=h;exact h
theorem Q04{w:World}{ps:Qr}{lo:Option Addr}{n lc:Nat}(c3:Qt w (.slice lo n lc) ps) (c4:ps.length=n) (c5:n<=lc) {A:Option Addr} {l z:Nat} {T:Wd} (c1:Q4 w (.slice A l z) T) (c2:T.length=l) {D:Option Addr} {o C:Nat} {U:Wd} (c6:Q4 w (.slice D o C) U) (c7:U.length=o) {J:Option Addr} {y E:Nat} {S:Wd} (c8:Q4 w (.slice J y E) S) (c9:S.length=y) (g1:y<=E) {p m:Nat} (f9:Qh (p,m)) (f4:Tab w) :
  Calls Tryz.prog 3 #[.agg #[.slice lo n lc,.slice A l z,.slice D o C,.slice J y E,.int .u32 (p:Int),.int .u32 (m:Int)]] w fun e w'=>e=.returned (.bool true)/\Ext w w':=by
 have f6:l<=maxLen:=by rw [<-c2];exact c1.1.2.1
 have g0:o<=maxLen:=by rw [<-c7];exact c6.1.2.1
 have g2:y<=maxLen:=by rw [<-c9];exact c8.1.2.1
 have b1:Ext w (w.alloc (.cells #[.slice lo n lc,.slice A l z,.slice D o C,.slice J y E,.int .u32 (p:Int),.int .u32 (m:Int)] 28)):=(Q0.refl _ w).alloc _;have Y:(w.alloc (.cells #[.slice lo n lc,.slice A l z,.slice D o C,.slice J y E,.int .u32 (p:Int),.int .u32 (m:Int)] 28)).heap[w.heap.size]?=some (.cells #[.slice lo n lc,.slice A l z,.slice D o C,.slice J y E,.int .u32 (p:Int),.int .u32 (m:Int)] 28 (0,0)):=Q3 rfl;obtain⟨e4,e6,j4,V,a4,W,a7,j5⟩:=Zh8 c3 c4 c5 c1 c2 c6 c7 c8;obtain⟨j7,j6,e7,a8,e5⟩:=Zh5 c9 g1 f9 f4 (fun(s:World) (hE:Ext w s)=>T7 (c3.ext hE) c4 c5 A l z f6 D o C g0 J y E g2 (p:Int) (m:Int));clear c3 c4 c5 c1 c2 c6 c7 c8 c9 g1 f9 f4 f6 g0 g2;obtain⟨s,b3⟩:=zE (w.alloc (.cells #[.slice lo n lc,.slice A l z,.slice D o C,.slice J y E,.int .u32 (p:Int),.int .u32 (m:Int)] 28));obtain⟨F,b4⟩:=zE w.heap.size;rw [b3] at b1 Y;rw [b4] at Y;obtain⟨f0,f2,a3,M⟩:=Zh4 b3 b4 b1 Y;clear b3 b4 b1 Y;go_enter Tryz.func3,Tryz.ntmps3;go_upto_region 1 with (fail)
 rw [f0.out,f2.out];clear f0 f2;have t:s.cell? ⟨F,0,none⟩=some (.slice lo n lc):=by rw [cell_of_row _ _ _ _ _ _ M.out];rfl
 have c:s.cell? ⟨F,1,none⟩=some (.slice A l z):=by rw [cell_of_row _ _ _ _ _ _ M.out];rfl
 have b:s.cell? ⟨F,2,none⟩=some (.slice D o C):=by rw [cell_of_row _ _ _ _ _ _ M.out];rfl
 have N:s.cell? ⟨F,3,none⟩=some (.slice J y E):=by rw [cell_of_row _ _ _ _ _ _ M.out];rfl
 have u:s.cell? ⟨F,4,none⟩=some (.int .u32 (p:Int)):=by rw [cell_of_row _ _ _ _ _ _ M.out];rfl
 have x:s.cell? ⟨F,5,none⟩=some (.int .u32 (m:Int)):=by rw [cell_of_row _ _ _ _ _ _ M.out];rfl
 clear M;go_wp2_with fail;refine(e5.out s a3.out).mono ?_;rintro e q ⟨g7,rfl,b5,a⟩;have r:=Zh (a3.out.trans a);have G:=a.cell_some t id;have g:=a.cell_some c id;have f:=a.cell_some b id;have Q:=a.cell_some N id;have H:=a.cell_some u id;have I:=a.cell_some x id;clear t c b N u x;have t:=G;have c:=g;have b:=f;have N:=Q;have u:=H;have x:=I;clear G g f Q H I;clear a a3 e5;cases g7
 ·clear b5 t c b N u x;go_wp2_with fail;refine(Xi q (a8.out.keep r.out id)).mono ?_;rintro e j3 ⟨rfl,R⟩;have a9:=Zh (r.out.trans R);clear R r;go_wp2;go_ret;exact⟨rfl,a9.out⟩
 obtain⟨i3,i4,i5⟩:=b5 rfl;clear b5;have b6:=fun(j:World) (k:Ext q j)=>Wt (V.out.ext (r.out.trans k)) (by rw [a4.out];omega);have b7:=fun(j:World) (k:Ext q j)=>Wt (W.out.ext (r.out.trans k)) (by rw [a7.out];omega);rw [a4.out] at b6;rw [a7.out] at b7;have d5:=Zh b6;have d6:=Zh b7;clear b6 b7 i3 i4 i5;go_upto_region 3 with (fail)
 have B:Ext q q.drew:=(Q0.refl _ q).drew;refine Z8 (S:=fun j=>Ext q j) [] kz B ?_;intro _;obtain⟨j8,f5⟩:=zE q.drew;rw [f5] at B ⊢;clear f5;refine tE 0 13 B ?_;refine tkE (i:=1) (d:=14) (v:=?_) rfl (Or.inl ⟨by rfl,?_⟩) B ?_;rotate_left
 ·intro j k;have i2:=(show Ext q j from k).cell_some c id;(try dsimp only at k);go_simp;try with_reducible rfl
 try simp only [Act.put,pq]
 refine tE 3 16 B ?_;refine tkE (i:=4) (d:=17) (v:=?_) rfl (Or.inl ⟨by rfl,?_⟩) B ?_;rotate_left
 ·intro j k;have i2:=(show Ext q j from k).cell_some b id;(try dsimp only at k);go_simp;try with_reducible rfl
 try simp only [Act.put,pq]
 refine rE [2] ?_;refine Q2.cons rfl (fun K hK=>?_) Q2.nil;refine iw rfl ?_;go_simp;refine(d5.out _ B).mono ?_;rintro e g6 ⟨g9,g8,rfl,f7,P⟩;have X:Ext q g6:=B.trans P;have d2:=Zh (Sb a4.out f7 V.out.2);clear P B f7;refine hK _ _ X (fun _=>?_);clear hK K;try simp only [Act.put,pq]
 refine rE [5] ?_;refine Q2.cons rfl (fun K hK=>?_) Q2.nil;refine iw rfl ?_;go_simp;refine(d6.out _ X).mono ?_;rintro e d0 ⟨i1,i0,rfl,f8,P⟩;have a:Ext q d0:=X.trans P;have a0:=Zh (Sb a7.out f8 W.out.2);have Z:=Zh (d2.out.ext P);clear P X f8 d2;refine hK _ _ a (fun _=>?_);clear hK K;try simp only [Act.put,pq]
 refine tE 6 3 a ?_;refine tE 7 4 a ?_;refine Z0 kz ?_ _;have G:=a.cell_some t id;have g:=a.cell_some c id;have f:=a.cell_some b id;have Q:=a.cell_some N id;have H:=a.cell_some u id;have I:=a.cell_some x id;clear t c b N u x;have t:=G;have c:=g;have b:=f;have N:=Q;have u:=H;have x:=I;clear G g f Q H I;have L:=Zh (r.out.trans a);clear a r d5 d6;obtain⟨d1,b0⟩:=zE (Uc (ps.map (·.1)) T U (p,m));obtain⟨f3,b2⟩:=zE (Ua (ps.map (·.1)) T U (p,m));have b8:=N7 (e4.out.ext L.out) e6.out (V.out.ext L.out) (W.out.ext L.out) e7.out (a8.out.keep L.out id) (lc:=lc);have b9:=fun(j:World) (k:Ext d0 j)=>W1 (e4.out.ext (L.out.trans k)) e6.out ((Gv Z.out).ext k) ((Gv a0.out).ext k) e7.out (lc:=lc);rw [b0,b2] at b8;simp only [b0,b2] at b9;have a1:=Zh b8;have d7:=Zh b9;clear b8 b9 b0 b2;change Hid (Calls Tryz.prog 18 #[.slice lo n lc,.slice A l z,.slice D o C,.agg #[.int .u32 (p:Int),.int .u32 (m:Int)]] d0 _) at a1;go_wp2_with fail;refine a1.out.mono ?_;rintro e g5 ⟨j9,rfl,i6,a⟩;have G:=a.cell_some t id;have g:=a.cell_some c id;have f:=a.cell_some b id;have H:=a.cell_some u id;have I:=a.cell_some x id;clear t c b u x;have t:=G;have c:=g;have b:=f;have u:=H;have x:=I;clear G g f H I;obtain⟨a2,d3,d8,e8⟩:=Zh4 (d7.out g5 a) (Z.out.ext a) (a0.out.ext a) (L.out.trans a);obtain⟨k1,k0,i7,g3,i8⟩:=i6;subst i7;have f1:=Zh g3;clear a a1 d7 Z a0 L g3 i8;change Hid (Calls Tryz.prog 19 #[.slice lo n lc,.slice g9 l g8,.slice i1 o i0,.agg #[.int .u32 (p:Int),.int .u32 (m:Int)]] g5 _) at a2;go_wp2_with fail;refine a2.out.mono ?_;rintro e k5 ⟨k2,rfl,i9,a⟩;have g:=a.cell_some c id;have f:=a.cell_some b id;clear c b;have c:=g;have b:=f;clear g f;obtain⟨k4,k3,j0,g4,j1⟩:=i9;subst j0;have c0:=Su (f1.out.ext a) g4;rw [decide_eq_true rfl] at c0;obtain⟨e3,d4,d9,a5⟩:=Zh4 c0 (d3.out.ext a) (d8.out.ext a) (e8.out.trans a);clear a a2 d3 d8 e8 g4 j1 f1 c0 t u x;go_wp2_with fail;refine e3.out.mono ?_;rintro e k6 ⟨rfl,a⟩;have g:=a.cell_some c id;have f:=a.cell_some b id;clear c b;have c:=g;have b:=f;clear g f;have O:=Tl ((Gv d4.out).ext a) (V.out.ext (a5.out.trans a));rw [decide_eq_true rfl] at O;obtain⟨a6,e1,e0⟩:=Zh3 (a5.out.trans a) O (d9.out.ext a);clear a e3 O d4 a5 d9;go_wp2_with fail;refine e1.out.mono ?_;rintro e k7 ⟨rfl,a⟩;have f:=a.cell_some b id;clear b;have b:=f;clear f;have O:=Tl ((Gv e0.out).ext a) (W.out.ext (a6.out.trans a));rw [decide_eq_true rfl] at O;have e9:=Zh (a6.out.trans a);have e2:=Zh O;clear a e1 O a6 e0;go_wp2_with fail;refine e2.out.mono ?_;rintro e j2 ⟨rfl,a⟩;have r:=Zh (e9.out.trans a);clear a e2 e9 b;go_wp2_with fail;refine(Xi j2 (a8.out.keep r.out id)).mono ?_;rintro e j3 ⟨rfl,R⟩;have a9:=Zh (r.out.trans R);clear R r;go_wp2;go_ret;exact⟨rfl,a9.out⟩
end Go.Proofs.YtejenndedjabhaaGreatDoor
