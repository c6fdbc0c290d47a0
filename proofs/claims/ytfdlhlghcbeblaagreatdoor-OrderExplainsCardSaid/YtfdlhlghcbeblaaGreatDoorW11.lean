/- ablautlaw10.repeats, Reps (printed by genrepso.py). -/
import Derived.Test.YtfdlhlghcbeblaaGreatDoorW09
import Derived.Test.YtfdlhlghcbeblaaGreatDoorW07
set_option maxRecDepth 100000
set_option maxHeartbeats 16000000
namespace Go.Proofs.YtfdlhlghcbeblaaGreatDoor
open Go.RowKit Go.Ab
attribute [local go_sem] Oper.semAt_some Z1 Qk
mutual
def Hd:Pat->Nat
 | .node k _ _ _ _ _ l=>(if k=5 then 1 else 0)+Xn l
def Xn:List Pat->Nat
 | []=>0
 | p::l=>Hd p+Xn l
end
theorem Q6e{l:List Pat}{i:Nat}(c:i<l.length):Xn (l.take (i+1))=Xn (l.take i)+Hd l[i]:=by
 have d:∀(a b:List Pat),Xn (a++b)=Xn a+Xn b:=by
  intro a
  induction a with
  | nil=>intro b;simp [Xn]
  | cons p a ih=>intro b;simp only [List.cons_append,Xn,ih];omega
 rw [List.take_succ_eq_append_getElem c,d];simp [Xn]
mutual
theorem P5:∀ p:Pat,Hd p<=Kq p
 | .node k pl mi nt mn mx l=>by
  have:=P4 l;unfold Hd Kq
  split <;> omega
theorem P4:∀ l:List Pat,Xn l<=J1 l
 | []=>by simp [Xn,J1]
 | p::l=>by
  have h1:=P5 p;have h2:=P4 l;simp only [Xn,J1];omega
end
theorem Q7b{l:List Pat}{i:Nat}(a:i<l.length):Kq l[i]<=J1 l:=by
 induction l generalizing i with
 | nil=>cases a
 | cons p l ih=>
  simp only [J1];cases i with
  | zero=>simp only [List.getElem_cons_zero];omega
  | succ i=>
   have:=ih (i:=i) (by simpa using a);simp only [List.getElem_cons_succ];omega
theorem Q4p(l:List Pat)(i:Nat):J1 (l.take i)<=J1 l:=by
 have:J1 l=J1 (l.take i)+J1 (l.drop i):=by rw [<-N9,List.take_append_drop]
 omega
def Tl(p:Pat):Prop:=∀(K:Nat->Prop) (w:World) (cs:List Value),Qr K w p cs->Kq p<=40 ->
 Calls Tryz.prog 142 #[.agg cs.toArray] w fun e w'=>e=.returned (.int .i64 (Hd p:Nat))/\Ext w w'
theorem Q8t(k:Int)(pl mi:Nat)(nt:Bool)(mn mx:Int)(l:List Pat)(d3:∀ p∈l,Tl p):Tl (.node k pl mi nt mn mx l):=by
 intro c0 v f2 c9 d2;unfold Qr at c9;obtain⟨J,K,rfl,e3,e2,c7,c5,c6⟩:=c9;have c8:l.length<=maxLen:=Nat.le_trans c7 c5;unfold maxLen at c8;have a7:J1 l<=39:=by unfold Kq at d2;omega
 have a9:Hd (.node k pl mi nt mn mx l)=(if k=5 then 1 else 0)+Xn l:=by rw [Hd]
 have c3:∀ b,Xn (l.take b)<=39:=fun b=>Nat.le_trans (P4 _) (Nat.le_trans (Q4p l b) a7);have d0:=fun b (C:b<l.length)=>Q6e C;have d1:=fun b (C:b<l.length)=>Nat.le_trans (Q7b C) a7;obtain⟨c1,c2⟩:=zE (Hd (.node k pl mi nt mn mx l));rw [c2] at a9 ⊢;have a6:Xn (l.take l.length)=Xn l:=by rw [List.take_of_length_le (Nat.le_refl _)]
 obtain⟨d,M⟩:=zE l.length;rw [M] at a6;obtain⟨b3,b2,b9,b8,H,b5,b6,b4⟩:=Zh8 M c6 d3 a9 c3 d0 d1 a6;unfold Qh;rw [M] at c8 ⊢;clear c6 d3 M c7 c5 e3 e2 c2 a9 c3 d0 d1 a6 d2 a7;go_enter Tryz.func142,Tryz.ntmps142;obtain⟨P,x⟩:∃ c:Nat,(if k=5 then 1 else 0)=c:=⟨_,rfl⟩;have a8:=b8.out;rw [x] at a8;have f4:P<=1:=by rw [<-x];split <;> omega
 have I:=Zh a8;clear a8 b8;have c4:((k:Int) == 5)=decide (k=5):=by by_cases d8:k=5 <;> simp [d8]
 go_upto_region 2 with (fail)
 have g:(v.alloc (.cells #[.int .i64 k,.int .u32 (pl:Int),.int .u32 (mi:Int),.bool nt,.int .i64 mn,.int .i64 mx,.slice J d K] 98)).heap[v.heap.size]?=some (.cells #[.int .i64 k,.int .u32 (pl:Int),.int .u32 (mi:Int),.bool nt,.int .i64 mn,.int .i64 mx,.slice J d K] 98 (0,0)):=Q2 rfl;have A:Ext v (v.alloc (.cells #[.int .i64 k,.int .u32 (pl:Int),.int .u32 (mi:Int),.bool nt,.int .i64 mn,.int .i64 mx,.slice J d K] 98)):=(Q0.refl _ v).alloc _;generalize (v.alloc (.cells #[.int .i64 k,.int .u32 (pl:Int),.int .u32 (mi:Int),.bool nt,.int .i64 mn,.int .i64 mx,.slice J d K] 98))=d4 at g A ⊢;generalize v.heap.size=b1 at g ⊢;have b7:=Zh g;have w:=zR g;clear g;by_cases L:k=5
 ·subst L;have a0:P=1:=by rw [<-x];rfl
  clear x c4;subst a0;go_wp2;clear w
  refine wp_loop (fun a q=>∃(b c:Nat),b<=d/\a.defers=[]/\gS a [1,3,4]=(24,[.pointer (some ⟨b1,0,none⟩),.int .i64 c,.int .i64 b])/\c=1+Xn (l.take b)/\Ext d4 q)
   (fun a _=>d - (intOf (a.tmps.getD 4 undef)).toNat) ?_ ?_
  ·exact⟨0,_,by omega,rfl,rfl,by simp [Xn],Q0.refl _ _⟩
  rintro⟨f0,_⟩ q ⟨b,c,C,a3,F,m,e⟩;subst a3;obtain⟨f1,rfl⟩:=Qq F;clear F;have g:=e.keep b7.out;have w:=zR g;have a1:=H.out b;by_cases a4:b<d
  ·have Y:(b:Int)<(d:Int):=by omega
   have d9:(0:Int)<=(b:Int):=by omega
   have i:b<l.length:=by rw [b3.out];exact a4
   obtain⟨d7,e6,Q,rfl,e0,e1,u,s⟩:=(b2.out.ext (A.trans e)).get b i;rw [Nat.zero_add] at u;obtain⟨e8,e7,r,_,_,_⟩:=Y7 s;obtain⟨R,S,T,U,V,W,X⟩:=Ug u r;have f:=b9.out _ (List.getElem_mem i) c0 q Q s (by have:=b6.out b i;omega);have n:=b5.out b i;have a2:=H.out (b+1);obtain⟨o,G⟩:=zE (Hd l[b]);obtain⟨e9,E⟩:=zE (Xn (l.take b));obtain⟨b0,t⟩:=zE (Xn (l.take (b+1)));rw [G] at f n;rw [E] at n a1 m;rw [t] at n a2;rw [r] at f;unfold Qh at f;have e5:IntKind.i64.wrap ((c:Int)+(o:Int))=((c+o:Nat):Int):=by rw [IntWalk.i64_in _ oz];omega
   have D:c+o=1+b0:=by omega
   obtain⟨N,y,O⟩:=Zh3 D f t;have e4:c<=40:=by omega
   clear f u s r G g n E t m D;go_wp2_with fail;refine y.out.mono ?_;rintro d6 d5 ⟨rfl,B⟩;have Z:=e.trans B;clear e B R S T U V W X y w;go_wp2;exact⟨⟨b+1,c+o,by omega,tz,rfl,by rw [O.out];exact N.out,Z⟩,nz⟩
  ·obtain rfl:b=d:=by omega
   have Y:¬ (b:Int)<(b:Int):=by omega
   have a5:c=c1:=by rw [m,b4.out];exact I.out.symm
   subst a5;clear I m;go_wp2;go_ret;exact⟨rfl,A.trans e⟩
 ·have f3:((k:Int) == 5)=false:=by rw [beq_eq_false_iff_ne];exact L
  have a0:P=0:=by rw [<-x,if_neg L]
  clear x c4 L;subst a0;go_wp2;clear w
  refine wp_loop (fun a q=>∃(b c:Nat),b<=d/\a.defers=[]/\gS a [1,3,4]=(24,[.pointer (some ⟨b1,0,none⟩),.int .i64 c,.int .i64 b])/\c=0+Xn (l.take b)/\Ext d4 q)
   (fun a _=>d - (intOf (a.tmps.getD 4 undef)).toNat) ?_ ?_
  ·exact⟨0,_,by omega,rfl,rfl,by simp [Xn],Q0.refl _ _⟩
  rintro⟨f0,_⟩ q ⟨b,c,C,a3,F,m,e⟩;subst a3;obtain⟨f1,rfl⟩:=Qq F;clear F;have g:=e.keep b7.out;have w:=zR g;have a1:=H.out b;by_cases a4:b<d
  ·have Y:(b:Int)<(d:Int):=by omega
   have d9:(0:Int)<=(b:Int):=by omega
   have i:b<l.length:=by rw [b3.out];exact a4
   obtain⟨d7,e6,Q,rfl,e0,e1,u,s⟩:=(b2.out.ext (A.trans e)).get b i;rw [Nat.zero_add] at u;obtain⟨e8,e7,r,_,_,_⟩:=Y7 s;obtain⟨R,S,T,U,V,W,X⟩:=Ug u r;have f:=b9.out _ (List.getElem_mem i) c0 q Q s (by have:=b6.out b i;omega);have n:=b5.out b i;have a2:=H.out (b+1);obtain⟨o,G⟩:=zE (Hd l[b]);obtain⟨e9,E⟩:=zE (Xn (l.take b));obtain⟨b0,t⟩:=zE (Xn (l.take (b+1)));rw [G] at f n;rw [E] at n a1 m;rw [t] at n a2;rw [r] at f;unfold Qh at f;have e5:IntKind.i64.wrap ((c:Int)+(o:Int))=((c+o:Nat):Int):=by rw [IntWalk.i64_in _ oz];omega
   have D:c+o=0+b0:=by omega
   obtain⟨N,y,O⟩:=Zh3 D f t;have e4:c<=40:=by omega
   clear f u s r G g n E t m D;go_wp2_with fail;refine y.out.mono ?_;rintro d6 d5 ⟨rfl,B⟩;have Z:=e.trans B;clear e B R S T U V W X y w;go_wp2;exact⟨⟨b+1,c+o,by omega,tz,rfl,by rw [O.out];exact N.out,Z⟩,nz⟩
  ·obtain rfl:b=d:=by omega
   have Y:¬ (b:Int)<(b:Int):=by omega
   have a5:c=c1:=by rw [m,b4.out];exact I.out.symm
   subst a5;clear I m;go_wp2;go_ret;exact⟨rfl,A.trans e⟩
mutual
theorem Ri:∀ p:Pat,Tl p
 | .node k pl mi nt mn mx l=>Q8t k pl mi nt mn mx l (Cb l)
theorem Cb:∀ l:List Pat,∀ p∈l,Tl p
 | [],_,h=>by cases h
 | q::l,p,h=>(List.mem_cons.1 h).elim (fun e=>e ▸ Ri q) (fun h=>Cb l p h)
end
theorem Vq{w:World}{g off:Nat}{cs:List Value}(h:w.rangeAt g off cs)(a n:Nat):w.rangeAt g (off+a) ((cs.drop a).take n):=fun j u hu=>by
 rw [List.getElem?_take] at hu
 split at hu
 ·rw [List.getElem?_drop] at hu;have:=h (a+j) u hu;rw [Nat.add_assoc];exact this
 ·cases hu
def Qc4(n:Nat)(lv:Value)(w:World)(a:Act)(W:World):Prop:=∃(i z:Nat),i<=n/\i<=301/\z<=80/\a.defers=[]/\gS a [0,3,4]=(46,[lv,.int .i64 z,.int .i64 i])/\Ext w W
def Qck(z i G:Nat)(lv:Value)(V2:World)(a:Act)(V:World):Prop:=∃(j z2:Nat),j<=2/\z2<=40*j/\a.defers=[]/\gS a [0,3,4,5,28,29,30]=(46,[lv,.int .i64 z,.int .i64 i,.int .i64 z2,.slice (some ⟨G,0,none⟩) 2 2,.int .i64 2,.int .i64 j])/\Ext V2 V
theorem Q92{w:World}{ps:Qg}{lo:Option Addr}{n lc:Nat}(d4:Qz w (.slice lo n lc) ps) (d6:ps.length=n) :
  Calls Tryz.prog 92 #[.slice lo n lc] w fun e w'=>∃ z:Nat,z<=80/\e=.returned (.int .i64 (z:Int))/\Ext w w':=by
 have i5:n<=maxLen:=by rw [<-d6];exact d4.1.2.1
 unfold maxLen at i5;have c3:=Zh d4;have g1:=Zh d6;clear d4 d6;go_enter Tryz.func92,Tryz.ntmps92;go_wp2
 refine wp_loop (Qc4 n (.slice lo n lc) w)
  (fun a _=>((n:Int) - intOf (a.tmps.getD 4 undef)).toNat) ?_ ?_
 ·exact⟨0,0,by omega,by omega,by omega,rfl,rfl,Q0.refl _ _⟩
 rintro⟨i7,_⟩ Q ⟨i,z,j3,j4,f4,d3,c2,e6⟩;subst d3;obtain⟨O,rfl⟩:=Qq c2;clear c2;have b2:=Zh e6;clear e6;by_cases i3:i<n;case neg=>
  obtain rfl:i=n:=by omega
  have g9:¬ (i:Int)<(i:Int):=by omega
  clear c3;go_wp2;go_ret;exact⟨z,f4,rfl,b2.out⟩
 have g9:(i:Int)<(n:Int):=by omega
 have j1:(0:Int)<=(i:Int):=by omega
 by_cases j5:i<=300;case neg=>
  have i0:¬ (i:Int)<=300:=by omega
  clear c3;go_wp2;go_ret;exact⟨z,f4,rfl,b2.out⟩
 have i0:(i:Int)<=300:=by omega
 have i2:i<ps.length:=by rw [g1.out];exact i3
 obtain⟨g,off,j0,f1,j2,b8,d5,d1⟩:=(c3.out.ext b2.out).at i2;simp only [zV] at f1;obtain⟨rfl,f5,rfl⟩:=f1;obtain⟨x,f3⟩:=zE (ps[i]);rw [f3] at b8 d5 d1;obtain⟨k,cs⟩:=x;dsimp only at b8 d5 d1;clear f3 f5 d1 c3;obtain⟨k1,B,J,D,F,r,t,H,o,y,C,L,E,G,s,u,I,p,A,j9,i8,j8,k3,i9,k2,k0,rfl,f9,e0,e1,f8,g7,g6,g2,g3,g4,g5,g0,k4,k5,k6,k7,k8⟩:=Y9 d5;have f0:Q.rangeAt g (off+i*18+1) [.int .i64 B,.int .u32 (J:Int),.int .u32 (D:Int),.bool F,.int .i64 r,.int .i64 t,.slice H o y]:=Vq b8 1 7;have f2:Q.rangeAt g (off+i*18+8) [.int .i64 C,.int .u32 (L:Int),.int .u32 (E:Int),.bool G,.int .i64 s,.int .i64 u,.slice I p A]:=Vq b8 8 7;have d9:=Zh f0;have e2:=Zh f2;clear f0 f2 b8 f8 g7 f9 g6 g4 g5 g0;go_upto_region 6 with (fail)
 have j:Ext Q Q.drew:=(Q0.refl _ Q).drew;refine Qv (S:=fun c=>Ext Q c) [] kz j ?_;intro _;refine tE 0 18 j ?_;refine tE 1 19 j ?_;refine tE 2 20 j ?_;refine tE 3 21 j ?_;refine tkE (i:=4) (d:=22) (v:=?_) rfl (Or.inl ⟨by rfl,?_⟩) j ?_;rotate_left
 ·intro c a1;refine Ki (x:=.tmp 21) ?_ g (off+i*18+1) ?_ [.int .i64 B,.int .u32 (J:Int),.int .u32 (D:Int),.bool F,.int .i64 r,.int .i64 t,.slice H o y] _ (fun a8 O hu=>(show Ext Q c from a1).cell_some (d9.out a8 O hu) id) Tryz.underlying98 rfl kz <;> first | rfl | (simp;done)
 try simp only [Act.put,pq]
 refine tE 5 23 j ?_;refine tE 6 24 j ?_;refine tE 7 25 j ?_;refine tE 8 26 j ?_;refine tkE (i:=9) (d:=27) (v:=?_) rfl (Or.inl ⟨by rfl,?_⟩) j ?_;rotate_left
 ·intro c a1;refine Ki (x:=.tmp 26) ?_ g (off+i*18+8) ?_ [.int .i64 C,.int .u32 (L:Int),.int .u32 (E:Int),.bool G,.int .i64 s,.int .i64 u,.slice I p A] _ (fun a8 O hu=>(show Ext Q c from a1).cell_some (e2.out a8 O hu) id) Tryz.underlying98 rfl kz <;> first | rfl | (simp;done)
 try simp only [Act.put,pq]
 refine tE 12 30 j ?_;obtain⟨f,e9⟩:=zE Q.drew;rw [e9] at j ⊢;clear e9;refine rE [10] ?_;refine Q1.cons rfl (fun K hK=>?_) Q1.nil;refine iw rfl ?_;go_simp;obtain⟨c8,c6⟩:=zE (f.alloc (.cells #[.int .i64 B,.int .u32 (J:Int),.int .u32 (D:Int),.bool F,.int .i64 r,.int .i64 t,.slice H o y,.int .i64 C,.int .u32 (L:Int),.int .u32 (E:Int),.bool G,.int .i64 s,.int .i64 u,.slice I p A] 98));have d2:c8.heap[f.heap.size]?=some (.cells #[.int .i64 B,.int .u32 (J:Int),.int .u32 (D:Int),.bool F,.int .i64 r,.int .i64 t,.slice H o y,.int .i64 C,.int .u32 (L:Int),.int .u32 (E:Int),.bool G,.int .i64 s,.int .i64 u,.slice I p A] 98 (0,0)):=by rw [<-c6];exact Q2 rfl
 have c5:Ext Q c8:=by rw [<-c6];exact j.alloc _
 rw [c6];obtain⟨M,e8⟩:=zE f.heap.size;rw [e8] at d2 ⊢;have c7:=Zh d2;clear c6 d2 e8 j;refine hK.out _ _ c5 (fun _=>?_);clear hK K;try simp only [Act.put,pq]
 refine tE 11 29 c5 ?_;refine Ql kz ?_ _;have c4:=Zh c5;clear c5 d9 e2
 have f6:∀(c:World),c.heap[M]?=some (.cells #[.int .i64 B,.int .u32 (J:Int),.int .u32 (D:Int),.bool F,.int .i64 r,.int .i64 t,.slice H o y,.int .i64 C,.int .u32 (L:Int),.int .u32 (E:Int),.bool G,.int .i64 s,.int .i64 u,.slice I p A] 98 (0,0))->c.rangeAt M 0 [.int .i64 B,.int .u32 (J:Int),.int .u32 (D:Int),.bool F,.int .i64 r,.int .i64 t,.slice H o y]:=fun c h=>by
  have:=Vq (w:=c) (g:=M) (off:=0) (cs:=[.int .i64 B,.int .u32 (J:Int),.int .u32 (D:Int),.bool F,.int .i64 r,.int .i64 t,.slice H o y,.int .i64 C,.int .u32 (L:Int),.int .u32 (E:Int),.bool G,.int .i64 s,.int .i64 u,.slice I p A]) (fun q O hu=>by have:=cell_of_row _ _ q _ _ _ h;rw [Nat.zero_add,this];simpa using hu) 0 7;exact this
 have f7:∀(c:World),c.heap[M]?=some (.cells #[.int .i64 B,.int .u32 (J:Int),.int .u32 (D:Int),.bool F,.int .i64 r,.int .i64 t,.slice H o y,.int .i64 C,.int .u32 (L:Int),.int .u32 (E:Int),.bool G,.int .i64 s,.int .i64 u,.slice I p A] 98 (0,0))->c.rangeAt M 7 [.int .i64 C,.int .u32 (L:Int),.int .u32 (E:Int),.bool G,.int .i64 s,.int .i64 u,.slice I p A]:=fun c h=>by
  have:=Vq (w:=c) (g:=M) (off:=0) (cs:=[.int .i64 B,.int .u32 (J:Int),.int .u32 (D:Int),.bool F,.int .i64 r,.int .i64 t,.slice H o y,.int .i64 C,.int .u32 (L:Int),.int .u32 (E:Int),.bool G,.int .i64 s,.int .i64 u,.slice I p A]) (fun q O hu=>by have:=cell_of_row _ _ q _ _ _ h;rw [Nat.zero_add,this];simpa using hu) 7 7;exact this
 have e3:=Zh f6;have e4:=Zh f7;clear f6 f7;go_wp2
 refine wp_loop (Qck z i M (.slice (some ⟨g,off,none⟩) n lc) c8)
  (fun a _=>(2 - intOf (a.tmps.getD 30 undef)).toNat) ?_ ?_
 ·exact⟨0,0,by omega,by omega,rfl,rfl,Q0.refl _ _⟩
 rintro⟨i7,_⟩ f ⟨a8,m,j6,j7,d3,c2,e7⟩;subst d3;obtain⟨O,rfl⟩:=Qq c2;clear c2;have P:=Zh e7;clear e7;rcases(by omega:a8=0\/a8=1\/a8=2) with rfl | rfl | rfl
 ·have e5:(0:Int)<2:=by decide
  have b6:=e0.out.ext (c4.out.trans P.out);have b7:f.rangeAt M 0 [.int .i64 B,.int .u32 (J:Int),.int .u32 (D:Int),.bool F,.int .i64 r,.int .i64 t,.slice H o y]:=fun q O hu=>(P.out).cell_some (e3.out _ c7.out q O hu) id;obtain⟨Y,T⟩:=zE (f.alloc (.cells #[.int .i64 B,.int .u32 (J:Int),.int .u32 (D:Int),.bool F,.int .i64 r,.int .i64 t,.slice H o y] 98));have a0:Y.heap[f.heap.size]?=some (.cells #[.int .i64 B,.int .u32 (J:Int),.int .u32 (D:Int),.bool F,.int .i64 r,.int .i64 t,.slice H o y] 98 (0,0)):=by rw [<-T];exact Q2 rfl
  have a2:Ext f Y:=by rw [<-T];exact(Q0.refl _ f).alloc _
  obtain⟨b1,Z⟩:=zE f.heap.size;rw [Z] at a0;have a4:=b6.ext a2;have a6:=Gk a4;have c1:=Wr k.left;have l:=fun(c:World) (a1:Ext Y c) (h:Kq k.left<=40)=>Ri k.left _ c _ (a4.ext a1) h;have b9:=P5 k.left;obtain⟨d8,a7⟩:=zE (Kq k.left);obtain⟨a9,a5⟩:=zE (Hd k.left);obtain⟨b0,c0⟩:=zE (K2 k.left);rw [c0] at a6 c1;rw [a7] at c1 b9;simp only [a7,a5] at l;rw [a5] at b9;obtain⟨U,R,b4,X⟩:=Zh4 a0 a2 a6 l;clear a0 a2 a6 l b6 a4 a7 a5 c0;go_upto_region 9 with ((refine Yn (by rfl) 98 (.tmp 32) rfl M 0 zr _ _ b7 Tryz.underlying98 rfl kz ?_))
  try rw [T]
  try rw [Z]
  clear T Z b7;try simp only [Act.put]
  go_wp2_with (refine wpList_load_row rfl 98 (.tmp 7) rfl b1 rfl _ _ _ _ U.out Tryz.underlying98 rfl kz ?_)
  refine b4.out.mono ?_;rintro e c9 ⟨rfl,a3⟩;have V:=Zh (a3.keep U.out);have N:=Zh a3;clear a3 b4 U;by_cases i1:b0<=40
  ·have d0:(b0:Int)<=40:=by omega
   have d7:d8<=40:=by omega
   have l:=X.out c9 N.out d7;have b3:=Zh l;clear l X
   go_wp2_with (refine wpList_load_row rfl 98 (.tmp 7) rfl b1 rfl _ _ _ _ V.out Tryz.underlying98 rfl kz ?_)
   refine b3.out.mono ?_;rintro e g8 ⟨rfl,b5⟩;have W:=Zh (P.out.trans (R.out.trans (N.out.trans b5)));have i6:IntKind.i64.wrap ((m:Int)+(a9:Int))=((m+a9:Nat):Int):=by rw [IntWalk.i64_in _ oz];omega
   clear b5 b3 V N R;go_wp2;exact⟨⟨1,m+a9,by omega,by omega,tz,rfl,W.out⟩,mz⟩
  ·have d0:¬ (b0:Int)<=40:=by omega
   have W:=Zh (P.out.trans (R.out.trans N.out));clear X V N R;go_wp2;exact⟨⟨1,m,by omega,by omega,tz,rfl,W.out⟩,mz⟩
 ·have e5:(1:Int)<2:=by decide
  have b6:=e1.out.ext (c4.out.trans P.out);have b7:f.rangeAt M 7 [.int .i64 C,.int .u32 (L:Int),.int .u32 (E:Int),.bool G,.int .i64 s,.int .i64 u,.slice I p A]:=fun q O hu=>(P.out).cell_some (e4.out _ c7.out q O hu) id;obtain⟨Y,T⟩:=zE (f.alloc (.cells #[.int .i64 C,.int .u32 (L:Int),.int .u32 (E:Int),.bool G,.int .i64 s,.int .i64 u,.slice I p A] 98));have a0:Y.heap[f.heap.size]?=some (.cells #[.int .i64 C,.int .u32 (L:Int),.int .u32 (E:Int),.bool G,.int .i64 s,.int .i64 u,.slice I p A] 98 (0,0)):=by rw [<-T];exact Q2 rfl
  have a2:Ext f Y:=by rw [<-T];exact(Q0.refl _ f).alloc _
  obtain⟨b1,Z⟩:=zE f.heap.size;rw [Z] at a0;have a4:=b6.ext a2;have a6:=Gk a4;have c1:=Wr k.right;have l:=fun(c:World) (a1:Ext Y c) (h:Kq k.right<=40)=>Ri k.right _ c _ (a4.ext a1) h;have b9:=P5 k.right;obtain⟨d8,a7⟩:=zE (Kq k.right);obtain⟨a9,a5⟩:=zE (Hd k.right);obtain⟨b0,c0⟩:=zE (K2 k.right);rw [c0] at a6 c1;rw [a7] at c1 b9;simp only [a7,a5] at l;rw [a5] at b9;obtain⟨U,R,b4,X⟩:=Zh4 a0 a2 a6 l;clear a0 a2 a6 l b6 a4 a7 a5 c0;go_upto_region 9 with ((refine Yn (by rfl) 98 (.tmp 32) rfl M 7 zr _ _ b7 Tryz.underlying98 rfl kz ?_))
  try rw [T]
  try rw [Z]
  clear T Z b7;try simp only [Act.put]
  go_wp2_with (refine wpList_load_row rfl 98 (.tmp 7) rfl b1 rfl _ _ _ _ U.out Tryz.underlying98 rfl kz ?_)
  refine b4.out.mono ?_;rintro e c9 ⟨rfl,a3⟩;have V:=Zh (a3.keep U.out);have N:=Zh a3;clear a3 b4 U;by_cases i1:b0<=40
  ·have d0:(b0:Int)<=40:=by omega
   have d7:d8<=40:=by omega
   have l:=X.out c9 N.out d7;have b3:=Zh l;clear l X
   go_wp2_with (refine wpList_load_row rfl 98 (.tmp 7) rfl b1 rfl _ _ _ _ V.out Tryz.underlying98 rfl kz ?_)
   refine b3.out.mono ?_;rintro e g8 ⟨rfl,b5⟩;have W:=Zh (P.out.trans (R.out.trans (N.out.trans b5)));have i6:IntKind.i64.wrap ((m:Int)+(a9:Int))=((m+a9:Nat):Int):=by rw [IntWalk.i64_in _ oz];omega
   clear b5 b3 V N R;go_wp2;exact⟨⟨2,m+a9,by omega,by omega,tz,rfl,W.out⟩,mz⟩
  ·have d0:¬ (b0:Int)<=40:=by omega
   have W:=Zh (P.out.trans (R.out.trans N.out));clear X V N R;go_wp2;exact⟨⟨2,m,by omega,by omega,tz,rfl,W.out⟩,mz⟩
 ·have e5:¬ (2:Int)<2:=by decide
  clear e3 e4 c7 e0 e1 g2 g3;by_cases f5:(z:Int)<(m:Int)
  ·have i4:max (z:Int) (m:Int)=(m:Int):=by omega
   go_wp2;exact⟨⟨i+1,m,by omega,by omega,by omega,tz,rfl,b2.out.trans (c4.out.trans P.out)⟩,mz⟩
  ·have i4:max (z:Int) (m:Int)=(z:Int):=by omega
   go_wp2;exact⟨⟨i+1,z,by omega,by omega,by omega,tz,rfl,b2.out.trans (c4.out.trans P.out)⟩,mz⟩
theorem Q5p{w:World}{BW BL a3 a4:Nat}{l:Q5}{cs:List Value}{vo:Option Addr}{vc:Nat}{ws:Wd}{K:Nat->Prop}(k3:Zw l=true)(e7:l.mode=2)(o2:ws.length<=32)(e0:ws.length<=vc)(e4:Qx K (.slice vo ws.length vc))
  (i8:∀ b,K b->b<w.heap.size) (E:∀ W,Q0 (fun b=>¬ K b) w W->Ti W BW BL a3 a4 l cs vo vc ws) :
  Vc Tryz.prog 225 #[.pointer (some ⟨BW,0,none⟩),.pointer (some ⟨BL,0,none⟩),.pointer (some ⟨a3,0,none⟩),.pointer (some ⟨a4,0,none⟩)] (Yv 2) (Tp 2) (Z0 l ws) K w:=by
 intro a0 m9 p4 W f1 i4 n6 j4 i3;obtain⟨n9,k5,k2,_,j8,_,_,_⟩:=Hq k3;have b2:=E W f1;have k6:=b2.law.box.mode;rw [e7] at k6;obtain⟨l6,f2⟩:=zE ws.length;have a9:=cell_of_one b2.box;rw [f2] at a9 o2 e0 e4;obtain⟨g1,O,d3,l9,g4,I,d5,f9⟩:=Zh8 e4 f2 E j8 e7 i4 j4 i3;have d4:=Zh f1;have c3:=Zh b2;obtain⟨Z,e3⟩:=zE l.ifs.length;obtain⟨f4,e6⟩:=zE l.outs.length;rw [e3] at n9 k2;rw [e6] at k5 k2;have q:=Zh e3;have J:=Zh e6;clear E j8 e7 i4 n6 j4 i3 f1 b2 k3 f2 e4 e3 e6;show Calls _ _ #[.func (.yield a0) #[] #[],.pointer (some ⟨BW,0,none⟩),.pointer (some ⟨BL,0,none⟩),.pointer (some ⟨a3,0,none⟩),.pointer (some ⟨a4,0,none⟩)] _ _;go_enter Tryz.func225,Tryz.ntmps225;have d6:=c3.out.law.box.mode;rw [g4.out] at d6;go_upto_region 1 with (fail)
 obtain⟨N,p⟩:=zE (W.alloc (.cells #[.func (.yield a0) #[] #[]] 266));have G:Ext W N:=by rw [<-p];exact(Q0.refl _ W).alloc _
 have d9:N.heap[W.heap.size]?=some (.cells #[.func (.yield a0) #[] #[]] 266 (0,0)):=by rw [<-p];exact Q2 rfl
 have f0:N.heap.size=W.heap.size+1:=by rw [<-p];simp
 rw [p];obtain⟨e,b7⟩:=zE W.heap.size;rw [b7] at d9 f0 ⊢;have e2:=I.out;have f3:=d5.out;rw [b7] at e2 f3;have o7:=I;have I:=Zh e2;have d5:=Zh f3;clear e2 f3;have m1:Hid (∀ b,K b->b<e):=Zh fun b U=>by have:=i8 b U;have:=d4.out.size;omega
 have i1:=Zh b7;have a6:=Zh f0;clear i8;have a9:=G.cell_some a9 id;clear p b7 f0 k6;go_upto_region 2 with (fail)
 rw [a6.out];obtain⟨c2,Y⟩:=zE (N.alloc (.cells #[.slice vo l6 vc] 99));have C:Ext N c2:=by rw [<-Y];exact(Q0.refl _ N).alloc _
 have i9:X6 c2 (e+1) (.slice vo l6 vc):=by rw [<-Y];exact Q2 a6.out.symm
 have k8:c2.heap.size=e+2:=by rw [<-Y];simp [a6.out]
 have j5:=C.keep d9;rw [Y];have R:=G.trans C;have o0:=R.cell_some d6 id;have d1:=Zh k8;clear Y a9 d9 G C d6 k8;have i5:=I.out _ (fun b=>b=e\/b=e+1) [] _ _ f9.out (Ext.of R) (fun b U=>by have:=i1.out;have:=d1.out;omega);have g0:=Zh i5;have j2:Q0 (fun b=>¬ K b) w c2:=d4.out.trans (Ext.of R);clear i5;go_wp2;obtain⟨g9,i2,c7⟩:=Zh3 j2 j5 i9;clear j2 j5 i9 o0
 refine wp_loop (fun a P=>∃(a7:Nat->Prop) (A:List (Nat × Wd)) (u:Wd) (i:Nat) (f7:Option Addr) (f6:Nat),a.defers=[]/\gS a [0,1,2,3,4,5,6,10]=(117,[.func (.yield a0) #[] #[],.pointer (some ⟨BW,0,none⟩),.pointer (some ⟨BL,0,none⟩),.pointer (some ⟨a3,0,none⟩),.pointer (some ⟨a4,0,none⟩),.pointer (some ⟨e,0,none⟩),.pointer (some ⟨e+1,0,none⟩),.int .i64 i])/\Jm l ws A u i/\X1 w P K a7 m9 e a0 A u f7 f6)
  (fun a P=>Ch P (e+1)+1 - (intOf (a.tmps.getD 10 undef)).toNat) ?_ ?_
 ·refine⟨(fun b=>b=e\/b=e+1),[],ws,0,vo,vc,rfl,rfl,.start g4.out,⟨g0.out,.inl rfl,.inr rfl,fun b U=>by have:=d1.out;omega,g9.out,i2.out,?_,?_,?_,?_⟩⟩
  ·rw [O.out];exact c7.out
  ·exact c3.out.word.ext R
  ·rw [O.out];exact e0
  ·rw [O.out];exact fun g o n c L h0'=>.inl (g1.out g o n c L h0')
 clear g0 f9 g9 i2 c7 c3 R d4 i1 a6 d1 e0 g1;rintro⟨t,_⟩ P ⟨a7,A,o5,i,f7,f6,n7,l0,T,M⟩;obtain⟨H,rfl⟩:∃ x,x=o5:=⟨_,rfl⟩;subst n7;obtain⟨u,rfl⟩:=Qq l0;clear l0;have E:=d3.out P M.t;obtain⟨c1,X⟩:=zE H.length;have f:=Vx M.n;have B:=cell_of_one M.n;have b0:=cell_of_one M.y;have b1:=cell_of_one E.bk;have Q:=cell_of_one E.bm;rw [q.out] at b1;rw [J.out] at Q;rw [X] at B f;have n8:=few (t:=A.length) (n:=ws.length+1) (m:=f4) (by have:=T.2.1;omega) k5 (by rw [O.out];omega);have q9:c1<=230:=by
  have F:=T.2.2.1;rw [J.out,X,O.out] at F;omega
 have j9:=T.2.2.2;rw [X] at j9;obtain⟨d,c4,c9,a5,d0⟩:=Zh5 X f T M E;clear X f T M E n8;by_cases e5:i+Z<=c1;case neg=>
  have F:¬ ((i:Int)+(Z:Int)<=(c1:Int)):=by omega
  have j7:=c9.out.done (by rw [d.out,q.out];omega);have l8:=Zh j7;clear j7 Q b0;go_wp2;go_end0
  exact⟨⟨_,rfl⟩,a7,.inl (by rw [l8.out];exact a5.out.j)⟩
 have F:(i:Int)+(Z:Int)<=(c1:Int):=by omega
 go_upto_region 14 with (fail)
 obtain⟨S,b3⟩:=d0.out.law;obtain⟨r9,r2,s4,r4,r7,p9,q2,s0,p5,q5,r3,s5,r5,r8,q0,q3,s1,p6,q6,r1,p7,r0,s3,p8,s2,r6,rfl,o8,p2,p3,o6,m3,p1,r,c7,c8,p0,o9,s6,l3,o3,l4,s7⟩:=Y9 b3;have c0:=a5.out.wd;have b8:=Q16 b3 c0 d0.out.tab i (by rw [d.out];exact j9) (by rw [d.out,q.out];omega);rw [d.out] at b8 c0;obtain⟨U,e1⟩:=zE (Y8 l H i);rw [e1] at b8;obtain⟨c5,c6,g2,m7,m2⟩:=Zh5 b8 e1 S c0 b3;clear b8 e1 S b3 c0 b1 Q b0
 go_wp2_with (first | (refine wpList_load_row rfl 102 (.tmp 2) rfl BL rfl _ _ _ _ g2.out Tryz.underlying102 rfl Tryz.lawInfo ?_) | fail)
 refine c5.out.mono ?_;rintro L n0 ⟨rfl,G⟩;have s:=a5.out.ext G I.out;have b6:=d3.out n0 s.t;cases U;case false=>
  have j0:=c9.out.miss (by rw [d.out,q.out];exact e5) c6.out;have m5:=Zh j0;have r:=Zh s;have f:=Vx s.n;rw [d.out] at f;have l7:=Zh f;clear j0 s b6 c5 G B f;go_wp2;refine⟨⟨a7,A,H,i+1,f7,f6,tz,rfl,m5.out,r.out⟩,?_⟩;rw [c4.out,l7.out];simp [intOf];omega
 have B:=cell_of_one s.n;rw [d.out] at B;have p:=s.wd;rw [d.out] at p;have k7:=Nf b6.law.2 p d.out (by have:=s.cap;rw [d.out] at this;exact this) i (by rw [q.out];exact e5) l9.out (by rw [J.out];omega) oz;have S:=b6.law.1;have l1:X3 (Yq l H i):=by
  have F:=p.2;intro f5 k;unfold Yq Vy at k;rcases List.mem_append.1 k with k | k
  ·rcases List.mem_append.1 k with k | k
   ·exact F f5 (List.mem_of_mem_take k)
   ·exact Mm (fun x hx=>F x (List.mem_of_mem_drop (List.mem_of_mem_take hx))) m3.out.2 f5 k
  ·exact F f5 (List.mem_of_mem_drop k)
 obtain⟨g7,g3,r,i0⟩:=Zh4 k7 S s l1;obtain⟨j1,l5,k9⟩:=c9.out.hit c6.out;have g5:=Zh j1;have d2:=Zh k9;clear k7 S s b6 p l1 j1 k9 c5 G;go_upto_region 17 with (first | (refine wpList_load_row rfl 102 (.tmp 2) rfl BL rfl _ _ _ _ g3.out Tryz.underlying102 rfl Tryz.lawInfo ?_) | (go_at_call 230;refine g7.out.mono ?_;rintro L n1 ⟨s8,rfl,d7,C⟩;obtain⟨a2,a1,rfl⟩:=Zj d7;have n4:=cell_of_one (C.keep r.out.n);have n5:=free_of_one (C.keep r.out.n)))
 obtain⟨a8,v,_,b5⟩:=(r.out).put2 m1.out d7 C i0.out (Nat.le_refl 2) I.out;have o1:=(r.out.lt _ r.out.on).2;obtain⟨n2,j3⟩:=zE (n1.setCell ⟨e+1,0,none⟩ (.slice a2 (Yq l H i).length a1));rw [j3] at v b5 ⊢;clear j3 d7 C B n4 n5 g7 g3 g2 r i0 m2 m7 a5 d0;obtain⟨z,b9⟩:=zE (Yq l H i);rw [b9] at v b5 g5 d2;have k4:=Kd (l:=l) (u:=H) (i:=i) (by rw [d.out,q.out];exact e5);rw [b9,d.out,q.out,J.out] at k4;rw [b9];obtain⟨o4,V⟩:=zE z.length;rw [V] at k4;have B:=cell_of_one v.n;rw [V] at B;have b0:=cell_of_one v.y;obtain⟨q7,s9,q1,q4,l2,j6⟩:=d5.out a8 A (i,z) l5 n2 #[.int .i64 (i:Int),.slice a2 o4 a1] d2.out v.j ⟨a2,a1,by rw [V],v.wd,v.cap,fun g o n c L h0'=>by obtain⟨l3,o3,l4⟩:=b5 g o n c L h0';exact⟨l3,by omega,l4⟩⟩;clear b5 o1;obtain⟨m4,m8,g8⟩:=Zh3 v j6 V;clear v j6 V b9 c6;rw [g8.out];refine(wpIn_wide (n:=0)).1 ?_;gi_wp2;refine m8.out.mono ?_;rintro L n3 (⟨rfl,i6,k1⟩ | ⟨rfl,i7,_⟩)
 ·have b4:=m4.out.yielded i6 k1;have d8:=d3.out n3 b4.t;have b1:=cell_of_one d8.bk;have Q:=cell_of_one d8.bm;rw [q.out] at b1;rw [J.out] at Q;have f:=Vx b4.n;rw [g8.out] at f;have c8:=Zh b4;have f8:=Zh f;clear b4 d8 f l2 B b0 i6 k1;have e8:=g5.out;rw [q.out,J.out] at e8;have g6:=Zh e8;clear e8;by_cases k0:Z=0
  ·subst k0;gi_wp2;go_wp2;refine⟨⟨a8,A++[(i,z)],z,i+f4+1,a2,a1,tz,rfl,g6.out,c8.out⟩,?_⟩;rw [c4.out,f8.out];simp [intOf];omega
  ·have q8:((Z:Int) == 0)=false:=by rw [beq_eq_false_iff_ne];omega
   have e9:=g6.out;rw [if_neg k0,Nat.add_zero] at e9;have m6:=Zh e9;clear e9;gi_wp2;go_wp2;refine⟨⟨a8,A++[(i,z)],z,i+f4,a2,a1,tz,rfl,m6.out,c8.out⟩,?_⟩;rw [c4.out,f8.out];simp [intOf];omega
 ·have m0:=Zh i7;clear i7 l2;gi_wp2;go_wp2;refine bodyPost_ret (results_none rfl _ _ _) rfl ?_;exact⟨⟨_,rfl⟩,a8,.inr ⟨A,(i,z),l5,d2.out,m0.out⟩⟩
theorem Q45{w:World}{ao:Option Addr}{N cap:Nat}{l:List Yt}(J:Jn w (.slice ao N cap) l) (H:l.length=N) (T:N<=maxLen) (f:Nat) (lb:Array Value) (k:∀ args w,(callFunc f args).run Tryz.prog w=.ok (.enter f args) w)
  (F:Yt->Bool) (G:∀ x∈l,∀ V,Ext w V->Calls Tryz.prog f (#[.agg (Zs x).toArray]++lb) V fun e w'=>e=.returned (.bool (F x))/\Ext V w') :
  Calls Tryz.prog 199 #[.slice ao N cap,.func (.func f) #[] lb] w fun e w'=>∃ z:Int,e=.returned (.int .i64 z)/\decide (0<=z)=l.any F/\Ext w w':=by
 unfold maxLen at T;obtain⟨P,O,t,M⟩:=Zh4 J G H k;clear J G H k;go_enter Tryz.func199,Tryz.ntmps199;go_wp2
 refine wp_loop (fun a o=>∃(b:Nat),b<=N/\a.defers=[]/\gS a [0,1,7,8]=(19,[.slice ao N cap,.func (.func f) #[] lb,.int .i64 N,.int .i64 b])/\(l.take b).any F=false/\Ext w o)
  (fun a _=>N - (intOf (a.tmps.getD 8 undef)).toNat) ?_ ?_
 ·exact⟨0,by omega,rfl,rfl,by simp,Q0.refl _ _⟩
 rintro⟨a3,_⟩ o ⟨b,a1,R,L,I,g⟩;subst R;obtain⟨a4,rfl⟩:=Qq L;clear L;have q:=Zh I;clear I;by_cases S:b<N
 ·have Q:(b:Int)<(N:Int):=by omega
  have m:b<l.length:=by rw [t.out];exact S
  obtain⟨Z,a2,Y,K,a0,_,u,v,y,A,B,C⟩:=(P.out.ext g).at m;simp only [zV] at K;obtain⟨rfl,U,rfl⟩:=K;clear U;have i:=O.out _ (List.getElem_mem m) o g;obtain⟨x,n⟩:=zE (l[b]);have W:Hid (l[b]=x):=Zh n;rw [n] at u v y A B C i;unfold Zs at i;obtain⟨j,p⟩:=zE (F x);rw [p] at i;have r:Hid (F l[b]=j):=Zh (by rw [n];exact p);have s:=Zh i;clear i n p;have k:=M.out;go_wp2_with fail;clear k;refine s.out.mono ?_;rintro e X ⟨rfl,E⟩;have D:=g.trans E;clear s g E u v y A B C;cases j
  ·have c:(l.take (b+1)).any F=false:=by
    rw [List.take_succ_eq_append_getElem m,List.any_append,q.out];simp [r.out]
   have d:=Zh c;clear c;go_wp2;exact⟨⟨b+1,by omega,tz,rfl,d.out,D⟩,nz⟩
  ·have c:l.any F=true:=List.any_eq_true.2 ⟨_,List.getElem_mem m,r.out⟩;have d:=Zh c;clear c;go_wp2;go_ret;exact⟨_,rfl,by rw [d.out];simp,D⟩
 ·obtain rfl:b=N:=by omega
  have Q:¬ (b:Int)<(b:Int):=by omega
  have c:l.any F=false:=by have:=q.out;rwa [List.take_of_length_le (by rw [t.out];exact Nat.le_refl _)] at this
  have d:=Zh c;clear c;go_wp2;go_ret;exact⟨_,rfl,by rw [d.out];simp,g⟩
theorem Cd{w:World}{ao:Option Addr}{N cap:Nat}{l:List Yt}(g:Jn w (.slice ao N cap) l) (c:l.length=N) (n:N<=maxLen) (a:Nat) (lb:Array Value) (d:∀ args w,(callFunc a args).run Tryz.prog w=.ok (.enter a args) w)
  (F:Yt->Bool) (b:∀ x∈l,∀ V,Ext w V->Calls Tryz.prog a (#[.agg (Zs x).toArray]++lb) V fun e w'=>e=.returned (.bool (F x))/\Ext V w') :
  Calls Tryz.prog 174 #[.slice ao N cap,.func (.func a) #[] lb] w fun e w'=>e=.returned (.bool (l.any F))/\Ext w w':=by
 have f:=Q45 g c n (cap:=cap) a lb d F b;have j:=Zh f;clear f b g d c;go_enter Tryz.func174,Tryz.ntmps174;go_wp2_with fail;refine j.out.mono ?_;rintro e o ⟨p,rfl,i,m⟩;have k:=Zh i;clear i;go_wp2;go_ret;exact⟨by rw [<-k.out];rfl,m⟩
theorem Q5j{w:World}{ao:Option Addr}{N cap:Nat}{l:List (Nat × Nat)} (G:Qb w (.slice ao N cap) l) (C:l.length=N) (Q:N<=maxLen) (f:Nat) (lb:Array Value) (o:∀ args w,(callFunc f args).run Tryz.prog w=.ok (.enter f args) w)
  (F:(Nat × Nat)->Bool) (B:∀ x∈l,∀ V,Ext w V->Calls Tryz.prog f (#[sV x]++lb) V fun e w'=>e=.returned (.bool (F x))/\Ext V w') :
  Calls Tryz.prog 198 #[.slice ao N cap,.func (.func f) #[] lb] w fun e w'=>∃ z:Int,e=.returned (.int .i64 z)/\decide (0<=z)=l.any F/\Ext w w':=by
 unfold maxLen at Q;obtain⟨L,K,v,J⟩:=Zh4 G B C o;clear G B C o;go_enter Tryz.func198,Tryz.ntmps198;go_wp2
 refine wp_loop (fun a p=>∃(b:Nat),b<=N/\a.defers=[]/\gS a [0,1,7,8]=(19,[.slice ao N cap,.func (.func f) #[] lb,.int .i64 N,.int .i64 b])/\(l.take b).any F=false/\Ext w p)
  (fun a _=>N - (intOf (a.tmps.getD 8 undef)).toNat) ?_ ?_
 ·exact⟨0,by omega,rfl,rfl,by simp,Q0.refl _ _⟩
 rintro⟨a1,_⟩ p ⟨b,Z,O,I,D,g⟩;subst O;obtain⟨a2,rfl⟩:=Qq I;clear I;have s:=Zh D;clear D;by_cases P:b<N
 ·have M:(b:Int)<(N:Int):=by omega
  have i:b<l.length:=by rw [v.out];exact P
  obtain⟨X,a0,W,H,Y,k,m⟩:=(L.out.ext g).at i;simp only [zV] at H;obtain⟨rfl,R,rfl⟩:=H;clear R;have E:l.getD b (0,0)=l[b]:=by rw [List.getD_eq_getElem?_getD,List.getElem?_eq_getElem i];rfl
  rw [E] at k m;have n:=K.out _ (List.getElem_mem i) p g;obtain⟨x,r⟩:=zE (l[b]);rw [r] at k m n;obtain⟨S,T⟩:=x;dsimp only at k m;obtain⟨j,q⟩:=zE (F (S,T));rw [q] at n;have t:Hid (F l[b]=j):=Zh (by rw [r];exact q);have u:=Zh n;clear n r q E;have o:=J.out;go_wp2_with fail;clear o;refine u.out.mono ?_;rintro e U ⟨rfl,A⟩;have y:=g.trans A;clear u g A k m;cases j
  ·have c:(l.take (b+1)).any F=false:=by
    rw [List.take_succ_eq_append_getElem i,List.any_append,s.out];simp [t.out]
   have d:=Zh c;clear c;go_wp2;exact⟨⟨b+1,by omega,tz,rfl,d.out,y⟩,nz⟩
  ·have c:l.any F=true:=List.any_eq_true.2 ⟨_,List.getElem_mem i,t.out⟩;have d:=Zh c;clear c;go_wp2;go_ret;exact⟨_,rfl,by rw [d.out];simp,y⟩
 ·obtain rfl:b=N:=by omega
  have M:¬ (b:Int)<(b:Int):=by omega
  have c:l.any F=false:=by have:=s.out;rwa [List.take_of_length_le (by rw [v.out];exact Nat.le_refl _)] at this
  have d:=Zh c;clear c;go_wp2;go_ret;exact⟨_,rfl,by rw [d.out];simp,g⟩
theorem Bb{w:World}{ao:Option Addr}{N cap:Nat}{l:List (Nat × Nat)} (g:Qb w (.slice ao N cap) l) (c:l.length=N) (n:N<=maxLen) (a:Nat) (lb:Array Value) (d:∀ args w,(callFunc a args).run Tryz.prog w=.ok (.enter a args) w)
  (F:(Nat × Nat)->Bool) (b:∀ x∈l,∀ V,Ext w V->Calls Tryz.prog a (#[sV x]++lb) V fun e w'=>e=.returned (.bool (F x))/\Ext V w') :
  Calls Tryz.prog 173 #[.slice ao N cap,.func (.func a) #[] lb] w fun e w'=>e=.returned (.bool (l.any F))/\Ext w w':=by
 have f:=Q5j g c n (cap:=cap) a lb d F b;have j:=Zh f;clear f b g d c;go_enter Tryz.func173,Tryz.ntmps173;go_wp2_with fail;refine j.out.mono ?_;rintro e o ⟨p,rfl,i,m⟩;have k:=Zh i;clear i;go_wp2;go_ret;exact⟨by rw [<-k.out];rfl,m⟩
theorem Q2m{x:Yt}(p:Jl x){k d:Nat}(o:k<=9223372036854775807){w:World}(i:w.heap[d]?=some (.cells #[.int .i64 (k:Int)] 3 (0,0))) :
  Calls Tryz.prog 167 #[.agg (Zs x).toArray,.pointer (some ⟨d,0,none⟩)] w fun e w'=>e=.returned (.bool (!J7 k x))/\Ext w w':=by
 have b:Ext w (w.alloc (.cells (Zs x).toArray 109)):=(Q0.refl _ w).alloc _;have l:=cell_of_one (b.keep i);have c:=Q83 p k o (w.alloc (.cells (Zs x).toArray 109));obtain⟨a,j⟩:=zE (J7 k x);rw [j] at c ⊢;have f:=Zh c;have g:=Zh b;clear j c b i;unfold Zs at f l g ⊢;go_enter Tryz.func167,Tryz.ntmps167;go_wp2_with fail;refine f.out.mono ?_;rintro e q ⟨rfl,m⟩;have n:=g.out.trans m;cases a
 all_goals
  go_wp2;go_ret;exact⟨rfl,n⟩
theorem Q2f{s:Nat × Nat}(k:Zl s)(w:World) :
  Calls Tryz.prog 169 #[sV s] w fun e w'=>e=.returned (.bool (!okS s))/\Ext w w':=by
 have c:Ext w (w.alloc (.cells #[.int .u32 (s.1:Int),.int .u32 (s.2:Int)] 95)):=(Q0.refl _ w).alloc _;have b:=Je k (w.alloc (.cells #[.int .u32 (s.1:Int),.int .u32 (s.2:Int)] 95));obtain⟨a,d⟩:=zE (okS s);rw [d] at b ⊢;have f:=Zh b;have g:=Zh c;clear d b c;go_enter Tryz.func169,Tryz.ntmps169;go_wp2_with fail;refine f.out.mono ?_;rintro e l ⟨rfl,i⟩;have j:=g.out.trans i;cases a
 all_goals
  go_wp2;go_ret;exact⟨rfl,j⟩
theorem Q0b(s:ByteArray):s=⟨s.data.toList.toArray⟩:=by
 cases s;simp
theorem Q8u(l:Q5):Zw l=if Gr l.name=false then false else if Yl l.left≠0 then false else if Yl l.right≠0 then false else if 4<l.ifs.length then false else if 6<l.outs.length then false else if l.ifs.length+l.outs.length=0 then false else
  if l.mode<1\/3<l.mode then false else if (l.ifs.any fun s=>!okS s)=true then false else if (l.outs.any fun x=>!J7 l.ifs.length x)=true then false else true:=by
 unfold Zw;have g:l.ifs.all okS=!(l.ifs.any fun s=>!okS s):=by simp [List.any_eq_not_all_not]
 have i:l.outs.all (J7 l.ifs.length)=!(l.outs.any fun x=>!J7 l.ifs.length x):=by simp [List.any_eq_not_all_not]
 rw [g,i];cases Gr l.name
 ·simp
 rw [if_neg zd];by_cases b:Yl l.left=0;case neg=>rw [if_pos b,decide_eq_false b];simp
 rw [if_neg (fun q=>q b),decide_eq_true b];by_cases c:Yl l.right=0;case neg=>rw [if_pos c,decide_eq_false c];simp
 rw [if_neg (fun q=>q c),decide_eq_true c];by_cases e:4<l.ifs.length
 ·rw [if_pos e,decide_eq_false (by omega:¬ l.ifs.length<=4)];simp
 rw [if_neg e,decide_eq_true (by omega:l.ifs.length<=4)];by_cases f:6<l.outs.length
 ·rw [if_pos f,decide_eq_false (by omega:¬ l.outs.length<=6)];simp
 rw [if_neg f,decide_eq_true (by omega:l.outs.length<=6)];by_cases d:l.ifs.length+l.outs.length=0
 ·rw [if_pos d,decide_eq_false (by omega:¬ (l.ifs.length+l.outs.length≠0))];simp
 rw [if_neg d,decide_eq_true d];by_cases a:l.mode<1\/3<l.mode
 ·rw [if_pos a];rcases a with a | a
  ·rw [decide_eq_false (by omega:¬ 1<=l.mode)];simp
  ·rw [decide_eq_false (by omega:¬ l.mode<=3)];simp
 rw [if_neg a,decide_eq_true (by omega:1<=l.mode),decide_eq_true (by omega:l.mode<=3)];cases (l.ifs.any fun s=>!okS s) <;> cases (l.outs.any fun x=>!J7 l.ifs.length x) <;> rfl
theorem Hj{c:Prop} [Decidable c] {b:Bool} {z:Int} (h:(if b=true then(0:Int) else 17)=z):(if (if c then false else b)=true then(0:Int) else 17)=if c then 17 else z:=by
 subst h;by_cases a:c <;> simp [a]
theorem Q5g(l:Q5):Hb l=if Gr l.name=false then 17 else if Yl l.left≠0 then 17 else if Yl l.right≠0 then 17 else if 4<l.ifs.length then 17 else if 6<l.outs.length then 17 else if l.ifs.length+l.outs.length=0 then 17 else
  if l.mode<1\/3<l.mode then 17 else if (l.ifs.any fun s=>!okS s)=true then 17 else if (l.outs.any fun x=>!J7 l.ifs.length x)=true then 17 else 0:=by
 unfold Hb;rw [Q8u];exact Hj (Hj (Hj (Hj (Hj (Hj (Hj (Hj (Hj rfl))))))))
theorem Fz{w:World}{l:Q5}{cs:List Value}(f3:Zf w l cs)(d0:Tab w) :
  Calls Tryz.prog 127 #[.agg cs.toArray] w fun e w'=>e=.returned (.int .i64 (Hb l))/\Ext w w':=by
 obtain⟨n,T,a4,W,Y,H,J,a0,F,L,U,a5,X,Z,I,K,a1,G,M,S,a,R,a3,k,a2,p,rfl,f7,d7,d8,b0,c3,d6,f8,f9,c0,c1,d5,g4,i0,i1,g5,i2⟩:=Y9 f3;have Q:=Q0b n;have f6:n.data.toList.length<=9223372036854775807:=by rw [Array.length_toList];exact g4
 have c2:Hid (∀ V,Ext w V->Calls Tryz.prog 171 #[.string n] V fun e w'=>e=.returned (.bool (Gr n))/\Ext V w'):=Zh fun V _=>by
  have:=Q3o n.data.toList f6 V;rw [<-Q] at this;exact this
 have c4:Hid (∀ V,Ext w V->Calls Tryz.prog 172 #[.agg #[.int .i64 T,.int .u32 (a4:Int),.int .u32 (W:Int),.bool Y,.int .i64 H,.int .i64 J,.slice a0 F L]] V fun e w'=>e=.returned (.int .i64 (Yl l.left))/\Ext V w'):=
  Zh fun V hE=>Ln (d7.out.ext hE) (fun g hg=>Nat.lt_of_lt_of_le hg hE.size) (d0.keep hE id)
 have c5:Hid (∀ V,Ext w V->Calls Tryz.prog 172 #[.agg #[.int .i64 U,.int .u32 (a5:Int),.int .u32 (X:Int),.bool Z,.int .i64 I,.int .i64 K,.slice a1 G M]] V fun e w'=>e=.returned (.int .i64 (Yl l.right))/\Ext V w'):=
  Zh fun V hE=>Ln (d8.out.ext hE) (fun g hg=>Nat.lt_of_lt_of_le hg hE.size) (d0.keep hE id)
 have a9:Hid (∀ V,Ext w V->Calls Tryz.prog 173 #[.slice S a R,.func (.func 169) #[] #[]] V fun e w'=>e=.returned (.bool (l.ifs.any fun s=>!okS s))/\Ext V w'):=
  Zh fun V hE=>Bb (b0.out.ext hE) c0.out (by unfold maxLen;omega) _ #[] (enters_of Tryz.func169 kz rfl) (fun s=>!okS s) (fun s Q V2 _=>Q2f (b0.out.2 s Q) V2)
 have a8:Hid (∀(Bk:Nat) V,Ext w V->V.heap[Bk]?=some (.cells #[.int .i64 (a:Int)] 3 (0,0))->Calls Tryz.prog 174 #[.slice a3 k a2,.func (.func 167) #[] #[.pointer (some ⟨Bk,0,none⟩)]] V fun e w'=>e=.returned (.bool (l.outs.any fun x=>!J7 a x))/\Ext V w'):=
  Zh fun Bk V hE hb=>Cd (c3.out.ext hE) c1.out (by unfold maxLen;omega) _ #[.pointer (some ⟨Bk,0,none⟩)] (enters_of Tryz.func167 kz rfl) (fun x=>!J7 a x) (fun x hx V2 z=>Q2m (c3.out.2 x hx) g5 (z.keep hb))
 have i:Hid (Hb l=if Gr n=false then 17 else if Yl l.left≠0 then 17 else if Yl l.right≠0 then 17 else if 4<a then 17 else if 6<k then 17 else if a+k=0 then 17 else if p<1\/3<p then 17 else if (l.ifs.any fun s=>!okS s)=true then 17 else if (l.outs.any fun x=>!J7 a x)=true then 17 else 0):=Zh (by
  rw [Q5g,d6.out,c0.out,c1.out,d5.out])
 obtain⟨f,e7⟩:=zE (Hb l);rw [e7] at i ⊢;obtain⟨g3,f5⟩:=zE (Gr n);obtain⟨d9,f0⟩:=zE (Yl l.left);obtain⟨e0,f1⟩:=zE (Yl l.right);obtain⟨c8,e9⟩:=zE (l.ifs.any fun s=>!okS s);obtain⟨c7,e8⟩:∃ x,(l.outs.any fun x=>!J7 a x)=x:=⟨_,rfl⟩;rw [f5] at c2 i;rw [f0] at c4 i;rw [f1] at c5 i;rw [e9] at a9 i;rw [e8] at a8 i;clear f3 Q f6 d0 e7 f5 f0 f1 e9 e8 f7 d7 d8 b0 c3 d6 f8 f9 c0 c1 d5;go_enter Tryz.func127,Tryz.ntmps127;go_upto_region 1 with (fail)
 obtain⟨a6,C⟩:=zE (w.alloc (.cells #[.string n,.int .i64 T,.int .u32 (a4:Int),.int .u32 (W:Int),.bool Y,.int .i64 H,.int .i64 J,.slice a0 F L,.int .i64 U,.int .u32 (a5:Int),.int .u32 (X:Int),.bool Z,.int .i64 I,.int .i64 K,.slice a1 G M,.slice S a R,.slice a3 k a2,.int .i64 p] 102));have e5:Ext w a6:=by rw [<-C];exact(Q0.refl _ w).alloc _
 have P:a6.heap[w.heap.size]?=some (.cells #[.string n,.int .i64 T,.int .u32 (a4:Int),.int .u32 (W:Int),.bool Y,.int .i64 H,.int .i64 J,.slice a0 F L,.int .i64 U,.int .u32 (a5:Int),.int .u32 (X:Int),.bool Z,.int .i64 I,.int .i64 K,.slice a1 G M,.slice S a R,.slice a3 k a2,.int .i64 p] 102 (0,0)):=by rw [<-C];exact Q2 rfl
 have d1:a6.heap.size=w.heap.size+1:=by rw [<-C];simp
 rw [C];obtain⟨d2,e4⟩:=zE w.heap.size;rw [e4] at P d1 ⊢;have t:=cell_of_row _ _ 15 _ _ _ P;have c6:=Zh d1;have d3:=Zh P;clear C e4 d1 P;go_upto_region 4 with (fail)
 rw [c6.out];obtain⟨a7,E⟩:=zE (a6.alloc (.cells #[.int .i64 (a:Int)] 3));have c9:Ext w a7:=by rw [<-E];exact e5.alloc _
 have f2:a7.heap[d2+1]?=some (.cells #[.int .i64 (a:Int)] 3 (0,0)):=by rw [<-E];exact Q2 c6.out.symm
 have f4:a7.heap[d2]?=some (.cells #[.string n,.int .i64 T,.int .u32 (a4:Int),.int .u32 (W:Int),.bool Y,.int .i64 H,.int .i64 J,.slice a0 F L,.int .i64 U,.int .u32 (a5:Int),.int .u32 (X:Int),.bool Z,.int .i64 I,.int .i64 K,.slice a1 G M,.slice S a R,.slice a3 k a2,.int .i64 p] 102 (0,0)):=by rw [<-E];exact Q6 d3.out
 rw [E];have b6:=Zh f4;have b1:=Zh f2;clear E f2 f4 t d3 c6 e5;have t:=zR b6.out;have A:=cell_of_one b1.out;go_wp2_with fail;refine(c2.out a7 c9).mono ?_;rintro e g6 ⟨rfl,c⟩;have z:=c9.trans c;have b7:=Zh (c.keep b6.out);have b2:=Zh (c.keep b1.out);have t:=zR b7.out;have A:=cell_of_one b2.out;clear c b6 b1 c9 c2;cases g3
 ·have d:Hid (f=17):=Zh (by rw [i.out];rfl);clear i;go_wp2;go_ret;exact⟨by rw [d.out];rfl,z⟩
 go_wp2_with fail;refine(c4.out g6 z).mono ?_;rintro e g7 ⟨rfl,c⟩;have N:=z.trans c;have b8:=Zh (c.keep b7.out);have b3:=Zh (c.keep b2.out);have t:=zR b8.out;have A:=cell_of_one b3.out;clear c b7 b2 z c4;by_cases u:d9=0;case neg=>
  have g2:(d9 != 0)=true:=by rw [bne_iff_ne];exact u
  have d:Hid (f=17):=Zh (by rw [i.out,if_neg zd,if_pos u]);clear i;go_wp2;go_ret;exact⟨by rw [d.out];rfl,N⟩
 subst u;go_wp2_with fail;refine(c5.out g7 N).mono ?_;rintro e g8 ⟨rfl,c⟩;have o:=N.trans c;have b9:=Zh (c.keep b8.out);have b4:=Zh (c.keep b3.out);have t:=zR b9.out;have A:=cell_of_one b4.out;clear c b8 b3 N c5;by_cases u:e0=0;case neg=>
  have g2:(e0 != 0)=true:=by rw [bne_iff_ne];exact u
  have d:Hid (f=17):=Zh (by rw [i.out,if_neg zd,if_neg zd,if_pos u]);clear i;go_wp2;go_ret;exact⟨by rw [d.out];rfl,o⟩
 subst u;have m:Hid (f=if 4<a then 17 else if 6<k then 17 else if a+k=0 then 17 else if p<1\/3<p then 17 else if c8=true then 17 else if c7=true then 17 else 0):=Zh (by rw [i.out];rfl);clear i;by_cases y:4<a
 ·have e1:(4:Int)<(a:Int):=by omega
  have d:Hid (f=17):=Zh (by rw [m.out,if_pos y]);clear m;go_wp2;go_ret;exact⟨by rw [d.out];rfl,o⟩
 by_cases B:6<k
 ·have e1:¬ (4:Int)<(a:Int):=by omega
  have g0:(6:Int)<(k:Int):=by omega
  have d:Hid (f=17):=Zh (by rw [m.out,if_neg y,if_pos B]);clear m;go_wp2;go_ret;exact⟨by rw [d.out];rfl,o⟩
 have e1:¬ (4:Int)<(a:Int):=by omega
 have g0:¬ (6:Int)<(k:Int):=by omega
 by_cases r:a+k=0
 ·have g1:((a:Int)+(k:Int) == 0)=true:=by rw [beq_iff_eq];omega
  have d:Hid (f=17):=Zh (by rw [m.out,if_neg y,if_neg B,if_pos r]);clear m r;go_wp2;go_ret;exact⟨by rw [d.out];rfl,o⟩
 have g1:((a:Int)+(k:Int) == 0)=false:=by rw [beq_eq_false_iff_ne];omega
 by_cases e2:p<1
 ·have d:Hid (f=17):=Zh (by rw [m.out,if_neg y,if_neg B,if_neg r,if_pos (.inl e2)]);clear m r;go_wp2;go_ret;exact⟨by rw [d.out];rfl,o⟩
 by_cases e3:3<p
 ·have d:Hid (f=17):=Zh (by rw [m.out,if_neg y,if_neg B,if_neg r,if_pos (.inr e3)]);clear m r;go_wp2;go_ret;exact⟨by rw [d.out];rfl,o⟩
 have v:Hid (f=if c8=true then 17 else if c7=true then 17 else 0):=Zh (by rw [m.out,if_neg y,if_neg B,if_neg r,if_neg (fun q=>q.elim e2 e3)]);clear m r;go_wp2_with fail;refine(a9.out g8 o).mono ?_;rintro e g9 ⟨rfl,c⟩;have O:=o.trans c;have d4:=Zh (c.keep b9.out);have b5:=Zh (c.keep b4.out);have t:=zR d4.out;have A:=cell_of_one b5.out;clear c b9 b4 o a9;cases c8;case true=>
  have d:Hid (f=17):=Zh (by rw [v.out];rfl);clear v;go_wp2;go_ret;exact⟨by rw [d.out];rfl,O⟩
 go_wp2_with fail;refine(a8.out _ g9 O b5.out).mono ?_;rintro e i3 ⟨rfl,c⟩;have e6:=O.trans c;clear c d4 b5 O a8 t A;cases c7
 ·have d:Hid (f=0):=Zh (by rw [v.out];rfl);clear v;go_wp2;go_ret;exact⟨by rw [d.out];rfl,e6⟩
 ·have d:Hid (f=17):=Zh (by rw [v.out];rfl);clear v;go_wp2;go_ret;exact⟨by rw [d.out];rfl,e6⟩
theorem Q0l{w:World}{l:Q5}{cs:List Value}{v:Value}{ws:Wd}(p:Zf w l cs)(d:Qb w v ws)(t:Tab w) :
  Calls Tryz.prog 200 #[.agg cs.toArray,v] w fun e w'=>e=.returned (.int .i64 (Ji l ws))/\Ext w w':=by
 obtain⟨c0,b8,rfl,_⟩:=d.slice;obtain⟨b9,u⟩:=zE ws.length;rw [u] at d ⊢;have r:=fun(V:World) (hE:Ext w V)=>K5 (d.ext hE);have q:=fun(V:World) (hE:Ext w V)=>Fz (p.ext hE) (t.keep hE id);obtain⟨a5,Y,b0,a0,a3,O,Q,a6,K,S,Z,b1,a1,a4,P,R,a7,L,T,X,M,W,a9,N,a8,a2,rfl,y,H,I,x,G,F,B,C,D,E,A,b3,b4,b5,b6,b7⟩:=Y9 p;have b:Hid (Ji l ws=if Hb l=0 then wE ws else Hb l):=Zh (by unfold Ji Hb;cases Zw l <;> rfl);obtain⟨a,k⟩:=zE (Ji l ws);obtain⟨g,m⟩:=zE (Hb l);obtain⟨U,o⟩:=zE (wE ws);rw [k,m,o] at b;rw [m] at q;rw [o] at r;rw [k];have J:=Zh r;have z:=Zh q;clear u k m o r q d p t y H I x G F B C D E A;have i:Ext w (w.alloc (.cells #[.string a5,.int .i64 Y,.int .u32 (b0:Int),.int .u32 (a0:Int),.bool a3,.int .i64 O,.int .i64 Q,.slice a6 K S,.int .i64 Z,.int .u32 (b1:Int),.int .u32 (a1:Int),.bool a4,.int .i64 P,.int .i64 R,.slice a7 L T,.slice X M W,.slice a9 N a8,.int .i64 a2] 102)):=(Q0.refl _ w).alloc _;go_enter Tryz.func200,Tryz.ntmps200
 go_wp2_with (refine wpList_load_row rfl 102 (.tmp 2) rfl w.heap.size rfl _ _ _ _ (Q2 rfl) Tryz.underlying102 rfl Tryz.lawInfo ?_)
 refine(z.out _ i).mono ?_;rintro e c1 ⟨rfl,c⟩;have j:=i.trans c;clear c i;by_cases s:g=0;case neg=>
  have b2:(g != 0)=true:=by rw [bne_iff_ne];exact s
  have f:Hid (a=g):=Zh (by rw [b.out,if_neg s]);clear b;go_wp2;go_ret;exact⟨by rw [f.out];rfl,j⟩
 subst s;have f:Hid (a=U):=Zh (by rw [b.out,if_pos rfl]);go_wp2_with fail;refine(J.out _ j).mono ?_;rintro e c2 ⟨rfl,c⟩;go_wp2;go_ret;exact⟨by rw [f.out];rfl,j.trans c⟩
abbrev Qef:Nat->(Nat->Prop)->Nat->World->Array Value->Prop:=fun _ _ x _ ys=>ys=#[.int .i64 (x:Int)]
def Qdp(l:Q5)(ws:Wd):List Nat:=if Ji l ws=0 then Wy l ws else []
theorem Q31{ws:Wd}(h:wE ws=0):ws.length<=32:=by
 apply Nat.le_of_not_lt;intro a;unfold wE at h;rw [if_pos a] at h;cases h
theorem Dd{l:Q5}{ws:Wd}(h:Ji l ws=0):Zw l=true/\wE ws=0:=by
 unfold Ji at h
 split at h
 ·rename_i a;exact⟨a,h⟩
 ·cases h
def Qc9(l:Q5)(ws:Wd)(z:Int):Int:=
 if Ji l ws=0 then(if z<0\/(ws.length:Int)<z then 3 else if Y8 l ws z.toNat=false then 5 else if 32<(Yq l ws z.toNat).length then 11 else 0) else Ji l ws
def Qe8(l:Q5)(ws:Wd)(z:Int):Wd:=if Qc9 l ws z=0 then Yq l ws z.toNat else []
theorem Qcf{w:World}{u v:Value}{us vs:Wd}(t:Qb w u us)(x:Qb w v vs) :
  Calls Tryz.prog 124 #[u,v] w fun e w'=>e=.returned (.bool (decide (us=vs)))/\Ext w w':=by
 obtain⟨b0,a9,rfl,a0⟩:=t.slice;obtain⟨b2,b1,rfl,a1⟩:=x.slice;unfold maxLen at a0 a1;obtain⟨c,G⟩:=zE us.length;obtain⟨z,F⟩:=zE vs.length;rw [G] at t a0 ⊢;rw [F] at x a1 ⊢;obtain⟨a7,a8,o,y⟩:=Zh4 t x G F;clear t x G F;go_enter Tryz.func124,Tryz.ntmps124;by_cases T:c=z;case neg=>
  have c1:((c:Int) ==(z:Int))=false:=by simp;omega
  have c4:¬ (c:Int)=(z:Int):=by omega
  have l:¬ us=vs:=by intro E;rw [E,y.out] at o;exact T o.out.symm
  have p:=Zh (decide_eq_false l);clear l;go_wp2;go_ret;exact⟨by rw [p.out];rfl,Q0.refl _ _⟩
 subst T;go_wp2
 refine wp_loop (fun a q=>∃(b:Nat),b<=c/\a.defers=[]/\gS a [0,1,12,13]=(26,[.slice b0 c a9,.slice b2 c b1,.int .i64 c,.int .i64 b])/\us.take b=vs.take b/\Ext w q)
  (fun a _=>c - (intOf (a.tmps.getD 13 undef)).toNat) ?_ ?_
 ·exact⟨0,by omega,rfl,rfl,by simp,Q0.refl _ _⟩
 rintro⟨M,_⟩ q ⟨b,c7,b6,a3,U,g⟩;subst b6;obtain⟨u,rfl⟩:=Qq a3;clear a3;have N:=Zh U;clear U;by_cases Z:b<c
 ·have b3:(b:Int)<(c:Int):=by omega
  have H:b<us.length:=by rw [o.out];exact Z
  have I:b<vs.length:=by rw [y.out];exact Z
  obtain⟨b9,c8,b7,m,c5,A,B⟩:=(show Qb q _ us from(a7.out.ext g)).at H;simp only [zV] at m;obtain⟨rfl,L,rfl⟩:=m;clear L;obtain⟨c0,c9,b8,m,c6,C,D⟩:=(show Qb q _ vs from(a8.out.ext g)).at I;simp only [zV] at m;obtain⟨rfl,L,rfl⟩:=m;clear L;have X:us.getD b (0,0)=us[b]:=by rw [List.getD_eq_getElem?_getD,List.getElem?_eq_getElem H];rfl
  have Y:vs.getD b (0,0)=vs[b]:=by rw [List.getD_eq_getElem?_getD,List.getElem?_eq_getElem I];rfl
  rw [X] at A B;rw [Y] at C D;obtain⟨i,J⟩:=zE (us[b]);obtain⟨M,K⟩:=zE (vs[b]);have O:Hid (us[b]=i):=Zh J;have P:Hid (vs[b]=M):=Zh K;rw [J] at A B;rw [K] at C D;obtain⟨d,j⟩:=i;obtain⟨f,k⟩:=M;dsimp only at A B C D;clear X Y J K;by_cases s:d=f/\j=k
  ·obtain⟨rfl,rfl⟩:=s;have a2:us.take (b+1)=vs.take (b+1):=by
    rw [List.take_succ_eq_append_getElem H,List.take_succ_eq_append_getElem I,N.out,O.out,P.out]
   have a6:=Zh a2;clear a2;go_wp2
   go_quiet (fail)
   go_wp2;exact⟨⟨b+1,by omega,tz,rfl,a6.out,g.drewN _⟩,nz⟩
  ·have l:¬ us=vs:=by
    intro E;subst E;have r:=O.out.symm.trans P.out;simp only [Prod.mk.injEq] at r;exact s r
   have p:=Zh (decide_eq_false l);have V:(((d:Int) ==(f:Int)) && ((j:Int) ==(k:Int)))=false:=by
    by_cases r:d=f
    ·have Q:¬ j=k:=fun Q=>s ⟨r,Q⟩;simp;omega
    ·simp;omega
   have R:¬ ((d:Int)=(f:Int)/\(j:Int)=(k:Int)):=by omega
   have S:(d:Int)=(f:Int)->¬ (j:Int)=(k:Int):=by omega
   have a4:=Zh S;clear l s S;by_cases b4:(d:Int)=(f:Int)
   ·have c2:=a4.out b4;have c3:((j:Int) ==(k:Int))=false:=by simp;omega
    have b5:((d:Int) ==(f:Int))=true:=by simp;omega
    clear V R;go_wp2
    go_quiet (fail)
    go_wp2;go_ret;exact⟨by rw [p.out];rfl,g.drewN _⟩
   ·have b5:((d:Int) ==(f:Int))=false:=by simp;omega
    clear V R;go_wp2
    go_quiet (fail)
    go_wp2;go_ret;exact⟨by rw [p.out];rfl,g.drewN _⟩
 ·obtain rfl:b=c:=by omega
  have b3:¬ (b:Int)<(b:Int):=by omega
  have W:us=vs:=by have:=N.out;rwa [List.take_of_length_le (by rw [o.out];exact Nat.le_refl _),List.take_of_length_le (by rw [y.out];exact Nat.le_refl _)] at this
  have a5:=Zh (decide_eq_true W);clear W;go_wp2;go_ret;exact⟨by rw [a5.out];rfl,g⟩
theorem eqW{w:World}{u v:Value}{us vs:Wd}(a:Qb w u us)(b:Qb w v vs) :
  Calls Tryz.prog 70 #[u,v] w fun e w'=>e=.returned (.bool (decide (us=vs)))/\Ext w w':=by
 have c:=fun(D:World) (hD:Ext w D)=>Qcf (a.ext hD) (b.ext hD);obtain⟨i,g,rfl,l⟩:=a.slice;obtain⟨k,j,rfl,m⟩:=b.slice;have d:=Zh c;clear c a b;go_enter Tryz.func70,Tryz.ntmps70;go_wp2_with fail;refine(d.out _ (by first | exact Q0.refl _ _ | exact Q0.drew (Q0.refl _ _))).mono ?_;rintro e n ⟨rfl,f⟩;clear d;go_wp2;go_ret;exact⟨rfl,by first | exact f | exact Q0.trans (Q0.drew (Q0.refl _ _)) f⟩
abbrev Q8p:Nat->(Nat->Prop)->Int->World->Array Value->Prop:=fun _ _ x _ ys=>ys=#[.int .i64 x]
theorem Q0d{w:World}{gf:Nat}{lb:Array Value}(Y:∀ args w,(callFunc gf args).run Tryz.prog w=.ok (.enter gf args) w) {M:Nat->Nat->Prop} {xs:List Int} (a0:∀ w1,Ext w w1->Vc Tryz.prog gf lb M Q8p xs (fun b=>b<w.heap.size) w1) (d1:xs.length<=1000) :
  Calls Tryz.prog 193 #[.slice none 0 0,.func (.func gf) #[] lb] w fun e w'=>∃ u,e=.returned u/\w'.ownsRow w.heap.size 3 1 u xs.length (Zv xs)/\Ext w w':=by
 refine Qu Tryz.func193 rfl ?_;simp only [Tryz.ntmps193,zS,Nat.reduceAdd,Nat.reduceSub];have a8:=Zh a0;have a5:=Zh Y;clear a0 Y;go_wp2;obtain⟨c,B⟩:=zE w.heap.size;have H:(w.alloc (.cells #[.slice none 0 0] 48)).heap[c]?=some (.cells #[.slice none 0 0] 48 (0,0)):=Q2 B.symm;have C:Ext w (w.alloc (.cells #[.slice none 0 0] 48)):=(Q0.refl _ w).alloc _;have b8:(w.alloc (.cells #[.slice none 0 0] 48)).heap.size=c+1:=by rw [<-B];simp
 generalize (w.alloc (.cells #[.slice none 0 0] 48))=w1 at H C b8 ⊢;have L:=a8.out w1 C;rw [B] at L ⊢;have z:=Zh B;clear B
 refine Jf (xs:=xs) (K:=fun b=>b<c) rfl a5.out L (fun b a=>by omega) (fun _ _ x A y a=>by rw [a];rfl) (fun _ _ x A D y a _ _=>a)
  (fun k f g=>∃ u,g.heap[c]?=some (.cells #[u] 48 (0,0))/\g.ownsRow c 3 1 u f.length (Zv f)/\(∀ d,u.ownBlock=some d->d≠c/\d≠c+1/\d≠c+2/\¬ k d)/\Ext w g)
  (fun _ _ _ _=>False) ?hI ?hIx ?h0 (fun y t=>(t.setIfInBounds 7 (y.getD 0 undef)).setIfInBounds 5 (y.getD 0 undef)) ?assign ?body ?done ?stop
 case hI=>
  rintro k c1 f b0 b1 ⟨u,j,i,n,v⟩ r b9 b5;have s:Q0 (fun b=>k b\/b=c+2) b0 b1:=b9.mono (fun b _ a=>a.elim (fun q=>.inl q.1) (fun q=>.inr oz));refine⟨u,s.heap j (fun a=>?_),Qf i s (fun b hb e=>?_),fun d p=>?_,v.after s (fun b' h1 h2=>?_)⟩
  ·rcases a with a | a
   ·have:=(r _ a).1;omega
   ·omega
  ·have:=n b hb;exact e.elim this.2.2.2 (fun q=>this.2.2.1 q)
  ·obtain⟨a2,a3,a4,O⟩:=n d p;exact⟨a2,a3,a4,fun a=>by rcases(b5 d a).1 with a | a;exact O a;have:=(i.lt _ p).2;omega⟩
  ·have:=z.out;rcases h2 with a | a
   ·have:=(r _ a).1;omega
   ·omega
 case hIx=>exact fun _ _ _ _ _ _ a _ _ _=>a
 case h0=>
  intro g X _;exact⟨.slice none 0 0,X.keep H,World.ownsRow_nil _ _ _ _,(fun d p=>by cases p),Q0.trans C X⟩
 case assign=>
  rintro _ _ G y g c0 rfl b4;gi_wp2;exact b4
 case body=>
  rintro k f G d4 y g N d3 r s ⟨u,j,i,n,v⟩ rfl;simp only [pq];have d2:f.length<1000:=by
   have:=congrArg List.length N;simp at this;omega
  have Q:=cell_of_one j;have b2:=free_of_one j;have c9:c<g.heap.size:=(Array.getElem?_eq_some_iff.1 j).1;have d0:=Zh N;have P:=Zh r;clear N r;refine wpIn_block ?_;refine Xp kz (by rintro⟨_,_,a⟩;exact a) ?_;have a9:=Zh j;clear j
  go_wp2_with (at_builtin;refine Zi rfl (.tmp 8) (.tmp 10) 48 rfl c 3 _ 1 8 Tryz.underlying48 Tryz.infoI rfl zd _ _ _ rfl (Qe i ((Q0.refl _ g).alloc _)) ⟨g.heap.size,0,none⟩ 1 1 [.int .i64 G] rfl rfl (Zp rfl) ?c2 ?c3 ?c4 ?c5 ?_)
  case c2=>first | rfl | (intro u a1;simp at a1;rcases a1 with rfl;rfl)
  case c3=>unfold maxLen;omega
  case c4=>omega
  case c5=>simp;omega
  intro l m o V W R;have E:Q0 (fun b'=>u.ownBlock=some b') g o:=Q0.trans (Q0.alloc (Q0.refl _ g) _) W;have I:=E.heap a9.out (fun e=>(n _ e).1 rfl);have S:Ext w o:=Q0.after v E (fun b' h1 e=>by have:=(i.lt _ e).1;have:=z.out;omega);have J:∀ d,(Value.slice l (f.length+1) m).ownBlock=some d->d≠c/\d≠c+1/\d≠c+2/\¬ k d:=by
   intro d p;rcases R with e | e
   ·exact n d (e ▸ p)
   ·rw [p] at e;cases e;exact⟨by first | omega | (simp;omega),by first | omega | (simp;omega),by first | omega | (simp;omega),fun a=>by have:=(P.out _ a).2;first | omega | (simp at this;omega)⟩
  have c6:=cell_of_one I;have c8:=free_of_one I;have F:=Q0.set1 o c 0 (.slice l (f.length+1) m);have U:(o.setCell ⟨c,0,none⟩ (.slice l (f.length+1) m)).heap[c]?=some (.cells #[.slice l (f.length+1) m] 48 (0,0)):=by
   simp only [World.setCell,Array.getElem?_modify,I];simp
  have T:Q0 (fun b=>¬ (b<c\/k b\/b=c+1\/b=c+1+1)) g (o.setCell ⟨c,0,none⟩ (.slice l (f.length+1) m)):=by
   refine(E.mono (fun b' _ e hn=>?_)).trans (F.mono (fun b' _ e hn=>?_))
   ·obtain⟨a2,a3,a4,O⟩:=n _ e;have:=(i.lt _ e).1;rcases hn with a | a | a
    ·omega
    ·exact O a
    ·omega
   ·rcases hn with a | a | a
    ·omega
    ·have:=(P.out _ a).1;omega
    ·omega
  have Z:∃ u,(o.setCell ⟨c,0,none⟩ (.slice l (f.length+1) m)).heap[c]?=some (.cells #[u] 48 (0,0))/\(o.setCell ⟨c,0,none⟩ (.slice l (f.length+1) m)).ownsRow c 3 1 u (f++[G]).length (Zv (f++[G]))/\(∀ d,u.ownBlock=some d->d≠c/\d≠c+1/\d≠c+2/\¬ k d)/\Ext w (o.setCell ⟨c,0,none⟩ (.slice l (f.length+1) m)):=by
   refine⟨_,U,?_,J,Q0.after S F (fun b h1 h2=>by have:=z.out;omega)⟩;rw [Q05,List.length_append];exact Qf V F (fun b hb e=>(J b hb).1 e)
  have a7:=Zh T;have a6:=Zh Z;clear T Z U F J S E W V R Q b2 i n v s;go_wp2;exact⟨a7.out,a6.out⟩
 case done=>
  rintro k g ⟨u,j,i,n,v⟩ r s b3;have Q:=cell_of_one j;clear C H L;go_wp2;have b7:Qs c ({ target:=.collected w1.heap.size,args:=#[] }::[]) g:=Qs.cons (base:=c) trivial oz b3 (fun e he=>by cases he);refine Yg b7 (fun w'=>results_tmp rfl _ _ _) (fun w' ht' hs=>⟨u,rfl,?_,?_⟩)
  ·rw [z.out];exact Qf i ht' (fun b hb e=>by obtain⟨c7,b6⟩:=Z7 i hb;exact Shut.not b6 rfl e)
  ·exact Q0.after v ht' (fun b' h2 h3=>by have:=h3.1;have:=z.out;omega)
 case stop=>exact fun _ _ _ _ _ _ _ a=>a.elim
theorem Tz{w:World}{gf:Nat}{lb:Array Value}(d:∀ args w,(callFunc gf args).run Tryz.prog w=.ok (.enter gf args) w) {M:Nat->Nat->Prop} {xs:List Int} (f:∀ w1,Ext w w1->Vc Tryz.prog gf lb M Q8p xs (fun b=>b<w.heap.size) w1) (k:xs.length<=1000) :
  Calls Tryz.prog 163 #[.func (.func gf) #[] lb] w fun e w'=>∃ u,e=.returned u/\w'.ownsRow w.heap.size 3 1 u xs.length (Zv xs)/\Ext w w':=by
 have c:=Q0d d f k;have g:=Zh c;clear c f d;go_enter Tryz.func163,Tryz.ntmps163;go_wp2_with fail;refine g.out.mono ?_;rintro e w' ⟨u,rfl,a,j⟩;obtain⟨m,l,rfl⟩:=Zj a;have i:=Zh a;clear a;go_wp2;go_ret;exact⟨_,rfl,i.out,j⟩
end Go.Proofs.YtfdlhlghcbeblaaGreatDoor
