/- pats.Size. -/
import Derived.Test.YtejenndedjabhaaGreatDoorS18
set_option maxRecDepth 100000
set_option maxHeartbeats 16000000
namespace Go.Proofs.YtejenndedjabhaaGreatDoor
open Go.RowKit Go.Ab
attribute [local go_sem] Oper.semAt_some Zm Qv
theorem Stk.append{K:Nat->Prop}{W:World}{ps qs:List Pat}{xs f:List Value}(h:Stk K W ps xs)(k:Stk K W qs f):Stk K W (ps++qs) (xs++f):=by
 refine⟨by rw [List.length_append,h.1,k.1,List.length_append];omega,fun i hi=>?_⟩;by_cases e:i<ps.length
 ·obtain⟨a,b,c,d⟩:=h.2 i e;refine⟨a,b,fun j v hj=>?_,by rw [List.getElem_append_left e];exact d⟩;have:=c j v hj;rw [List.getElem?_append_left (List.getElem?_eq_some_iff.1 this).1];exact this
 ·obtain⟨a,b,c,d⟩:=k.2 (i - ps.length) (by simp at hi;omega);refine⟨a,b,fun j v hj=>?_,by rw [List.getElem_append_right oz];exact d⟩;have:=c j v hj;rw [List.getElem?_append_right (by rw [h.1];omega),h.1];rw [show i*7+j - ps.length*7=(i - ps.length)*7+j by omega];exact this
theorem Zk.row{K:Nat->Prop}{w:World}{l:List Pat}{ao:Option Addr}(h:Zk K w l ao 0)(cap:Nat):∀ T,T<=l.length->T<=maxLen ->
  ∃ news,Rd w (.slice ao T cap) T 7 news/\Stk K w (l.take T) news/\∀ v∈news,v.oneCell'=true
 | 0,_,_=>⟨[],⟨rfl,Nat.zero_le _,ao,cap,rfl,fun h=>absurd h zd⟩,Stk.nil K w,fun v hv=>by cases hv⟩
 | T+1,hT,hm=>by
  obtain⟨news,hr,hs,h1⟩:=Zk.row h cap T oz oz;obtain⟨g,off,c,rfl,hg,hgl,hra,hp⟩:=h.get T oz;obtain⟨qo,qcap,hc,_⟩:=Zg hp;have hc7:c.length=7:=by rw [hc];rfl
  rw [Nat.zero_add] at hra;obtain⟨hl,_,_,_,e,h3⟩:=hr;refine⟨news++c,⟨by rw [List.length_append,hl,hc7];omega,hm,_,cap,rfl,fun _=>⟨g,off,rfl,hgl,fun j hj=>?_⟩⟩,?_,?_⟩
  ·by_cases hjT:j<T*7
   ·obtain⟨g',off',e1,_,h4⟩:=h3 oz;simp only [zV] at e;obtain⟨e,_⟩:=e;rw [<-e] at e1;cases e1;rw [h4 j hjT,List.getD_eq_getElem?_getD,List.getD_eq_getElem?_getD,List.getElem?_append_left oz]
   ·have hjc:j - T*7<c.length:=by omega
    have:=hra (j - T*7) _ (List.getElem?_eq_getElem hjc);rw [show off+T*7+(j - T*7)=off+j by omega] at this;rw [this,List.getD_eq_getElem?_getD,List.getElem?_append_right oz,hl,List.getElem?_eq_getElem hjc,Option.getD_some]
  ·rw [List.take_succ_eq_append_getElem oz];exact hs.push hc7 hp
  ·intro v hv;rcases List.mem_append.1 hv with hv | hv
   ·exact h1 v hv
   ·rw [hc] at hv;exact Ko v hv
theorem Cm(p:Pat)(l:List Pat)(n:Nat):Gu (p::l) n=if n<=40 then Gu l (Vh p n) else n:=by rw [Gu]
theorem Qcf(p:Pat)(n:Nat):Vh p n=Gu p.l (n+1):=by cases p;rw [Vh];rfl
theorem Qdc{p:Pat}{n:Nat}(h:n<=40):Vh p n<=41:=(Ty p n [] h).1.1
def Pz(p:Pat):Prop:=∀(K:Nat->Prop) (w:World) (cs:List Value) (n:Nat),Qj K w p cs->n<=40 ->
 Calls Tryz.prog 119 #[.agg cs.toArray,.int .i64 n] w fun e w'=>e=.returned (.int .i64 (Vh p n:Int))/\Ext w w'
theorem Q5i(k:Int)(pl mi:Nat)(nt:Bool)(mn mx:Int)(l:List Pat)(T:∀ p∈l,Pz p):Pz (.node k pl mi nt mn mx l):=by
 intro Z f b9 n P c6;unfold Qj at P;obtain⟨q,r,rfl,b5,b4,M,K,L⟩:=P;have O:l.length<=maxLen:=Nat.le_trans M K;unfold maxLen at O;have v:=Qcf (.node k pl mi nt mn mx l) n;change Vh (.node k pl mi nt mn mx l) n=Gu l (n+1) at v;obtain⟨o,J⟩:=zE (Vh (.node k pl mi nt mn mx l) n);rw [J] at v ⊢;obtain⟨d,x⟩:=zE l.length;obtain⟨G,V,Y,H⟩:=Zh4 x L T v;unfold Qd;rw [x] at O ⊢;clear L T x M K b5 b4 J v;go_enter Tryz.func119,Tryz.ntmps119;go_wp2;have e:(f.alloc (.cells #[.int .i64 k,.int .u32 (pl:Int),.int .u32 (mi:Int),.bool nt,.int .i64 mn,.int .i64 mx,.slice q d r] 47)).heap[f.heap.size]?=some (.cells #[.int .i64 k,.int .u32 (pl:Int),.int .u32 (mi:Int),.bool nt,.int .i64 mn,.int .i64 mx,.slice q d r] 47 (0,0)):=Q3 rfl;have s:Ext f (f.alloc (.cells #[.int .i64 k,.int .u32 (pl:Int),.int .u32 (mi:Int),.bool nt,.int .i64 mn,.int .i64 mx,.slice q d r] 47)):=(Q0.refl _ f).alloc _;generalize (f.alloc (.cells #[.int .i64 k,.int .u32 (pl:Int),.int .u32 (mi:Int),.bool nt,.int .i64 mn,.int .i64 mx,.slice q d r] 47))=b6 at e s ⊢;generalize f.heap.size=U at e ⊢;have X:=Zh e;clear e
 refine wp_loop (fun a w=>∃(b c:Nat),b<=d/\c<=41/\Gu (l.drop b) c=o/\a.defers=[]/\gS a [2,5,6]=(28,[.pointer (some ⟨U,0,none⟩),.int .i64 c,.int .i64 b])/\Ext b6 w)
  (fun a _=>d - (intOf (a.tmps.getD 6 undef)).toNat) ?_ ?_
 ·exact⟨0,n+1,by omega,by omega,H.out.symm,rfl,(Prod.ext rfl (lE rfl (lE (by go_num) rfl))),Q0.refl _ _⟩
 clear H;rintro⟨d0,_⟩ w ⟨b,c,c4,c5,R,b2,Q,g⟩;subst b2;obtain⟨d1,rfl⟩:=Qc Q;clear Q;have i:=Zh R;clear R;have e:=g.keep X.out;have a8:=zR e;by_cases b3:b<d
 ·have a9:(b:Int)<(d:Int):=by omega
  have A:b<l.length:=by rw [G.out];exact b3
  have t:l.drop b=l[b]::l.drop (b+1):=List.drop_eq_getElem_cons A;by_cases u:c<=40
  ·have b0:(c:Int)<=40:=by omega
   obtain⟨c1,c7,a0,rfl,c2,c3,D,C⟩:=(V.out.ext (s.trans g)).get b A;rw [Nat.zero_add] at D;obtain⟨c9,c8,y,_,_,_⟩:=Zg C;obtain⟨a1,a2,a3,a4,a5,a6,a7⟩:=Xj D y;have m:=Y.out _ (List.getElem_mem A) Z w a0 c C u;have B:Gu (l.drop (b+1)) (Vh l[b] c)=o:=by
    have:=i.out;rw [t,Cm,if_pos u] at this;exact this
   have N:=Qdc (p:=l[b]) u;obtain⟨b7,S⟩:=zE (Vh l[b] c);rw [S] at m B N;rw [y] at m;unfold Qd at m;have F:=Zh m;have W:=Zh B;clear m D C y t B S e;go_wp2_with fail;refine F.out.mono ?_;rintro c0 b8 ⟨rfl,I⟩;have b1:=g.trans I;clear g I a1 a2 a3 a4 a5 a6 a7 F a8;go_wp2;exact⟨⟨b+1,b7,by omega,N,W.out,tz,rfl,b1⟩,nz⟩
  ·have b0:¬ (c:Int)<=40:=by omega
   have E:c=o:=by
    have:=i.out;rw [t,Cm,if_neg u] at this;exact this
   subst E;clear i t;go_wp2;go_ret;exact⟨rfl,s.trans g⟩
 ·obtain rfl:b=d:=by omega
  have a9:¬ (b:Int)<(b:Int):=by omega
  have E:c=o:=by
   have:=i.out;rw [List.drop_of_length_le (by rw [G.out];exact Nat.le_refl _),Gu] at this;exact this
  subst E;clear i;go_wp2;go_ret;exact⟨rfl,s.trans g⟩
mutual
theorem Cu:∀ p:Pat,Pz p
 | .node k pl mi nt mn mx l=>Q5i k pl mi nt mn mx l (Sf l)
theorem Sf:∀ l:List Pat,∀ p∈l,Pz p
 | [],_,h=>by cases h
 | q::l,p,h=>(List.mem_cons.1 h).elim (fun e=>e ▸ Cu q) (fun h=>Sf l p h)
end
theorem Wf{K:Nat->Prop}{w:World}{p:Pat}{cs:List Value}(g:Qj K w p cs) :
  Calls Tryz.prog 79 #[.agg cs.toArray] w fun e w'=>e=.returned (.int .i64 (Hs p:Int))/\Ext w w':=by
 have d:Ext w (w.alloc (.cells cs.toArray 47)):=(Q0.refl _ w).alloc _;have a:=Cu p K _ cs 0 (g.ext d) oz;rw [Q97] at a;obtain⟨n,m,f,_,_,_⟩:=Zg g;rw [f] at a ⊢;unfold Qd at a ⊢;obtain⟨o,i⟩:=zE (Hs p);rw [i] at a ⊢;have j:=Zh a;clear a f d i;go_enter Tryz.func79,Tryz.ntmps79;go_wp2_with fail;refine j.out.mono ?_;rintro e l ⟨rfl,c⟩;have k:Ext w l:=Q0.trans ((Q0.refl _ w).alloc _) c;clear c;go_wp2;go_ret;exact⟨rfl,k⟩
mutual
def Wy:Pat->Nat
 | .node k _ _ _ _ _ l=>(if k=5 then 1 else 0)+Jp l
def Jp:List Pat->Nat
 | []=>0
 | p::l=>Wy p+Jp l
end
theorem Q9q{l:List Pat}{i:Nat}(c:i<l.length):Jp (l.take (i+1))=Jp (l.take i)+Wy l[i]:=by
 have d:∀(a b:List Pat),Jp (a++b)=Jp a+Jp b:=by
  intro a
  induction a with
  | nil=>intro b;simp [Jp]
  | cons p a ih=>intro b;simp only [List.cons_append,Jp,ih];omega
 rw [List.take_succ_eq_append_getElem c,d];simp [Jp]
mutual
theorem Rx:∀ p:Pat,Wy p<=Gt p
 | .node k pl mi nt mn mx l=>by
  have:=S7 l;unfold Wy Gt
  split <;> omega
theorem S7:∀ l:List Pat,Jp l<=Yv l
 | []=>by simp [Jp,Yv]
 | p::l=>by
  have h1:=Rx p;have h2:=S7 l;simp only [Jp,Yv];omega
end
theorem Qa1{l:List Pat}{i:Nat}(a:i<l.length):Gt l[i]<=Yv l:=by
 induction l generalizing i with
 | nil=>cases a
 | cons p l ih=>
  simp only [Yv];cases i with
  | zero=>simp only [List.getElem_cons_zero];omega
  | succ i=>
   have:=ih (i:=i) (by simpa using a);simp only [List.getElem_cons_succ];omega
theorem Q91(l:List Pat)(i:Nat):Yv (l.take i)<=Yv l:=by
 have:Yv l=Yv (l.take i)+Yv (l.drop i):=by rw [<-Le,List.take_append_drop]
 omega
def Q05(p:Pat):Prop:=∀(K:Nat->Prop) (w:World) (cs:List Value),Qj K w p cs->Gt p<=40 ->
 Calls Tryz.prog 120 #[.agg cs.toArray] w fun e w'=>e=.returned (.int .i64 (Wy p:Nat))/\Ext w w'
theorem Qa8(k:Int)(pl mi:Nat)(nt:Bool)(mn mx:Int)(l:List Pat)(d3:∀ p∈l,Q05 p):Q05 (.node k pl mi nt mn mx l):=by
 intro c0 v f2 c9 d2;unfold Qj at c9;obtain⟨J,K,rfl,e3,e2,c7,c5,c6⟩:=c9;have c8:l.length<=maxLen:=Nat.le_trans c7 c5;unfold maxLen at c8;have a7:Yv l<=39:=by unfold Gt at d2;omega
 have a9:Wy (.node k pl mi nt mn mx l)=(if k=5 then 1 else 0)+Jp l:=by rw [Wy]
 have c3:∀ b,Jp (l.take b)<=39:=fun b=>Nat.le_trans (S7 _) (Nat.le_trans (Q91 l b) a7);have d0:=fun b (C:b<l.length)=>Q9q C;have d1:=fun b (C:b<l.length)=>Nat.le_trans (Qa1 C) a7;obtain⟨c1,c2⟩:=zE (Wy (.node k pl mi nt mn mx l));rw [c2] at a9 ⊢;have a6:Jp (l.take l.length)=Jp l:=by rw [List.take_of_length_le (Nat.le_refl _)]
 obtain⟨d,M⟩:=zE l.length;rw [M] at a6;obtain⟨b3,b2,b9,b8,H,b5,b6,b4⟩:=Zh8 M c6 d3 a9 c3 d0 d1 a6;unfold Qd;rw [M] at c8 ⊢;clear c6 d3 M c7 c5 e3 e2 c2 a9 c3 d0 d1 a6 d2 a7;go_enter Tryz.func120,Tryz.ntmps120;obtain⟨P,x⟩:∃ c:Nat,(if k=5 then 1 else 0)=c:=⟨_,rfl⟩;have a8:=b8.out;rw [x] at a8;have f4:P<=1:=by rw [<-x];split <;> omega
 have I:=Zh a8;clear a8 b8;have c4:((k:Int) == 5)=decide (k=5):=by by_cases d8:k=5 <;> simp [d8]
 go_upto_region 2 with (fail)
 have g:(v.alloc (.cells #[.int .i64 k,.int .u32 (pl:Int),.int .u32 (mi:Int),.bool nt,.int .i64 mn,.int .i64 mx,.slice J d K] 47)).heap[v.heap.size]?=some (.cells #[.int .i64 k,.int .u32 (pl:Int),.int .u32 (mi:Int),.bool nt,.int .i64 mn,.int .i64 mx,.slice J d K] 47 (0,0)):=Q3 rfl;have A:Ext v (v.alloc (.cells #[.int .i64 k,.int .u32 (pl:Int),.int .u32 (mi:Int),.bool nt,.int .i64 mn,.int .i64 mx,.slice J d K] 47)):=(Q0.refl _ v).alloc _;generalize (v.alloc (.cells #[.int .i64 k,.int .u32 (pl:Int),.int .u32 (mi:Int),.bool nt,.int .i64 mn,.int .i64 mx,.slice J d K] 47))=d4 at g A ⊢;generalize v.heap.size=b1 at g ⊢;have b7:=Zh g;have w:=zR g;clear g;by_cases L:k=5
 ·subst L;have a0:P=1:=by rw [<-x];rfl
  clear x c4;subst a0;go_wp2;clear w
  refine wp_loop (fun a q=>∃(b c:Nat),b<=d/\a.defers=[]/\gS a [1,3,4]=(24,[.pointer (some ⟨b1,0,none⟩),.int .i64 c,.int .i64 b])/\c=1+Jp (l.take b)/\Ext d4 q)
   (fun a _=>d - (intOf (a.tmps.getD 4 undef)).toNat) ?_ ?_
  ·exact⟨0,_,by omega,rfl,rfl,by simp [Jp],Q0.refl _ _⟩
  rintro⟨f0,_⟩ q ⟨b,c,C,a3,F,m,e⟩;subst a3;obtain⟨f1,rfl⟩:=Qc F;clear F;have g:=e.keep b7.out;have w:=zR g;have a1:=H.out b;by_cases a4:b<d
  ·have Y:(b:Int)<(d:Int):=by omega
   have d9:(0:Int)<=(b:Int):=by omega
   have i:b<l.length:=by rw [b3.out];exact a4
   obtain⟨d7,e6,Q,rfl,e0,e1,u,s⟩:=(b2.out.ext (A.trans e)).get b i;rw [Nat.zero_add] at u;obtain⟨e8,e7,r,_,_,_⟩:=Zg s;obtain⟨R,S,T,U,V,W,X⟩:=Xj u r;have f:=b9.out _ (List.getElem_mem i) c0 q Q s (by have:=b6.out b i;omega);have n:=b5.out b i;have a2:=H.out (b+1);obtain⟨o,G⟩:=zE (Wy l[b]);obtain⟨e9,E⟩:=zE (Jp (l.take b));obtain⟨b0,t⟩:=zE (Jp (l.take (b+1)));rw [G] at f n;rw [E] at n a1 m;rw [t] at n a2;rw [r] at f;unfold Qd at f;have e5:IntKind.i64.wrap ((c:Int)+(o:Int))=((c+o:Nat):Int):=by rw [IntWalk.i64_in _ oz];omega
   have D:c+o=1+b0:=by omega
   obtain⟨N,y,O⟩:=Zh3 D f t;have e4:c<=40:=by omega
   clear f u s r G g n E t m D;go_wp2_with fail;refine y.out.mono ?_;rintro d6 d5 ⟨rfl,B⟩;have Z:=e.trans B;clear e B R S T U V W X y w;go_wp2;exact⟨⟨b+1,c+o,by omega,tz,rfl,by rw [O.out];exact N.out,Z⟩,nz⟩
  ·obtain rfl:b=d:=by omega
   have Y:¬ (b:Int)<(b:Int):=by omega
   have a5:c=c1:=by rw [m,b4.out];exact I.out.symm
   subst a5;clear I m;go_wp2;go_ret;exact⟨rfl,A.trans e⟩
 ·have f3:((k:Int) == 5)=false:=by rw [beq_eq_false_iff_ne];exact L
  have a0:P=0:=by rw [<-x,if_neg L]
  clear x c4 L;subst a0;go_wp2;clear w
  refine wp_loop (fun a q=>∃(b c:Nat),b<=d/\a.defers=[]/\gS a [1,3,4]=(24,[.pointer (some ⟨b1,0,none⟩),.int .i64 c,.int .i64 b])/\c=0+Jp (l.take b)/\Ext d4 q)
   (fun a _=>d - (intOf (a.tmps.getD 4 undef)).toNat) ?_ ?_
  ·exact⟨0,_,by omega,rfl,rfl,by simp [Jp],Q0.refl _ _⟩
  rintro⟨f0,_⟩ q ⟨b,c,C,a3,F,m,e⟩;subst a3;obtain⟨f1,rfl⟩:=Qc F;clear F;have g:=e.keep b7.out;have w:=zR g;have a1:=H.out b;by_cases a4:b<d
  ·have Y:(b:Int)<(d:Int):=by omega
   have d9:(0:Int)<=(b:Int):=by omega
   have i:b<l.length:=by rw [b3.out];exact a4
   obtain⟨d7,e6,Q,rfl,e0,e1,u,s⟩:=(b2.out.ext (A.trans e)).get b i;rw [Nat.zero_add] at u;obtain⟨e8,e7,r,_,_,_⟩:=Zg s;obtain⟨R,S,T,U,V,W,X⟩:=Xj u r;have f:=b9.out _ (List.getElem_mem i) c0 q Q s (by have:=b6.out b i;omega);have n:=b5.out b i;have a2:=H.out (b+1);obtain⟨o,G⟩:=zE (Wy l[b]);obtain⟨e9,E⟩:=zE (Jp (l.take b));obtain⟨b0,t⟩:=zE (Jp (l.take (b+1)));rw [G] at f n;rw [E] at n a1 m;rw [t] at n a2;rw [r] at f;unfold Qd at f;have e5:IntKind.i64.wrap ((c:Int)+(o:Int))=((c+o:Nat):Int):=by rw [IntWalk.i64_in _ oz];omega
   have D:c+o=0+b0:=by omega
   obtain⟨N,y,O⟩:=Zh3 D f t;have e4:c<=40:=by omega
   clear f u s r G g n E t m D;go_wp2_with fail;refine y.out.mono ?_;rintro d6 d5 ⟨rfl,B⟩;have Z:=e.trans B;clear e B R S T U V W X y w;go_wp2;exact⟨⟨b+1,c+o,by omega,tz,rfl,by rw [O.out];exact N.out,Z⟩,nz⟩
  ·obtain rfl:b=d:=by omega
   have Y:¬ (b:Int)<(b:Int):=by omega
   have a5:c=c1:=by rw [m,b4.out];exact I.out.symm
   subst a5;clear I m;go_wp2;go_ret;exact⟨rfl,A.trans e⟩
mutual
theorem Tt:∀ p:Pat,Q05 p
 | .node k pl mi nt mn mx l=>Qa8 k pl mi nt mn mx l (Q2m l)
theorem Q2m:∀ l:List Pat,∀ p∈l,Q05 p
 | [],_,h=>by cases h
 | q::l,p,h=>(List.mem_cons.1 h).elim (fun e=>e ▸ Tt q) (fun h=>Q2m l p h)
end
theorem Hd{w:World}{g off:Nat}{cs:List Value}(h:w.rangeAt g off cs)(a n:Nat):w.rangeAt g (off+a) ((cs.drop a).take n):=fun j u hu=>by
 rw [List.getElem?_take] at hu
 split at hu
 ·rw [List.getElem?_drop] at hu;have:=h (a+j) u hu;rw [Nat.add_assoc];exact this
 ·cases hu
def Qej(n:Nat)(lv:Value)(w:World)(a:Act)(W:World):Prop:=∃(i z:Nat),i<=n/\i<=301/\z<=80/\a.defers=[]/\gS a [0,3,4]=(46,[lv,.int .i64 z,.int .i64 i])/\Ext w W
def Qef(z i G:Nat)(lv:Value)(V2:World)(a:Act)(V:World):Prop:=∃(j z2:Nat),j<=2/\z2<=40*j/\a.defers=[]/\gS a [0,3,4,5,28,29,30]=(46,[lv,.int .i64 z,.int .i64 i,.int .i64 z2,.slice (some ⟨G,0,none⟩) 2 2,.int .i64 2,.int .i64 j])/\Ext V2 V
theorem Qbo{w:World}{ps:Qr}{lo:Option Addr}{n lc:Nat}(d4:Qt w (.slice lo n lc) ps) (d6:ps.length=n) :
  Calls Tryz.prog 80 #[.slice lo n lc] w fun e w'=>∃ z:Nat,z<=80/\e=.returned (.int .i64 (z:Int))/\Ext w w':=by
 have i5:n<=maxLen:=by rw [<-d6];exact d4.1.2.1
 unfold maxLen at i5;have c3:=Zh d4;have g1:=Zh d6;clear d4 d6;go_enter Tryz.func80,Tryz.ntmps80;go_wp2
 refine wp_loop (Qej n (.slice lo n lc) w)
  (fun a _=>((n:Int) - intOf (a.tmps.getD 4 undef)).toNat) ?_ ?_
 ·exact⟨0,0,by omega,by omega,by omega,rfl,rfl,Q0.refl _ _⟩
 rintro⟨i7,_⟩ Q ⟨i,z,j3,j4,f4,d3,c2,e6⟩;subst d3;obtain⟨O,rfl⟩:=Qc c2;clear c2;have b2:=Zh e6;clear e6;by_cases i3:i<n;case neg=>
  obtain rfl:i=n:=by omega
  have g9:¬ (i:Int)<(i:Int):=by omega
  clear c3;go_wp2;go_ret;exact⟨z,f4,rfl,b2.out⟩
 have g9:(i:Int)<(n:Int):=by omega
 have j1:(0:Int)<=(i:Int):=by omega
 by_cases j5:i<=300;case neg=>
  have i0:¬ (i:Int)<=300:=by omega
  clear c3;go_wp2;go_ret;exact⟨z,f4,rfl,b2.out⟩
 have i0:(i:Int)<=300:=by omega
 have i2:i<ps.length:=by rw [g1.out];exact i3
 obtain⟨g,off,j0,f1,j2,b8,d5,d1⟩:=(c3.out.ext b2.out).at i2;simp only [zV] at f1;obtain⟨rfl,f5,rfl⟩:=f1;obtain⟨x,f3⟩:=zE (ps[i]);rw [f3] at b8 d5 d1;obtain⟨k,cs⟩:=x;dsimp only at b8 d5 d1;clear f3 f5 d1 c3;obtain⟨k1,B,J,D,F,r,t,H,o,y,C,L,E,G,s,u,I,p,A,j9,i8,j8,k3,i9,k2,k0,rfl,f9,e0,e1,f8,g7,g6,g2,g3,g4,g5,g0,k4,k5,k6,k7,k8⟩:=Zu d5;have f0:Q.rangeAt g (off+i*18+1) [.int .i64 B,.int .u32 (J:Int),.int .u32 (D:Int),.bool F,.int .i64 r,.int .i64 t,.slice H o y]:=Hd b8 1 7;have f2:Q.rangeAt g (off+i*18+8) [.int .i64 C,.int .u32 (L:Int),.int .u32 (E:Int),.bool G,.int .i64 s,.int .i64 u,.slice I p A]:=Hd b8 8 7;have d9:=Zh f0;have e2:=Zh f2;clear f0 f2 b8 f8 g7 f9 g6 g4 g5 g0;go_upto_region 6 with (fail)
 have j:Ext Q Q.drew:=(Q0.refl _ Q).drew;refine Z8 (S:=fun c=>Ext Q c) [] kz j ?_;intro _;refine tE 0 18 j ?_;refine tE 1 19 j ?_;refine tE 2 20 j ?_;refine tE 3 21 j ?_;refine tkE (i:=4) (d:=22) (v:=?_) rfl (Or.inl ⟨by rfl,?_⟩) j ?_;rotate_left
 ·intro c a1;refine Kr (x:=.tmp 21) ?_ g (off+i*18+1) ?_ [.int .i64 B,.int .u32 (J:Int),.int .u32 (D:Int),.bool F,.int .i64 r,.int .i64 t,.slice H o y] _ (fun a8 O hu=>(show Ext Q c from a1).cell_some (d9.out a8 O hu) id) Tryz.underlying47 rfl kz <;> first | rfl | (simp;done)
 try simp only [Act.put,pq]
 refine tE 5 23 j ?_;refine tE 6 24 j ?_;refine tE 7 25 j ?_;refine tE 8 26 j ?_;refine tkE (i:=9) (d:=27) (v:=?_) rfl (Or.inl ⟨by rfl,?_⟩) j ?_;rotate_left
 ·intro c a1;refine Kr (x:=.tmp 26) ?_ g (off+i*18+8) ?_ [.int .i64 C,.int .u32 (L:Int),.int .u32 (E:Int),.bool G,.int .i64 s,.int .i64 u,.slice I p A] _ (fun a8 O hu=>(show Ext Q c from a1).cell_some (e2.out a8 O hu) id) Tryz.underlying47 rfl kz <;> first | rfl | (simp;done)
 try simp only [Act.put,pq]
 refine tE 12 30 j ?_;obtain⟨f,e9⟩:=zE Q.drew;rw [e9] at j ⊢;clear e9;refine rE [10] ?_;refine Q2.cons rfl (fun K hK=>?_) Q2.nil;refine iw rfl ?_;go_simp;obtain⟨c8,c6⟩:=zE (f.alloc (.cells #[.int .i64 B,.int .u32 (J:Int),.int .u32 (D:Int),.bool F,.int .i64 r,.int .i64 t,.slice H o y,.int .i64 C,.int .u32 (L:Int),.int .u32 (E:Int),.bool G,.int .i64 s,.int .i64 u,.slice I p A] 47));have d2:c8.heap[f.heap.size]?=some (.cells #[.int .i64 B,.int .u32 (J:Int),.int .u32 (D:Int),.bool F,.int .i64 r,.int .i64 t,.slice H o y,.int .i64 C,.int .u32 (L:Int),.int .u32 (E:Int),.bool G,.int .i64 s,.int .i64 u,.slice I p A] 47 (0,0)):=by rw [<-c6];exact Q3 rfl
 have c5:Ext Q c8:=by rw [<-c6];exact j.alloc _
 rw [c6];obtain⟨M,e8⟩:=zE f.heap.size;rw [e8] at d2 ⊢;have c7:=Zh d2;clear c6 d2 e8 j;refine hK.out _ _ c5 (fun _=>?_);clear hK K;try simp only [Act.put,pq]
 refine tE 11 29 c5 ?_;refine Z0 kz ?_ _;have c4:=Zh c5;clear c5 d9 e2
 have f6:∀(c:World),c.heap[M]?=some (.cells #[.int .i64 B,.int .u32 (J:Int),.int .u32 (D:Int),.bool F,.int .i64 r,.int .i64 t,.slice H o y,.int .i64 C,.int .u32 (L:Int),.int .u32 (E:Int),.bool G,.int .i64 s,.int .i64 u,.slice I p A] 47 (0,0))->c.rangeAt M 0 [.int .i64 B,.int .u32 (J:Int),.int .u32 (D:Int),.bool F,.int .i64 r,.int .i64 t,.slice H o y]:=fun c h=>by
  have:=Hd (w:=c) (g:=M) (off:=0) (cs:=[.int .i64 B,.int .u32 (J:Int),.int .u32 (D:Int),.bool F,.int .i64 r,.int .i64 t,.slice H o y,.int .i64 C,.int .u32 (L:Int),.int .u32 (E:Int),.bool G,.int .i64 s,.int .i64 u,.slice I p A]) (fun q O hu=>by have:=cell_of_row _ _ q _ _ _ h;rw [Nat.zero_add,this];simpa using hu) 0 7;exact this
 have f7:∀(c:World),c.heap[M]?=some (.cells #[.int .i64 B,.int .u32 (J:Int),.int .u32 (D:Int),.bool F,.int .i64 r,.int .i64 t,.slice H o y,.int .i64 C,.int .u32 (L:Int),.int .u32 (E:Int),.bool G,.int .i64 s,.int .i64 u,.slice I p A] 47 (0,0))->c.rangeAt M 7 [.int .i64 C,.int .u32 (L:Int),.int .u32 (E:Int),.bool G,.int .i64 s,.int .i64 u,.slice I p A]:=fun c h=>by
  have:=Hd (w:=c) (g:=M) (off:=0) (cs:=[.int .i64 B,.int .u32 (J:Int),.int .u32 (D:Int),.bool F,.int .i64 r,.int .i64 t,.slice H o y,.int .i64 C,.int .u32 (L:Int),.int .u32 (E:Int),.bool G,.int .i64 s,.int .i64 u,.slice I p A]) (fun q O hu=>by have:=cell_of_row _ _ q _ _ _ h;rw [Nat.zero_add,this];simpa using hu) 7 7;exact this
 have e3:=Zh f6;have e4:=Zh f7;clear f6 f7;go_wp2
 refine wp_loop (Qef z i M (.slice (some ⟨g,off,none⟩) n lc) c8)
  (fun a _=>(2 - intOf (a.tmps.getD 30 undef)).toNat) ?_ ?_
 ·exact⟨0,0,by omega,by omega,rfl,rfl,Q0.refl _ _⟩
 rintro⟨i7,_⟩ f ⟨a8,m,j6,j7,d3,c2,e7⟩;subst d3;obtain⟨O,rfl⟩:=Qc c2;clear c2;have P:=Zh e7;clear e7;rcases(by omega:a8=0\/a8=1\/a8=2) with rfl | rfl | rfl
 ·have e5:(0:Int)<2:=by decide
  have b6:=e0.out.ext (c4.out.trans P.out);have b7:f.rangeAt M 0 [.int .i64 B,.int .u32 (J:Int),.int .u32 (D:Int),.bool F,.int .i64 r,.int .i64 t,.slice H o y]:=fun q O hu=>(P.out).cell_some (e3.out _ c7.out q O hu) id;obtain⟨Y,T⟩:=zE (f.alloc (.cells #[.int .i64 B,.int .u32 (J:Int),.int .u32 (D:Int),.bool F,.int .i64 r,.int .i64 t,.slice H o y] 47));have a0:Y.heap[f.heap.size]?=some (.cells #[.int .i64 B,.int .u32 (J:Int),.int .u32 (D:Int),.bool F,.int .i64 r,.int .i64 t,.slice H o y] 47 (0,0)):=by rw [<-T];exact Q3 rfl
  have a2:Ext f Y:=by rw [<-T];exact(Q0.refl _ f).alloc _
  obtain⟨b1,Z⟩:=zE f.heap.size;rw [Z] at a0;have a4:=b6.ext a2;have a6:=Wf a4;have c1:=Fy k.left;have l:=fun(c:World) (a1:Ext Y c) (h:Gt k.left<=40)=>Tt k.left _ c _ (a4.ext a1) h;have b9:=Rx k.left;obtain⟨d8,a7⟩:=zE (Gt k.left);obtain⟨a9,a5⟩:=zE (Wy k.left);obtain⟨b0,c0⟩:=zE (Hs k.left);rw [c0] at a6 c1;rw [a7] at c1 b9;simp only [a7,a5] at l;rw [a5] at b9;obtain⟨U,R,b4,X⟩:=Zh4 a0 a2 a6 l;clear a0 a2 a6 l b6 a4 a7 a5 c0;go_upto_region 9 with ((refine Ja (by rfl) 47 (.tmp 32) rfl M 0 zr _ _ b7 Tryz.underlying47 rfl kz ?_))
  try rw [T]
  try rw [Z]
  clear T Z b7;try simp only [Act.put]
  go_wp2_with (refine wpList_load_row rfl 47 (.tmp 7) rfl b1 rfl _ _ _ _ U.out Tryz.underlying47 rfl kz ?_)
  refine b4.out.mono ?_;rintro e c9 ⟨rfl,a3⟩;have V:=Zh (a3.keep U.out);have N:=Zh a3;clear a3 b4 U;by_cases i1:b0<=40
  ·have d0:(b0:Int)<=40:=by omega
   have d7:d8<=40:=by omega
   have l:=X.out c9 N.out d7;have b3:=Zh l;clear l X
   go_wp2_with (refine wpList_load_row rfl 47 (.tmp 7) rfl b1 rfl _ _ _ _ V.out Tryz.underlying47 rfl kz ?_)
   refine b3.out.mono ?_;rintro e g8 ⟨rfl,b5⟩;have W:=Zh (P.out.trans (R.out.trans (N.out.trans b5)));have i6:IntKind.i64.wrap ((m:Int)+(a9:Int))=((m+a9:Nat):Int):=by rw [IntWalk.i64_in _ oz];omega
   clear b5 b3 V N R;go_wp2;exact⟨⟨1,m+a9,by omega,by omega,tz,rfl,W.out⟩,mz⟩
  ·have d0:¬ (b0:Int)<=40:=by omega
   have W:=Zh (P.out.trans (R.out.trans N.out));clear X V N R;go_wp2;exact⟨⟨1,m,by omega,by omega,tz,rfl,W.out⟩,mz⟩
 ·have e5:(1:Int)<2:=by decide
  have b6:=e1.out.ext (c4.out.trans P.out);have b7:f.rangeAt M 7 [.int .i64 C,.int .u32 (L:Int),.int .u32 (E:Int),.bool G,.int .i64 s,.int .i64 u,.slice I p A]:=fun q O hu=>(P.out).cell_some (e4.out _ c7.out q O hu) id;obtain⟨Y,T⟩:=zE (f.alloc (.cells #[.int .i64 C,.int .u32 (L:Int),.int .u32 (E:Int),.bool G,.int .i64 s,.int .i64 u,.slice I p A] 47));have a0:Y.heap[f.heap.size]?=some (.cells #[.int .i64 C,.int .u32 (L:Int),.int .u32 (E:Int),.bool G,.int .i64 s,.int .i64 u,.slice I p A] 47 (0,0)):=by rw [<-T];exact Q3 rfl
  have a2:Ext f Y:=by rw [<-T];exact(Q0.refl _ f).alloc _
  obtain⟨b1,Z⟩:=zE f.heap.size;rw [Z] at a0;have a4:=b6.ext a2;have a6:=Wf a4;have c1:=Fy k.right;have l:=fun(c:World) (a1:Ext Y c) (h:Gt k.right<=40)=>Tt k.right _ c _ (a4.ext a1) h;have b9:=Rx k.right;obtain⟨d8,a7⟩:=zE (Gt k.right);obtain⟨a9,a5⟩:=zE (Wy k.right);obtain⟨b0,c0⟩:=zE (Hs k.right);rw [c0] at a6 c1;rw [a7] at c1 b9;simp only [a7,a5] at l;rw [a5] at b9;obtain⟨U,R,b4,X⟩:=Zh4 a0 a2 a6 l;clear a0 a2 a6 l b6 a4 a7 a5 c0;go_upto_region 9 with ((refine Ja (by rfl) 47 (.tmp 32) rfl M 7 zr _ _ b7 Tryz.underlying47 rfl kz ?_))
  try rw [T]
  try rw [Z]
  clear T Z b7;try simp only [Act.put]
  go_wp2_with (refine wpList_load_row rfl 47 (.tmp 7) rfl b1 rfl _ _ _ _ U.out Tryz.underlying47 rfl kz ?_)
  refine b4.out.mono ?_;rintro e c9 ⟨rfl,a3⟩;have V:=Zh (a3.keep U.out);have N:=Zh a3;clear a3 b4 U;by_cases i1:b0<=40
  ·have d0:(b0:Int)<=40:=by omega
   have d7:d8<=40:=by omega
   have l:=X.out c9 N.out d7;have b3:=Zh l;clear l X
   go_wp2_with (refine wpList_load_row rfl 47 (.tmp 7) rfl b1 rfl _ _ _ _ V.out Tryz.underlying47 rfl kz ?_)
   refine b3.out.mono ?_;rintro e g8 ⟨rfl,b5⟩;have W:=Zh (P.out.trans (R.out.trans (N.out.trans b5)));have i6:IntKind.i64.wrap ((m:Int)+(a9:Int))=((m+a9:Nat):Int):=by rw [IntWalk.i64_in _ oz];omega
   clear b5 b3 V N R;go_wp2;exact⟨⟨2,m+a9,by omega,by omega,tz,rfl,W.out⟩,mz⟩
  ·have d0:¬ (b0:Int)<=40:=by omega
   have W:=Zh (P.out.trans (R.out.trans N.out));clear X V N R;go_wp2;exact⟨⟨2,m,by omega,by omega,tz,rfl,W.out⟩,mz⟩
 ·have e5:¬ (2:Int)<2:=by decide
  clear e3 e4 c7 e0 e1 g2 g3;by_cases f5:(z:Int)<(m:Int)
  ·have i4:max (z:Int) (m:Int)=(m:Int):=by omega
   go_wp2;exact⟨⟨i+1,m,by omega,by omega,by omega,tz,rfl,b2.out.trans (c4.out.trans P.out)⟩,mz⟩
  ·have i4:max (z:Int) (m:Int)=(z:Int):=by omega
   go_wp2;exact⟨⟨i+1,z,by omega,by omega,by omega,tz,rfl,b2.out.trans (c4.out.trans P.out)⟩,mz⟩
theorem Br{P:Program}(w:World)(c:Array TypeId)(t:TypeId)(k b:IntKind)(x y:Int):(Builtin.min_ c t #[.int k x,.int b y]).run P w=.ok (.int k (min x y)) w:=by
 have a:(if y<x then y else x)=min x y:=by
  rw [Int.min_def]
  split <;> split <;> omega
 simp [Builtin.min_,Builtin.min2,a]
attribute [local go_sem high] Br
def Qea(w:World)(e:Ending)(w':World):Prop:=∃ b:Bool,e=.returned (.bool b)/\Ext w w'
def Qed(_n M:Nat)(lv sv:Value)(w:World)(a:Act)(W:World):Prop:=∃(i:Nat) (z:Int),i<=M/\-2*(i:Int)<=z/\z<=82*(i:Int)/\a.defers=[]/\gS a [0,3,10,11,12]=(60,[lv,.int .i64 z,sv,.int .i64 M,.int .i64 i])/\Ext w W
theorem Lp{w:World}{ps:Qr}{lo:Option Addr}{n lc:Nat}(Y:Qt w (.slice lo n lc) ps) (a0:ps.length=n) (k3:n<=lc) :
  Calls Tryz.prog 38 #[.slice lo n lc] w (Qea w):=by
 have i0:n<=maxLen:=by rw [<-a0];exact Y.1.2.1
 unfold maxLen at i0;have d9:=fun(d1:World) (W:Ext w d1)=>Qbo (Y.ext W) a0 (lc:=lc);obtain⟨a9,f1,b0⟩:=Zh3 Y a0 d9;clear Y a0 d9;obtain⟨e,g5⟩:=zE (min n 71);have j7:e<=n:=by omega
 have g9:min (n:Int) 71=(e:Int):=by omega
 have j6:e<=71:=by omega
 go_enter Tryz.func38,Tryz.ntmps38;go_wp2;refine wp_loop (Qed n e (.slice lo n lc) (.slice lo e lc) w) (fun a _=>((e:Int) - intOf (a.tmps.getD 12 undef)).toNat) ?_ ?_
 ·exact⟨0,0,by omega,by omega,by omega,rfl,(Prod.ext rfl (lE rfl (lE rfl (lE zy rfl)))),Q0.refl _ _⟩
 clear g5 g9;rintro⟨l5,_⟩ l ⟨i,b8,k1,k7,k8,g7,e4,W⟩;subst g7;obtain⟨R,rfl⟩:=Qc e4;clear e4;have k:=Zh W;clear W;by_cases k2:i<e;case pos=>
  have g4:(i:Int)<(e:Int):=by omega
  have j5:(0:Int)<=(i:Int):=by omega
  have g8:i<ps.length:=by rw [f1.out];omega
  obtain⟨g3,j0,j3,d8,k0,a1,Z,b1⟩:=(a9.out.ext k.out).at g8;simp only [zV] at d8;obtain⟨rfl,i9,rfl⟩:=d8;obtain⟨x,e5⟩:=zE (ps[i]);rw [e5] at a1 Z b1;obtain⟨a7,j4⟩:=x;dsimp only at a1 Z b1;clear e5 i9 b1 a9 b0;obtain⟨Q,B,J,D,F,r,t,H,o,y,C,L,E,G,s,u,I,p,z,a3,M,a2,a6,N,a5,a4,rfl,e9,c5,c6,e8,f7,f6,f2,f3,f4,f5,f0,l0,l1,l2,l3,l4⟩:=Zu Z;have A:(l.alloc (.cells #[.string Q,.int .i64 B,.int .u32 (J:Int),.int .u32 (D:Int),.bool F,.int .i64 r,.int .i64 t,.slice H o y,.int .i64 C,.int .u32 (L:Int),.int .u32 (E:Int),.bool G,.int .i64 s,.int .i64 u,.slice I p z,.slice a3 M a2,.slice a6 N a5,.int .i64 a4] 50)).rangeAt l.heap.size 0 #[.string Q,.int .i64 B,.int .u32 (J:Int),.int .u32 (D:Int),.bool F,.int .i64 r,.int .i64 t,.slice H o y,.int .i64 C,.int .u32 (L:Int),.int .u32 (E:Int),.bool G,.int .i64 s,.int .i64 u,.slice I p z,.slice a3 M a2,.slice a6 N a5,.int .i64 a4].toList:=fun j R hu=>by rw [Nat.zero_add];rw [cell_of_row _ _ _ _ _ _ (Q3 rfl),<-Array.getElem?_toList];exact hu
  have O:Ext l (l.alloc (.cells #[.string Q,.int .i64 B,.int .u32 (J:Int),.int .u32 (D:Int),.bool F,.int .i64 r,.int .i64 t,.slice H o y,.int .i64 C,.int .u32 (L:Int),.int .u32 (E:Int),.bool G,.int .i64 s,.int .i64 u,.slice I p z,.slice a3 M a2,.slice a6 N a5,.int .i64 a4] 50)):=(Q0.refl _ l).alloc _;obtain⟨c,b2⟩:=zE (l.alloc (.cells #[.string Q,.int .i64 B,.int .u32 (J:Int),.int .u32 (D:Int),.bool F,.int .i64 r,.int .i64 t,.slice H o y,.int .i64 C,.int .u32 (L:Int),.int .u32 (E:Int),.bool G,.int .i64 s,.int .i64 u,.slice I p z,.slice a3 M a2,.slice a6 N a5,.int .i64 a4] 50));rw [b2] at A O;obtain⟨V,b3⟩:=zE l.heap.size;rw [b3] at A;have d7:c.rangeAt V 1 [.int .i64 B,.int .u32 (J:Int),.int .u32 (D:Int),.bool F,.int .i64 r,.int .i64 t,.slice H o y]:=Hd A 1 7;have e1:c.rangeAt V 8 [.int .i64 C,.int .u32 (L:Int),.int .u32 (E:Int),.bool G,.int .i64 s,.int .i64 u,.slice I p z]:=Hd A 8 7;have b4:=fun(b:World) (m:Ext c b)=>Wf (c5.out.ext (O.trans m));have b5:=fun(b:World) (m:Ext c b)=>Wf (c6.out.ext (O.trans m));have e2:Hs a7.left<=41:=by rw [Fy];omega
  have e3:Hs a7.right<=41:=by rw [Fy];omega
  obtain⟨e6,d3⟩:=zE (Hs a7.left);obtain⟨e7,d4⟩:=zE (Hs a7.right);simp only [d3] at b4 e2;simp only [d4] at b5 e3;obtain⟨b6,i4⟩:=zE (e6+e7);obtain⟨b7,i5⟩:∃ q:Int,(b6:Int) - 2=q:=⟨_,rfl⟩;obtain⟨a8,i6⟩:∃ q:Int,b8+b7=q:=⟨_,rfl⟩;have i1:IntKind.i64.wrap ((e6:Int)+(e7:Int))=(b6:Int):=by rw [IntWalk.i64_in _ oz];omega
  have i2:IntKind.i64.wrap ((b6:Int) - 2)=b7:=by rw [IntWalk.i64_in _ oz];omega
  have i3:IntKind.i64.wrap (b8+b7)=a8:=by rw [IntWalk.i64_in _ oz];omega
  have i7:-2*((i:Int)+1)<=a8:=by omega
  have i8:a8<=82*((i:Int)+1):=by omega
  have k4:IntKind.i64.wrap ((i:Int)+1)=(i:Int)+1:=IntWalk.i64_in _ oz;obtain⟨c4,c7,b9,c0,T,c1,c9,c3⟩:=Zh8 d7 e1 b4 b5 A O b2 a1;have d0:=Zh b3;clear d7 e1 a1 b4 b5 A O b2 b3 d3 d4 i4 i5 i6 e8 f7 e9 f6 f2 f3 f4 f5 f0 c5 c6 Z e2 e3;go_upto_region 5 with (refine Ja (by rfl) 50 (.tmp 14) rfl g3 (j0+i*18) zr _ _ c3.out Tryz.underlying50 rfl kz ?_)
  rw [c9.out,d0.out];clear c9 d0 c3;have f:Ext c c.drew:=(Q0.refl _ c).drew;refine Z8 (S:=fun b=>Ext c b) [] kz f ?_;intro _;obtain⟨d1,d6⟩:=zE c.drew;rw [d6] at f ⊢;clear d6;refine tE 0 16 f ?_;refine tE 1 17 f ?_;refine tkE (i:=2) (d:=18) (v:=?_) rfl (Or.inl ⟨by rfl,?_⟩) f ?_;rotate_left
  ·intro b m;refine Kr (x:=.tmp 17) ?_ V 1 ?_ [.int .i64 B,.int .u32 (J:Int),.int .u32 (D:Int),.bool F,.int .i64 r,.int .i64 t,.slice H o y] _ (fun j R hu=>(show Ext c b from m).cell_some (c4.out j R hu) id) Tryz.underlying47 rfl kz <;> first | rfl | (simp;done)
  try simp only [Act.put,pq]
  refine tE 4 20 f ?_;refine tkE (i:=5) (d:=21) (v:=?_) rfl (Or.inl ⟨by rfl,?_⟩) f ?_;rotate_left
  ·intro b m;refine Kr (x:=.tmp 20) ?_ V 8 ?_ [.int .i64 C,.int .u32 (L:Int),.int .u32 (E:Int),.bool G,.int .i64 s,.int .i64 u,.slice I p z] _ (fun j R hu=>(show Ext c b from m).cell_some (c7.out j R hu) id) Tryz.underlying47 rfl kz <;> first | rfl | (simp;done)
  try simp only [Act.put,pq]
  refine rE [3] ?_;refine Q2.cons rfl (fun K hK=>?_) Q2.nil;refine iw rfl ?_;go_simp;refine(b9.out _ f).mono ?_;rintro d2 f8 ⟨rfl,P⟩;have X:Ext c f8:=f.trans P;clear P f;refine hK _ _ X (fun _=>?_);clear hK K;try simp only [Act.put,pq]
  refine rE [6] ?_;refine Q2.cons rfl (fun K hK=>?_) Q2.nil;refine iw rfl ?_;go_simp;refine(c0.out _ X).mono ?_;rintro d2 f9 ⟨rfl,d5⟩;have g:Ext c f9:=X.trans d5;clear d5 X;refine hK _ _ g (fun _=>?_);clear hK K;try simp only [Act.put,pq]
  refine tE 7 23 g ?_;refine tE 8 24 g ?_;refine tE 9 25 g ?_;refine tE 10 3 g ?_;refine Z0 kz ?_ _;have U:=Zh (c1.out.trans g);have g0:=g.cell_some (T.out 0 _ rfl) id;have g1:=g.cell_some (T.out 15 _ rfl) id;have g2:=g.cell_some (T.out 16 _ rfl) id;try simp only [Nat.zero_add,Nat.add_zero] at g0 g1 g2
  clear g b9 c0 c4 c7 c1 T i1 i2 i3;by_cases g6:(Q.size:Int) > 1000
  ·go_wp2;go_ret;exact⟨false,rfl,k.out.trans U.out⟩
  by_cases j8:(M:Int) > 50
  ·go_wp2;go_ret;exact⟨false,rfl,k.out.trans U.out⟩
  by_cases j9:(N:Int) > 50
  ·go_wp2;go_ret;exact⟨false,rfl,k.out.trans U.out⟩
  go_wp2;exact⟨⟨i+1,a8,by omega,by push_cast;exact i7,by push_cast;exact i8,tz,rfl,k.out.trans U.out⟩,mz⟩
 have g4:¬ (i:Int)<(e:Int):=by omega
 clear a9;by_cases g6:(n:Int)<=70;case neg=>
  go_wp2;go_ret;exact⟨false,rfl,k.out⟩
 by_cases k9:b8<=60;case neg=>
  go_wp2;go_ret;exact⟨_,rfl,k.out⟩
 have e0:=b0.out l k.out;have c8:=Zh e0;clear e0 b0;go_wp2_with fail;refine c8.out.mono ?_;rintro d2 j2 ⟨j1,k5,rfl,P⟩;have c2:=Zh (k.out.trans P);clear P c8;by_cases k6:(j1:Int)<=4
 ·go_wp2;go_ret;exact⟨_,rfl,c2.out⟩
 ·go_wp2;go_ret;exact⟨_,rfl,c2.out⟩
def Hz(sh i:Nat):Nat × Nat:=((i+sh) % 64,63 - (i+sh) % 64)
def Vc(n sh:Nat):Wd:=(List.range n).map (Hz sh)
theorem Q8p(n sh:Nat):Vc (n+1) sh=Vc n sh++[Hz sh n]:=by unfold Vc;rw [List.range_succ,List.map_append];rfl
theorem Ku(n sh:Nat):(Vc n sh).length=n:=by simp [Vc]
theorem Q4w(sh i:Nat):Qh (Hz sh i):=by
 have:(i+sh) % 64<64:=Nat.mod_lt _ zd;unfold Hz Qh;dsimp only;omega
theorem Qd6(n sh:Nat):Zn (Vc n sh):=fun s hs=>by
 obtain⟨i,_,rfl⟩:=List.mem_map.1 hs;exact Q4w sh i
theorem Qeg:∀ q:Nat,q<64->63 &&& (4294967295 - q)=63 - q:=by decide
theorem N8(w:World){n sh:Nat}(a0:n<=64)(a2:sh<256) :
  Calls Tryz.prog 29 #[.int .i64 (n:Int),.int .u8 (sh:Int)] w fun e w'=>∃ ao c,e=.returned (.slice ao n c)/\Qk w' (.slice ao n c) (Vc n sh)/\Ext w w':=by
 obtain⟨i,E⟩:=zE w.heap.size;have x:=Zh E;clear E;go_enter Tryz.func29,Tryz.ntmps29;go_wp2
 refine wp_loop (fun a g=>∃(d:Nat) (ao:Option Addr) (m:Nat),d<=n/\a.defers=[]/\gS a [1,5,8,9]=(27,[.int .u8 (sh:Int),.slice ao d m,.int .i64 n,.int .i64 d])/\g.ownsRow i 26 2 (.slice ao d m) d (Qx (Vc d sh))/\Ext w g)
  (fun a _=>n - (intOf (a.tmps.getD 9 undef)).toNat) ?_ ?_
 ·exact⟨0,none,0,by omega,rfl,rfl,World.ownsRow_nil _ _ _ _,Q0.refl _ _⟩
 rintro⟨a5,_⟩ g ⟨d,ao,m,Y,R,J,A,y⟩;subst R;obtain⟨u,rfl⟩:=Qc J;clear J;have p:=Zh A;have l:=Zh y;clear A y;by_cases Z:d<n;case neg=>
  obtain rfl:d=n:=by omega
  have Q:¬ (d:Int)<(d:Int):=by omega
  go_wp2;go_ret;refine⟨ao,m,rfl,?_,l.out⟩;have k:=Qk.own (u:=Vc d sh) (by rw [Ku];exact p.out) (Qd6 d sh);rw [Ku] at k;exact k
 have Q:(d:Int)<(n:Int):=by omega
 have W:(0:Int)<=(d:Int):=by omega
 have a3:IntKind.i64.wrap (sh:Int)=(sh:Int):=IntWalk.i64_in _ oz;have a4:IntKind.i64.wrap ((d:Int)+(sh:Int))=(d:Int)+(sh:Int):=IntWalk.i64_in _ oz;obtain⟨f,H⟩:=zE ((d+sh) % 64);have S:f<64:=by omega
 have a1:((d:Int)+(sh:Int)) % 64=(f:Int):=by omega
 obtain⟨j,r⟩:=zE (63 - f);have X:bits .andNot .u32 63 (f:Int)=(j:Int):=by
  have k:=u32_andNot_nat 63 f zd oz;rw [Qeg f S,r] at k;exact k
 have C:Vc (d+1) sh=Vc d sh++[(f,j)]:=by rw [Q8p];unfold Hz;rw [H,r]
 have F:i<=g.heap.size:=by have:=l.out.size;rw [x.out] at this;exact this
 have o:Ext g (g.alloc (.cells #[.int .u32 (f:Int),.int .u32 (j:Int)] 26)):=(Q0.refl _ g).alloc _;have I:=Rd.of_own (World.ownsRow_lit (base:=i) (e:=26) (size:=2) g #[.int .u32 (f:Int),.int .u32 (j:Int)] 1 F zd rfl);have G:=Q6 p.out o;have T:=o.size;obtain⟨O,t,q,s⟩:=Zh4 C I G (l.out.trans o);have K:i<=(g.alloc (.cells #[.int .u32 (f:Int),.int .u32 (j:Int)] 26)).heap.size:=by omega
 have v:=Zh K;clear C I G o T K F H r
 go_wp2_with (at_builtin;refine X4 rfl (.tmp 18) (.tmp 23) 23 rfl i 26 _ 2 8 Tryz.underlying23 @Yt rfl zd _ _ _ rfl q.out _ 1 _ _ rfl t.out (by intro u L;simp at L;rcases L with rfl | rfl <;> rfl) ?c3 ?c4 v.out ?_)
 case c3=>unfold maxLen;omega
 case c4=>omega
 intro V U P B D _;have z:Ext w P:=s.out.after D (fun b hb e=>by have:=(q.out.lt b e).1;have:=x.out;omega);have N:=Zh B;have M:=Zh z;clear B z D p q s t v l;go_wp2;exact⟨⟨d+1,V,U,by omega,by first | trivial | rfl,rfl,by have:=N.out;rw [O.out];simpa [Qx] using this,M.out⟩,nz⟩
attribute [local go_sem high] Br
def u8V(l:List Nat):List Value:=l.map fun(x:Nat)=>Value.int .u8 (x:Int)
theorem Qc0(l:List Nat){k:Nat}(h:k<l.length):(u8V l).getD k undef=.int .u8 (l[k]:Nat):=by rw [List.getD_eq_getElem?_getD];simp [u8V,h]
def V8(l:List Nat)(most:Nat):Wd:=(l.take most).map fun k=>Hz 0 (k % 8)
theorem Q3r{l:List Nat}{k:Nat}(h:k<l.length):(l.take (k+1)).map (fun k=>Hz 0 (k % 8))=(l.take k).map (fun k=>Hz 0 (k % 8))++[Hz 0 (l[k] % 8)]:=by
 rw [List.take_succ_eq_append_getElem h,List.map_append];rfl
theorem Q58(l:List Nat)(most:Nat):Zn (V8 l most):=fun s hs=>by
 obtain⟨i,_,rfl⟩:=List.mem_map.1 hs;exact Q4w 0 _
theorem Q9w{w:World}{base:Nat}{e:TypeId}{ao:Option Addr}{n c:Nat}{u:Wd}(a:u.length=n)(h:w.ownsRow base e 2 (.slice ao n c) n (Qx u)) (b:Zn u):Qk w (.slice ao n c) u:=by subst a;exact Qk.own h b
theorem T3{w:World}{ao:Option Addr}{N cap:Nat}{l:List Nat}(C:Rd w (.slice ao N cap) N 1 (u8V l)) (A:l.length=N) (o:∀ x∈l,x<256) (e6:N<=cap) {mo:Nat} (e9:mo<=100) :
  Calls Tryz.prog 28 #[.slice ao N cap,.int .i64 (mo:Int)] w fun e w'=>∃ v,e=.returned v/\Qk w' v (V8 l mo)/\Ext w w':=by
 have d0:=C.2.1;unfold maxLen at d0;obtain⟨d,T⟩:=zE (min N mo);have d2:min (N:Int) (mo:Int)=(d:Int):=by omega
 have e5:d<=N:=by omega
 have e4:d<=100:=by omega
 have a0:V8 l mo=(l.take d).map (fun c=>Hz 0 (c % 8)):=by unfold V8;congr 1;rw [<-T,<-A,Nat.min_comm];exact(List.take_eq_take_min)
 obtain⟨b8,L,c1,J⟩:=Zh4 C A o a0;clear C A o a0 T;go_enter Tryz.func28,Tryz.ntmps28;go_wp2_with fail;refine(N8 w (n:=8) (sh:=0) zd zd).mono ?_;rintro e H ⟨d5,d4,rfl,c9,R⟩;obtain⟨_,_,j,a2,_⟩:=c9;cases j;obtain⟨i,X⟩:=zE H.heap.size;obtain⟨b7,b5,P⟩:=Zh3 a2 R X;clear a2 R X;go_wp2;clear d2
 refine wp_loop (fun a g=>∃(c:Nat) (E:Option Addr) (D:Nat),c<=d/\a.defers=[]/\gS a [5,6,15,16,17]=(31,[.slice d5 8 d4,.slice E c D,.slice ao d cap,.int .i64 d,.int .i64 c])/\g.ownsRow i 26 2 (.slice E c D) c (Qx ((l.take c).map (fun c=>Hz 0 (c % 8))))/\Ext H g)
  (fun a _=>d - (intOf (a.tmps.getD 17 undef)).toNat) ?_ ?_
 ·exact⟨0,none,0,by omega,rfl,rfl,World.ownsRow_nil _ _ _ _,Q0.refl _ _⟩
 rintro⟨f5,_⟩ g ⟨c,E,D,e7,c6,a7,U,z⟩;subst c6;obtain⟨d8,rfl⟩:=Qc a7;clear a7;obtain⟨u,p,K⟩:=Zh3 U z (b5.out.trans z);clear U z;by_cases e8:c<d;case neg=>
  obtain rfl:c=d:=by omega
  have c5:¬ (c:Int)<(c:Int):=by omega
  go_wp2;go_ret;refine⟨_,rfl,?_,K.out⟩;have d1:(V8 l mo).length=c:=by rw [J.out,List.length_map,List.length_take,L.out];omega
  have Q:=u.out;rw [<-J.out] at Q;exact Q9w d1 Q (Q58 l mo)
 have c5:(c:Int)<(d:Int):=by omega
 have e3:(0:Int)<=(c:Int):=by omega
 have a3:c<N:=by omega
 have t:c<l.length:=by rw [L.out];exact a3
 obtain⟨e1,f3,d9,j,c7,B⟩:=Z7 (b8.out.ext K.out) a3;simp only [zV,true_and] at j;obtain⟨rfl,rfl⟩:=j;rw [Qc0 l t] at B;have a9:=c1.out _ (List.getElem_mem t);have m:=Q3r t;obtain⟨x,b0⟩:=zE (l[c]);rw [b0] at B a9 m;obtain⟨f,b1⟩:=zE (x % 8);rw [b1] at m;have b2:f<8:=by omega
 have f2:(x:Int) % 8=(f:Int):=by omega
 have f0:(0:Int)<=(f:Int):=by omega
 have f1:(f:Int)<8:=by omega
 have b3:f<(Vc 8 0).length:=by rw [Ku];exact b2
 have Z:=(b7.out.ext p.out).at b3;rw [Ku] at Z;obtain⟨e2,f4,e0,j,c8,q,r⟩:=Z;simp only [zV,true_and] at j;obtain⟨rfl,rfl⟩:=j;have a1:(Vc 8 0).getD f (0,0)=Hz 0 f:=by unfold Vc;rw [List.getD_eq_getElem?_getD];simp [b2]
 rw [a1] at q r;obtain⟨⟨F,G⟩,a5⟩:=zE (Hz 0 f);rw [a5] at q r m;dsimp only at q r;have Y:i<=g.heap.size:=by have:=p.out.size;rw [P.out] at this;exact this
 have k:Ext g (g.alloc (.cells #[.int .u32 (F:Int),.int .u32 (G:Int)] 26)):=(Q0.refl _ g).alloc _;have a6:=Rd.of_own (World.ownsRow_lit (base:=i) (e:=26) (size:=2) g #[.int .u32 (F:Int),.int .u32 (G:Int)] 1 Y zd rfl);have a4:=Q6 u.out k;have d3:=k.size;obtain⟨c0,M,y,I,b4⟩:=Zh5 m a6 a4 (p.out.trans k) k;have a8:i<=(g.alloc (.cells #[.int .u32 (F:Int),.int .u32 (G:Int)] 26)).heap.size:=by omega
 have O:=Zh a8;clear m a6 a4 k d3 a8 Y b0 b1 a5 a1 b3 t a9 c7 c8
 go_wp2_with (at_builtin;refine X4 rfl (.tmp 21) (.tmp 27) 23 rfl i 26 _ 2 8 Tryz.underlying23 @Yt rfl zd _ _ _ rfl y.out _ 1 _ _ rfl M.out (by intro d8 o;simp at o;rcases o with rfl | rfl <;> rfl) ?c3 ?c4 O.out ?_)
 case c3=>unfold maxLen;omega
 case c4=>omega
 intro d7 d6 c2 V W _;have S:Ext H c2:=I.out.after W (fun b hb e=>by have:=(y.out.lt b e).1;have:=P.out;omega);have b9:=Zh V;have b6:=Zh S;clear V S W u y I M O p q r B b4;go_wp2;exact⟨⟨c+1,d7,d6,by omega,by first | trivial | rfl,rfl,by have:=b9.out;rw [c0.out];simpa [Qx] using this,b6.out⟩,nz⟩
end Go.Proofs.YtejenndedjabhaaGreatDoor
