/- PLAIN: -/
import Derived.Test.YtfdlhlghcbeblaaGreatDoorX06
set_option maxRecDepth 100000
set_option maxHeartbeats 16000000
namespace Go.Proofs.YtfdlhlghcbeblaaGreatDoor
open Go.RowKit Go.Ab
mutual
def Q81:Pat->Prop
 | .node k pl mi nt mn mx l=>X4 (.node k pl mi nt mn mx l)=0/\Q5w l
def Q5w:List Pat->Prop
 | []=>True
 | p::l=>Q81 p/\Q5w l
end
mutual
def Q49:Pat->Pat
 | .node k pl mi nt mn mx l=>.node (if k=2 then 6 else if k=6 then 2 else k) pl mi nt mn mx (if k=3 then(Q4u l).reverse else Q4u l)
def Q4u:List Pat->List Pat
 | []=>[]
 | p::l=>Q49 p::Q4u l
end
def Q9o(k:Int)(pl mi:Nat)(nt:Bool)(mn mx:Int)(n:Nat):Int:=
 if k<0\/6<k then 2
 else if k≠1/\(pl≠0\/mi≠0\/nt=true) then 2
 else if k≠3/\k≠4/\k≠5/\n≠0 then 2
 else if k≠5/\(mn≠0\/mx≠0) then 2
 else if k=5/\(n≠1\/mn<0\/32<mn\/(mx≠-1/\(mx<mn\/32<mx))) then 2
 else if Z6 pl mi=true then 0 else 14
def Qag(n:Nat)(X:Qi):Qi:=fun a b=>decide (a<=n) && decide (b<=n) && X (n - b) (n - a)
attribute [local go_sem] Oper.semAt_some Z8 Qp
def okE(pl mi:Nat):Int:=if Z6 pl mi=true then 0 else 14
section
variable (pl mi:Nat) (nt:Bool) (mn mx:Int) (n:Nat)
end
def Q9i(p:Pat):Prop:=∀(K:Nat->Prop) (w:World) (cs:List Value) (n:Nat),Qm K w p cs->n<=40 ->
 Calls Tryz.prog 204 #[.agg cs.toArray,.int .i64 n] w fun e w'=>e=.returned (.tuple #[.int .i64 ((Yv p n).1:Int),.int .i64 (Yv p n).2])/\Ext w w'
theorem Pa(p:Pat)(l:List Pat)(n:Nat):Ul (p::l) n=if n<=40 then Ul l (J4 p n) else n:=by rw [Ul]
theorem Q6i(p:Pat)(n:Nat):J4 p n=Ul p.l (n+1):=by cases p;rw [J4];rfl
theorem Q6f{p:Pat}{n:Nat}(h:n<=40):J4 p n<=41:=(Mr p n [] h).1.1
def Fg(p:Pat):Prop:=∀(K:Nat->Prop) (w:World) (cs:List Value) (n:Nat),Qm K w p cs->n<=40 ->
 Calls Tryz.prog 141 #[.agg cs.toArray,.int .i64 n] w fun e w'=>e=.returned (.int .i64 (J4 p n:Int))/\Ext w w'
theorem Ct(k:Int)(pl mi:Nat)(nt:Bool)(mn mx:Int)(l:List Pat)(T:∀ p∈l,Fg p):Fg (.node k pl mi nt mn mx l):=by
 intro Z f b9 n P c6;unfold Qm at P;obtain⟨q,r,rfl,b5,b4,M,K,L⟩:=P;have O:l.length<=maxLen:=Nat.le_trans M K;unfold maxLen at O;have v:=Q6i (.node k pl mi nt mn mx l) n;change J4 (.node k pl mi nt mn mx l) n=Ul l (n+1) at v;obtain⟨o,J⟩:=zE (J4 (.node k pl mi nt mn mx l) n);rw [J] at v ⊢;obtain⟨d,x⟩:=zE l.length;obtain⟨G,V,Y,H⟩:=Zh4 x L T v;unfold Qd;rw [x] at O ⊢;clear L T x M K b5 b4 J v;go_enter Tryz.func141,Tryz.ntmps141;go_wp2;have e:(f.alloc (.cells #[.int .i64 k,.int .u32 (pl:Int),.int .u32 (mi:Int),.bool nt,.int .i64 mn,.int .i64 mx,.slice q d r] 98)).heap[f.heap.size]?=some (.cells #[.int .i64 k,.int .u32 (pl:Int),.int .u32 (mi:Int),.bool nt,.int .i64 mn,.int .i64 mx,.slice q d r] 98 (0,0)):=Q5 rfl;have s:Ext f (f.alloc (.cells #[.int .i64 k,.int .u32 (pl:Int),.int .u32 (mi:Int),.bool nt,.int .i64 mn,.int .i64 mx,.slice q d r] 98)):=(Q0.refl _ f).alloc _;generalize (f.alloc (.cells #[.int .i64 k,.int .u32 (pl:Int),.int .u32 (mi:Int),.bool nt,.int .i64 mn,.int .i64 mx,.slice q d r] 98))=b6 at e s ⊢;generalize f.heap.size=U at e ⊢;have X:=Zh e;clear e
 refine wp_loop (fun a w=>∃(b c:Nat),b<=d/\c<=41/\Ul (l.drop b) c=o/\a.defers=[]/\gS a [2,5,6]=(28,[.pointer (some ⟨U,0,none⟩),.int .i64 c,.int .i64 b])/\Ext b6 w)
  (fun a _=>d - (intOf (a.tmps.getD 6 undef)).toNat) ?_ ?_
 ·exact⟨0,n+1,by omega,by omega,H.out.symm,rfl,(Prod.ext rfl (lE rfl (lE (by go_num) rfl))),Q0.refl _ _⟩
 clear H;rintro⟨d0,_⟩ w ⟨b,c,c4,c5,R,b2,Q,g⟩;subst b2;obtain⟨d1,rfl⟩:=Z0 Q;clear Q;have i:=Zh R;clear R;have e:=g.keep X.out;have a8:=zR e;by_cases b3:b<d
 ·have a9:(b:Int)<(d:Int):=by omega
  have A:b<l.length:=by rw [G.out];exact b3
  have t:l.drop b=l[b]::l.drop (b+1):=List.drop_eq_getElem_cons A;by_cases u:c<=40
  ·have b0:(c:Int)<=40:=by omega
   obtain⟨c1,c7,a0,rfl,c2,c3,D,C⟩:=(V.out.ext (s.trans g)).get b A;rw [Nat.zero_add] at D;obtain⟨c9,c8,y,_,_,_⟩:=Y2 C;obtain⟨a1,a2,a3,a4,a5,a6,a7⟩:=Vx D y;have m:=Y.out _ (List.getElem_mem A) Z w a0 c C u;have B:Ul (l.drop (b+1)) (J4 l[b] c)=o:=by
    have:=i.out;rw [t,Pa,if_pos u] at this;exact this
   have N:=Q6f (p:=l[b]) u;obtain⟨b7,S⟩:=zE (J4 l[b] c);rw [S] at m B N;rw [y] at m;unfold Qd at m;have F:=Zh m;have W:=Zh B;clear m D C y t B S e;go_wp2_with fail;refine F.out.mono ?_;rintro c0 b8 ⟨rfl,I⟩;have b1:=g.trans I;clear g I a1 a2 a3 a4 a5 a6 a7 F a8;go_wp2;exact⟨⟨b+1,b7,by omega,N,W.out,tz,rfl,b1⟩,nz⟩
  ·have b0:¬ (c:Int)<=40:=by omega
   have E:c=o:=by
    have:=i.out;rw [t,Pa,if_neg u] at this;exact this
   subst E;clear i t;go_wp2;go_ret;exact⟨rfl,s.trans g⟩
 ·obtain rfl:b=d:=by omega
  have a9:¬ (b:Int)<(b:Int):=by omega
  have E:c=o:=by
   have:=i.out;rw [List.drop_of_length_le (by rw [G.out];exact Nat.le_refl _),Ul] at this;exact this
  subst E;clear i;go_wp2;go_ret;exact⟨rfl,s.trans g⟩
mutual
theorem Nv:∀ p:Pat,Fg p
 | .node k pl mi nt mn mx l=>Ct k pl mi nt mn mx l (Ma l)
theorem Ma:∀ l:List Pat,∀ p∈l,Fg p
 | [],_,h=>by cases h
 | q::l,p,h=>(List.mem_cons.1 h).elim (fun e=>e ▸ Nv q) (fun h=>Ma l p h)
end
theorem Ft{K:Nat->Prop}{w:World}{p:Pat}{cs:List Value}(g:Qm K w p cs) :
  Calls Tryz.prog 91 #[.agg cs.toArray] w fun e w'=>e=.returned (.int .i64 (Kq p:Int))/\Ext w w':=by
 have d:Ext w (w.alloc (.cells cs.toArray 98)):=(Q0.refl _ w).alloc _;have a:=Nv p K _ cs 0 (g.ext d) oz;rw [Q2l] at a;obtain⟨n,m,f,_,_,_⟩:=Y2 g;rw [f] at a ⊢;unfold Qd at a ⊢;obtain⟨o,i⟩:=zE (Kq p);rw [i] at a ⊢;have j:=Zh a;clear a f d i;go_enter Tryz.func91,Tryz.ntmps91;go_wp2_with fail;refine j.out.mono ?_;rintro e l ⟨rfl,c⟩;have k:Ext w l:=Q0.trans ((Q0.refl _ w).alloc _) c;clear c;go_wp2;go_ret;exact⟨rfl,k⟩
def Ef(n:Nat)(f:Nat->Nat):List Value:=(List.range n).map fun a=>Value.int .u64 (f a:Int)
theorem Q4y{n a:Nat}(f:Nat->Nat)(h:a<n):(Ef n f)[a]?=some (.int .u64 (f a:Int)):=by simp [Ef,h]
def Qal(f:Nat->Nat)(k v:Nat):Nat->Nat:=fun i=>if i=k then v else f i
def Gy(w:World)(u:Value)(n:Nat)(f:Nat->Nat):Prop:=∃ g cap,u=.slice (some ⟨g,0,none⟩) n cap/\g<w.heap.size/\∀ a,a<n->w.cell? ⟨g,a,none⟩=some (.int .u64 (f a:Int))
theorem Gy.keep{S:Nat->Prop}{A B:World}{u:Value}{n:Nat}{f:Nat->Nat}(h:Gy A u n f)(b:Q0 S A B)(d:∀ g,u.ownBlock=some g->¬ S g):Gy B u n f:=by
 obtain⟨g,c,rfl,i,e⟩:=h;exact⟨g,c,rfl,Nat.lt_of_lt_of_le i b.size,fun a ha=>b.cell_some (e a ha) (d g rfl)⟩
theorem Gy.ext{A B:World}{u:Value}{n:Nat}{f:Nat->Nat}(h:Gy A u n f)(ht:Ext A B):Gy B u n f:=h.keep ht fun _ _ h=>h
theorem Gy.own{w:World}{base:Nat}{t:TypeId}{u:Value}{n:Nat}{f:Nat->Nat}(h:w.ownsRow base t 1 u (n+1) (Ef (n+1) f)):Gy w u (n+1) f:=by
 rcases h.2 with ⟨_,e⟩ | ⟨c,b,g,rfl,_,d,_⟩
 ·simp at e
 ·exact⟨c,b,rfl,(Array.getElem?_eq_some_iff.1 d).1,fun a ha=>by rw [h.cellAt a oz,Q4y _ ha]⟩
def Q9a(n:Nat)(f g:Nat->Nat)(e:Ending):Prop:=∃ b,e=.returned (.bool b)/\(b=true↔∀ a,a<n+1->f a=g a)
end Go.Proofs.YtfdlhlghcbeblaaGreatDoor
