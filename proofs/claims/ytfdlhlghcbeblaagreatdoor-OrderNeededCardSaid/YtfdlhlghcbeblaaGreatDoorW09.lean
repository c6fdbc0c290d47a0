/- PLAIN: -/
import Derived.Test.YtfdlhlghcbeblaaGreatDoorW04
set_option maxRecDepth 100000
set_option maxHeartbeats 16000000
namespace Go.Proofs.YtfdlhlghcbeblaaGreatDoor
open Go.RowKit Go.Ab
mutual
def Qb9:Pat->Prop
 | .node k pl mi nt mn mx l=>Xu (.node k pl mi nt mn mx l)=0/\Q9g l
def Q9g:List Pat->Prop
 | []=>True
 | p::l=>Qb9 p/\Q9g l
end
mutual
def Q8o:Pat->Pat
 | .node k pl mi nt mn mx l=>.node (if k=2 then 6 else if k=6 then 2 else k) pl mi nt mn mx (if k=3 then(Q7c l).reverse else Q7c l)
def Q7c:List Pat->List Pat
 | []=>[]
 | p::l=>Q8o p::Q7c l
end
def Qe9(k:Int)(pl mi:Nat)(nt:Bool)(mn mx:Int)(n:Nat):Int:=
 if k<0\/6<k then 2
 else if k≠1/\(pl≠0\/mi≠0\/nt=true) then 2
 else if k≠3/\k≠4/\k≠5/\n≠0 then 2
 else if k≠5/\(mn≠0\/mx≠0) then 2
 else if k=5/\(n≠1\/mn<0\/32<mn\/(mx≠-1/\(mx<mn\/32<mx))) then 2
 else if Zd pl mi=true then 0 else 14
def Qe6(n:Nat)(X:Qn):Qn:=fun a b=>decide (a<=n) && decide (b<=n) && X (n - b) (n - a)
attribute [local go_sem] Oper.semAt_some Z1 Qk
def okE(pl mi:Nat):Int:=if Zd pl mi=true then 0 else 14
section
variable (pl mi:Nat) (nt:Bool) (mn mx:Int) (n:Nat)
end
def Qd9(p:Pat):Prop:=∀(K:Nat->Prop) (w:World) (cs:List Value) (n:Nat),Qr K w p cs->n<=40 ->
 Calls Tryz.prog 204 #[.agg cs.toArray,.int .i64 n] w fun e w'=>e=.returned (.tuple #[.int .i64 ((Xa p n).1:Int),.int .i64 (Xa p n).2])/\Ext w w'
theorem T9(p:Pat)(l:List Pat)(n:Nat):Vh (p::l) n=if n<=40 then Vh l (U3 p n) else n:=by rw [Vh]
theorem Qas(p:Pat)(n:Nat):U3 p n=Vh p.l (n+1):=by cases p;rw [U3];rfl
theorem Q9v{p:Pat}{n:Nat}(h:n<=40):U3 p n<=41:=(Rt p n [] h).1.1
def Mp(p:Pat):Prop:=∀(K:Nat->Prop) (w:World) (cs:List Value) (n:Nat),Qr K w p cs->n<=40 ->
 Calls Tryz.prog 141 #[.agg cs.toArray,.int .i64 n] w fun e w'=>e=.returned (.int .i64 (U3 p n:Int))/\Ext w w'
theorem Q2w(k:Int)(pl mi:Nat)(nt:Bool)(mn mx:Int)(l:List Pat)(T:∀ p∈l,Mp p):Mp (.node k pl mi nt mn mx l):=by
 intro Z f b9 n P c6;unfold Qr at P;obtain⟨q,r,rfl,b5,b4,M,K,L⟩:=P;have O:l.length<=maxLen:=Nat.le_trans M K;unfold maxLen at O;have v:=Qas (.node k pl mi nt mn mx l) n;change U3 (.node k pl mi nt mn mx l) n=Vh l (n+1) at v;obtain⟨o,J⟩:=zE (U3 (.node k pl mi nt mn mx l) n);rw [J] at v ⊢;obtain⟨d,x⟩:=zE l.length;obtain⟨G,V,Y,H⟩:=Zh4 x L T v;unfold Qh;rw [x] at O ⊢;clear L T x M K b5 b4 J v;go_enter Tryz.func141,Tryz.ntmps141;go_wp2;have e:(f.alloc (.cells #[.int .i64 k,.int .u32 (pl:Int),.int .u32 (mi:Int),.bool nt,.int .i64 mn,.int .i64 mx,.slice q d r] 98)).heap[f.heap.size]?=some (.cells #[.int .i64 k,.int .u32 (pl:Int),.int .u32 (mi:Int),.bool nt,.int .i64 mn,.int .i64 mx,.slice q d r] 98 (0,0)):=Q2 rfl;have s:Ext f (f.alloc (.cells #[.int .i64 k,.int .u32 (pl:Int),.int .u32 (mi:Int),.bool nt,.int .i64 mn,.int .i64 mx,.slice q d r] 98)):=(Q0.refl _ f).alloc _;generalize (f.alloc (.cells #[.int .i64 k,.int .u32 (pl:Int),.int .u32 (mi:Int),.bool nt,.int .i64 mn,.int .i64 mx,.slice q d r] 98))=b6 at e s ⊢;generalize f.heap.size=U at e ⊢;have X:=Zh e;clear e
 refine wp_loop (fun a w=>∃(b c:Nat),b<=d/\c<=41/\Vh (l.drop b) c=o/\a.defers=[]/\gS a [2,5,6]=(28,[.pointer (some ⟨U,0,none⟩),.int .i64 c,.int .i64 b])/\Ext b6 w)
  (fun a _=>d - (intOf (a.tmps.getD 6 undef)).toNat) ?_ ?_
 ·exact⟨0,n+1,by omega,by omega,H.out.symm,rfl,(Prod.ext rfl (lE rfl (lE (by go_num) rfl))),Q0.refl _ _⟩
 clear H;rintro⟨d0,_⟩ w ⟨b,c,c4,c5,R,b2,Q,g⟩;subst b2;obtain⟨d1,rfl⟩:=Qq Q;clear Q;have i:=Zh R;clear R;have e:=g.keep X.out;have a8:=zR e;by_cases b3:b<d
 ·have a9:(b:Int)<(d:Int):=by omega
  have A:b<l.length:=by rw [G.out];exact b3
  have t:l.drop b=l[b]::l.drop (b+1):=List.drop_eq_getElem_cons A;by_cases u:c<=40
  ·have b0:(c:Int)<=40:=by omega
   obtain⟨c1,c7,a0,rfl,c2,c3,D,C⟩:=(V.out.ext (s.trans g)).get b A;rw [Nat.zero_add] at D;obtain⟨c9,c8,y,_,_,_⟩:=Y7 C;obtain⟨a1,a2,a3,a4,a5,a6,a7⟩:=Ug D y;have m:=Y.out _ (List.getElem_mem A) Z w a0 c C u;have B:Vh (l.drop (b+1)) (U3 l[b] c)=o:=by
    have:=i.out;rw [t,T9,if_pos u] at this;exact this
   have N:=Q9v (p:=l[b]) u;obtain⟨b7,S⟩:=zE (U3 l[b] c);rw [S] at m B N;rw [y] at m;unfold Qh at m;have F:=Zh m;have W:=Zh B;clear m D C y t B S e;go_wp2_with fail;refine F.out.mono ?_;rintro c0 b8 ⟨rfl,I⟩;have b1:=g.trans I;clear g I a1 a2 a3 a4 a5 a6 a7 F a8;go_wp2;exact⟨⟨b+1,b7,by omega,N,W.out,tz,rfl,b1⟩,nz⟩
  ·have b0:¬ (c:Int)<=40:=by omega
   have E:c=o:=by
    have:=i.out;rw [t,T9,if_neg u] at this;exact this
   subst E;clear i t;go_wp2;go_ret;exact⟨rfl,s.trans g⟩
 ·obtain rfl:b=d:=by omega
  have a9:¬ (b:Int)<(b:Int):=by omega
  have E:c=o:=by
   have:=i.out;rw [List.drop_of_length_le (by rw [G.out];exact Nat.le_refl _),Vh] at this;exact this
  subst E;clear i;go_wp2;go_ret;exact⟨rfl,s.trans g⟩
mutual
theorem Ta:∀ p:Pat,Mp p
 | .node k pl mi nt mn mx l=>Q2w k pl mi nt mn mx l (R9 l)
theorem R9:∀ l:List Pat,∀ p∈l,Mp p
 | [],_,h=>by cases h
 | q::l,p,h=>(List.mem_cons.1 h).elim (fun e=>e ▸ Ta q) (fun h=>R9 l p h)
end
theorem Gk{K:Nat->Prop}{w:World}{p:Pat}{cs:List Value}(g:Qr K w p cs) :
  Calls Tryz.prog 91 #[.agg cs.toArray] w fun e w'=>e=.returned (.int .i64 (K2 p:Int))/\Ext w w':=by
 have d:Ext w (w.alloc (.cells cs.toArray 98)):=(Q0.refl _ w).alloc _;have a:=Ta p K _ cs 0 (g.ext d) oz;rw [Q4v] at a;obtain⟨n,m,f,_,_,_⟩:=Y7 g;rw [f] at a ⊢;unfold Qh at a ⊢;obtain⟨o,i⟩:=zE (K2 p);rw [i] at a ⊢;have j:=Zh a;clear a f d i;go_enter Tryz.func91,Tryz.ntmps91;go_wp2_with fail;refine j.out.mono ?_;rintro e l ⟨rfl,c⟩;have k:Ext w l:=Q0.trans ((Q0.refl _ w).alloc _) c;clear c;go_wp2;go_ret;exact⟨rfl,k⟩
def Q21(n:Nat)(f:Nat->Nat):List Value:=(List.range n).map fun a=>Value.int .u64 (f a:Int)
theorem Q7x{n a:Nat}(f:Nat->Nat)(h:a<n):(Q21 n f)[a]?=some (.int .u64 (f a:Int)):=by simp [Q21,h]
def Qem(f:Nat->Nat)(k v:Nat):Nat->Nat:=fun i=>if i=k then v else f i
def Wz(w:World)(u:Value)(n:Nat)(f:Nat->Nat):Prop:=∃ g cap,u=.slice (some ⟨g,0,none⟩) n cap/\g<w.heap.size/\∀ a,a<n->w.cell? ⟨g,a,none⟩=some (.int .u64 (f a:Int))
theorem Wz.keep{S:Nat->Prop}{A B:World}{u:Value}{n:Nat}{f:Nat->Nat}(h:Wz A u n f)(b:Q0 S A B)(d:∀ g,u.ownBlock=some g->¬ S g):Wz B u n f:=by
 obtain⟨g,c,rfl,i,e⟩:=h;exact⟨g,c,rfl,Nat.lt_of_lt_of_le i b.size,fun a ha=>b.cell_some (e a ha) (d g rfl)⟩
theorem Wz.ext{A B:World}{u:Value}{n:Nat}{f:Nat->Nat}(h:Wz A u n f)(ht:Ext A B):Wz B u n f:=h.keep ht fun _ _ h=>h
theorem Wz.own{w:World}{base:Nat}{t:TypeId}{u:Value}{n:Nat}{f:Nat->Nat}(h:w.ownsRow base t 1 u (n+1) (Q21 (n+1) f)):Wz w u (n+1) f:=by
 rcases h.2 with ⟨_,e⟩ | ⟨c,b,g,rfl,_,d,_⟩
 ·simp at e
 ·exact⟨c,b,rfl,(Array.getElem?_eq_some_iff.1 d).1,fun a ha=>by rw [h.cellAt a oz,Q7x _ ha]⟩
def Qd6(n:Nat)(f g:Nat->Nat)(e:Ending):Prop:=∃ b,e=.returned (.bool b)/\(b=true↔∀ a,a<n+1->f a=g a)
end Go.Proofs.YtfdlhlghcbeblaaGreatDoor
