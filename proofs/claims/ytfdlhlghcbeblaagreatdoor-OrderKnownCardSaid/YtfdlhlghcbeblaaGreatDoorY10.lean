/- PLAIN: -/
import Derived.Test.YtfdlhlghcbeblaaGreatDoorY06
set_option maxRecDepth 100000
set_option maxHeartbeats 16000000
namespace Go.Proofs.YtfdlhlghcbeblaaGreatDoor
open Go.RowKit Go.Ab
mutual
def Q7j:Pat->Prop
 | .node k pl mi nt mn mx l=>Xe (.node k pl mi nt mn mx l)=0/\Q5w l
def Q5w:List Pat->Prop
 | []=>True
 | p::l=>Q7j p/\Q5w l
end
mutual
def Q4n:Pat->Pat
 | .node k pl mi nt mn mx l=>.node (if k=2 then 6 else if k=6 then 2 else k) pl mi nt mn mx (if k=3 then(Q3f l).reverse else Q3f l)
def Q3f:List Pat->List Pat
 | []=>[]
 | p::l=>Q4n p::Q3f l
end
def Qah(k:Int)(pl mi:Nat)(nt:Bool)(mn mx:Int)(n:Nat):Int:=
 if k<0\/6<k then 2
 else if k≠1/\(pl≠0\/mi≠0\/nt=true) then 2
 else if k≠3/\k≠4/\k≠5/\n≠0 then 2
 else if k≠5/\(mn≠0\/mx≠0) then 2
 else if k=5/\(n≠1\/mn<0\/32<mn\/(mx≠-1/\(mx<mn\/32<mx))) then 2
 else if Zi pl mi=true then 0 else 14
def Qa6(n:Nat)(X:Qk):Qk:=fun a b=>decide (a<=n) && decide (b<=n) && X (n - b) (n - a)
attribute [local go_sem] Oper.semAt_some Zf Qp
def okE(pl mi:Nat):Int:=if Zi pl mi=true then 0 else 14
section
variable (pl mi:Nat) (nt:Bool) (mn mx:Int) (n:Nat)
end
def Qa0(p:Pat):Prop:=∀(K:Nat->Prop) (w:World) (cs:List Value) (n:Nat),Z0 K w p cs->n<=40 ->
 Calls Tryz.prog 204 #[.agg cs.toArray,.int .i64 n] w fun e w'=>e=.returned (.tuple #[.int .i64 ((Yw p n).1:Int),.int .i64 (Yw p n).2])/\Ext w w'
def Q05(n:Nat)(f:Nat->Nat):List Value:=(List.range n).map fun a=>Value.int .u64 (f a:Int)
theorem Q42{n a:Nat}(f:Nat->Nat)(h:a<n):(Q05 n f)[a]?=some (.int .u64 (f a:Int)):=by simp [Q05,h]
def Qb1(f:Nat->Nat)(k v:Nat):Nat->Nat:=fun i=>if i=k then v else f i
def Hu(w:World)(u:Value)(n:Nat)(f:Nat->Nat):Prop:=∃ g cap,u=.slice (some ⟨g,0,none⟩) n cap/\g<w.heap.size/\∀ a,a<n->w.cell? ⟨g,a,none⟩=some (.int .u64 (f a:Int))
theorem Hu.keep{S:Nat->Prop}{A B:World}{u:Value}{n:Nat}{f:Nat->Nat}(h:Hu A u n f)(b:Q1 S A B)(d:∀ g,u.ownBlock=some g->¬ S g):Hu B u n f:=by
 obtain⟨g,c,rfl,i,e⟩:=h;exact⟨g,c,rfl,Nat.lt_of_lt_of_le i b.size,fun a ha=>b.cell_some (e a ha) (d g rfl)⟩
theorem Hu.ext{A B:World}{u:Value}{n:Nat}{f:Nat->Nat}(h:Hu A u n f)(ht:Ext A B):Hu B u n f:=h.keep ht fun _ _ h=>h
theorem Hu.own{w:World}{base:Nat}{t:TypeId}{u:Value}{n:Nat}{f:Nat->Nat}(h:w.ownsRow base t 1 u (n+1) (Q05 (n+1) f)):Hu w u (n+1) f:=by
 rcases h.2 with ⟨_,e⟩ | ⟨c,b,g,rfl,_,d,_⟩
 ·simp at e
 ·exact⟨c,b,rfl,(Array.getElem?_eq_some_iff.1 d).1,fun a ha=>by rw [h.cellAt a oz,Q42 _ ha]⟩
def Q9o(n:Nat)(f g:Nat->Nat)(e:Ending):Prop:=∃ b,e=.returned (.bool b)/\(b=true↔∀ a,a<n+1->f a=g a)
end Go.Proofs.YtfdlhlghcbeblaaGreatDoor
