/- PLAIN: -/
import Derived.Test.YtejenndedjabhaaGreatDoorU06
set_option maxRecDepth 100000
set_option maxHeartbeats 16000000
namespace Go.Proofs.YtejenndedjabhaaGreatDoor
open Go.RowKit Go.Ab
mutual
def Q92:Pat->Prop
 | .node k pl mi nt mn mx l=>Xa (.node k pl mi nt mn mx l)=0/\Q7f l
def Q7f:List Pat->Prop
 | []=>True
 | p::l=>Q92 p/\Q7f l
end
mutual
def Q51:Pat->Pat
 | .node k pl mi nt mn mx l=>.node (if k=2 then 6 else if k=6 then 2 else k) pl mi nt mn mx (if k=3 then(Q6p l).reverse else Q6p l)
def Q6p:List Pat->List Pat
 | []=>[]
 | p::l=>Q51 p::Q6p l
end
def Qav(k:Int)(pl mi:Nat)(nt:Bool)(mn mx:Int)(n:Nat):Int:=
 if k<0\/6<k then 2
 else if k≠1/\(pl≠0\/mi≠0\/nt=true) then 2
 else if k≠3/\k≠4/\k≠5/\n≠0 then 2
 else if k≠5/\(mn≠0\/mx≠0) then 2
 else if k=5/\(n≠1\/mn<0\/32<mn\/(mx≠-1/\(mx<mn\/32<mx))) then 2
 else if Z7 pl mi=true then 0 else 14
def Qak(n:Nat)(X:Qf):Qf:=fun a b=>decide (a<=n) && decide (b<=n) && X (n - b) (n - a)
attribute [local go_sem] Oper.semAt_some Z6 Qn
def okE(pl mi:Nat):Int:=if Z7 pl mi=true then 0 else 14
section
variable (pl mi:Nat) (nt:Bool) (mn mx:Int) (n:Nat)
end
def Qae(p:Pat):Prop:=∀(K:Nat->Prop) (w:World) (cs:List Value) (n:Nat),Qu K w p cs->n<=40 ->
 Calls Tryz.prog 173 #[.agg cs.toArray,.int .i64 n] w fun e w'=>e=.returned (.tuple #[.int .i64 ((Yy p n).1:Int),.int .i64 (Yy p n).2])/\Ext w w'
def Q1k(n:Nat)(f:Nat->Nat):List Value:=(List.range n).map fun a=>Value.int .u64 (f a:Int)
theorem Q74{n a:Nat}(f:Nat->Nat)(h:a<n):(Q1k n f)[a]?=some (.int .u64 (f a:Int)):=by simp [Q1k,h]
def Qbh(f:Nat->Nat)(k v:Nat):Nat->Nat:=fun i=>if i=k then v else f i
def Hp(w:World)(u:Value)(n:Nat)(f:Nat->Nat):Prop:=∃ g cap,u=.slice (some ⟨g,0,none⟩) n cap/\g<w.heap.size/\∀ a,a<n->w.cell? ⟨g,a,none⟩=some (.int .u64 (f a:Int))
theorem Hp.keep{S:Nat->Prop}{A B:World}{u:Value}{n:Nat}{f:Nat->Nat}(h:Hp A u n f)(b:Q0 S A B)(d:∀ g,u.ownBlock=some g->¬ S g):Hp B u n f:=by
 obtain⟨g,c,rfl,i,e⟩:=h;exact⟨g,c,rfl,Nat.lt_of_lt_of_le i b.size,fun a ha=>b.cell_some (e a ha) (d g rfl)⟩
theorem Hp.ext{A B:World}{u:Value}{n:Nat}{f:Nat->Nat}(h:Hp A u n f)(ht:Ext A B):Hp B u n f:=h.keep ht fun _ _ h=>h
theorem Hp.own{w:World}{base:Nat}{t:TypeId}{u:Value}{n:Nat}{f:Nat->Nat}(h:w.ownsRow base t 1 u (n+1) (Q1k (n+1) f)):Hp w u (n+1) f:=by
 rcases h.2 with ⟨_,e⟩ | ⟨c,b,g,rfl,_,d,_⟩
 ·simp at e
 ·exact⟨c,b,rfl,(Array.getElem?_eq_some_iff.1 d).1,fun a ha=>by rw [h.cellAt a oz,Q74 _ ha]⟩
def Qaf(n:Nat)(f g:Nat->Nat)(e:Ending):Prop:=∃ b,e=.returned (.bool b)/\(b=true↔∀ a,a<n+1->f a=g a)
def Qa7(p:Pat):Prop:=∀(K:Nat->Prop) (w:World) (cs:List Value) (n:Nat),Qu K w p cs->n<=40 ->
 Calls Tryz.prog 119 #[.agg cs.toArray,.int .i64 n] w fun e w'=>e=.returned (.int .i64 (Q8v p n:Int))/\Ext w w'
end Go.Proofs.YtejenndedjabhaaGreatDoor
