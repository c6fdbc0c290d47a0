/- PLAIN: -/
import Derived.Test.YtejenndedjabhaaGreatDoorU05
import Derived.Test.YtejenndedjabhaaGreatDoorU10
set_option maxRecDepth 100000
set_option maxHeartbeats 16000000
namespace Go.Proofs.YtejenndedjabhaaGreatDoor
open Go.RowKit Go.Ab
mutual
def Q6r:Pat->Prop
 | .node k pl mi nt mn mx l=>X9 (.node k pl mi nt mn mx l)=0/\Q5b l
def Q5b:List Pat->Prop
 | []=>True
 | p::l=>Q6r p/\Q5b l
end
mutual
def Q4p:Pat->Pat
 | .node k pl mi nt mn mx l=>.node (if k=2 then 6 else if k=6 then 2 else k) pl mi nt mn mx (if k=3 then(Q4o l).reverse else Q4o l)
def Q4o:List Pat->List Pat
 | []=>[]
 | p::l=>Q4p p::Q4o l
end
def Q8t(k:Int)(pl mi:Nat)(nt:Bool)(mn mx:Int)(n:Nat):Int:=
 if k<0\/6<k then 2
 else if k≠1/\(pl≠0\/mi≠0\/nt=true) then 2
 else if k≠3/\k≠4/\k≠5/\n≠0 then 2
 else if k≠5/\(mn≠0\/mx≠0) then 2
 else if k=5/\(n≠1\/mn<0\/32<mn\/(mx≠-1/\(mx<mn\/32<mx))) then 2
 else if Z2 pl mi=true then 0 else 14
def Q8a(n:Nat)(X:Qe):Qe:=fun a b=>decide (a<=n) && decide (b<=n) && X (n - b) (n - a)
attribute [local go_sem] Oper.semAt_some Z3 Qj
def okE(pl mi:Nat):Int:=if Z2 pl mi=true then 0 else 14
section
variable (pl mi:Nat) (nt:Bool) (mn mx:Int) (n:Nat)
end
def Q7z(p:Pat):Prop:=∀(K:Nat->Prop) (w:World) (cs:List Value) (n:Nat),Qp K w p cs->n<=40 ->
 Calls Tryz.prog 173 #[.agg cs.toArray,.int .i64 n] w fun e w'=>e=.returned (.tuple #[.int .i64 ((Yv p n).1:Int),.int .i64 (Yv p n).2])/\Ext w w'
def Q0i(n:Nat)(f:Nat->Nat):List Value:=(List.range n).map fun a=>Value.int .u64 (f a:Int)
theorem Q49{n a:Nat}(f:Nat->Nat)(h:a<n):(Q0i n f)[a]?=some (.int .u64 (f a:Int)):=by simp [Q0i,h]
def Q99(f:Nat->Nat)(k v:Nat):Nat->Nat:=fun i=>if i=k then v else f i
def He(w:World)(u:Value)(n:Nat)(f:Nat->Nat):Prop:=∃ g cap,u=.slice (some ⟨g,0,none⟩) n cap/\g<w.heap.size/\∀ a,a<n->w.cell? ⟨g,a,none⟩=some (.int .u64 (f a:Int))
theorem He.keep{S:Nat->Prop}{A B:World}{u:Value}{n:Nat}{f:Nat->Nat}(h:He A u n f)(b:Q0 S A B)(d:∀ g,u.ownBlock=some g->¬ S g):He B u n f:=by
 obtain⟨g,c,rfl,i,e⟩:=h;exact⟨g,c,rfl,Nat.lt_of_lt_of_le i b.size,fun a ha=>b.cell_some (e a ha) (d g rfl)⟩
theorem He.ext{A B:World}{u:Value}{n:Nat}{f:Nat->Nat}(h:He A u n f)(ht:Ext A B):He B u n f:=h.keep ht fun _ _ h=>h
theorem He.own{w:World}{base:Nat}{t:TypeId}{u:Value}{n:Nat}{f:Nat->Nat}(h:w.ownsRow base t 1 u (n+1) (Q0i (n+1) f)):He w u (n+1) f:=by
 rcases h.2 with ⟨_,e⟩ | ⟨c,b,g,rfl,_,d,_⟩
 ·simp at e
 ·exact⟨c,b,rfl,(Array.getElem?_eq_some_iff.1 d).1,fun a ha=>by rw [h.cellAt a oz,Q49 _ ha]⟩
def Q85(n:Nat)(f g:Nat->Nat)(e:Ending):Prop:=∃ b,e=.returned (.bool b)/\(b=true↔∀ a,a<n+1->f a=g a)
def Q7v(p:Pat):Prop:=∀(K:Nat->Prop) (w:World) (cs:List Value) (n:Nat),Qp K w p cs->n<=40 ->
 Calls Tryz.prog 119 #[.agg cs.toArray,.int .i64 n] w fun e w'=>e=.returned (.int .i64 (Q6o p n:Int))/\Ext w w'
end Go.Proofs.YtejenndedjabhaaGreatDoor
