/- ablautref06: same, join, follow, equal, satisfies. -/
import Derived.Test.YtfdlhlghcbeblaaGreatDoorH07
import Derived.Test.YtfdlhlghcbeblaaGreatDoorH06
set_option maxRecDepth 100000
set_option maxHeartbeats 8000000
namespace Go.Proofs.YtfdlhlghcbeblaaGreatDoor
open Go.RowKit Go.Ab
attribute [local go_sem] Oper.semAt_some wide_fn wide_depth
theorem Tryz.infoU:(Tryz.prog.info? 183).map (fun i=>(i.zero,i.size,i.bytes))=some (some (.int .u64 0),1,8):=by kernel_rfl
def u64V(n:Nat)(f:Nat->Nat):List Value:=(List.range n).map fun a=>Value.int .u64 (f a:Int)
theorem u64V_get{n a:Nat}(f:Nat->Nat)(h:a<n):(u64V n f)[a]?=some (.int .u64 (f a:Int)):=by simp [u64V,h]
def updN(f:Nat->Nat)(k v:Nat):Nat->Nat:=fun i=>if i=k then v else f i
def RowsR(w:World)(u:Value)(n:Nat)(f:Nat->Nat):Prop:=∃ g cap,u=.slice (some ⟨g,0,none⟩) n cap/\g<w.heap.size/\∀ a,a<n->w.cell? ⟨g,a,none⟩=some (.int .u64 (f a:Int))
theorem RowsR.keep{S:Nat->Prop}{A B:World}{u:Value}{n:Nat}{f:Nat->Nat}(h:RowsR A u n f)(ht:Turn S A B)(hS:∀ g,u.ownBlock=some g->¬ S g):RowsR B u n f:=by
 obtain⟨g,cap,rfl,hg,hc⟩:=h
 exact⟨g,cap,rfl,Nat.lt_of_lt_of_le hg ht.size,fun a ha=>ht.cell_some (hc a ha) (hS g rfl)⟩
theorem RowsR.ext{A B:World}{u:Value}{n:Nat}{f:Nat->Nat}(h:RowsR A u n f)(ht:Ext A B):RowsR B u n f:=h.keep ht fun _ _ h=>h
theorem RowsR.own{w:World}{base:Nat}{t:TypeId}{u:Value}{n:Nat}{f:Nat->Nat}(h:w.ownsRow base t 1 u (n+1) (u64V (n+1) f)):RowsR w u (n+1) f:=by
 rcases h.2 with ⟨_,q⟩ | ⟨g,cap,cur,rfl,_,hg,_⟩
 ·simp at q
 ·exact⟨g,cap,rfl,(Array.getElem?_eq_some_iff.1 hg).1,fun a ha=>by rw [h.cellAt a (by omega),u64V_get _ ha]⟩
def EqPost(n:Nat)(f g:Nat->Nat)(e:Ending):Prop:=∃ b,e=.returned (.bool b)/\(b=true↔∀ a,a<n+1->f a=g a)
end Go.Proofs.YtfdlhlghcbeblaaGreatDoor
