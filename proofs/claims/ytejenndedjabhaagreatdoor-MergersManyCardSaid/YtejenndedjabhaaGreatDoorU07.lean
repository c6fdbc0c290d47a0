/- What the laws' arguments read as: -/
import Derived.Test.YtejenndedjabhaaGreatDoorU00
import Derived.Deep.Slices
namespace Go.Ab
open Go.RowKit Go.ChangeShapes Go.WideShapes
section
variable {H:Type} {enc:TypeId × Value->H} {P:Program} {w:World} {base b0:Nat} {held:Bool} {r:Reach} {t e q:TypeId} {k:IntKind} {v:Value} {d:DataW H} {ps:List MemPlace}
def Qay(k:IntKind)(l:List Int):List Value:=l.map (Value.int k)
def Qba(k:IntKind)(l:List (Int × Int)):List Value:=l.flatMap fun p=>[Value.int k p.1,Value.int k p.2]
theorem Q7r{w:World}{p:Addr}{v:Value}(h:w.cell? p=some v):p.block<w.heap.size:=by
 apply Nat.lt_of_not_le;intro a;simp [World.cell?,Array.getElem?_eq_none a] at h
theorem Q6t{j:Nat}{c d:Value}{x:DataW H × List MemPlace}{s:Nat->Bool}(o:P.underlying t=some (.array 2 q)) (g:P.underlying q=some (.int k)) (l:P.cellsOf q=1) (h:DataW.trod enc P w base s held j t [c,d]=some x) :
  ∃ m n,c=.int k m/\d=.int k n/\(Lit.int k m).wf=true/\(Lit.int k n).wf=true:=by
 obtain⟨z,m,rfl,rfl,_,y,i⟩:=DataW.trod_array o h;have a:=i 0 zd;have b:=i 1 zd;rw [l] at a b;rw [List.getElem?_eq_getElem oz] at a b;obtain⟨p,e,_,u⟩:=DataW.trod_int g a;obtain⟨r,f,_,v⟩:=DataW.trod_int g b;simp at e f;exact⟨p,r,e,f,u,v⟩
end
end Go.Ab
