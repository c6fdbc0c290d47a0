/- What the laws' arguments read as: -/
import Derived.Test.YtfdlhlghcbeblaaGreatDoorW00
import Derived.Deep.Slices
namespace Go.Ab
open Go.RowKit Go.ChangeShapes Go.WideShapes
section
variable {H:Type} {enc:TypeId × Value->H} {P:Program} {w:World} {base b0:Nat} {held:Bool} {r:Reach} {t e q:TypeId} {k:IntKind} {v:Value} {d:DataW H} {ps:List MemPlace}
def Qe7(k:IntKind)(l:List Int):List Value:=l.map (Value.int k)
def Qek(k:IntKind)(l:List (Int × Int)):List Value:=l.flatMap fun p=>[Value.int k p.1,Value.int k p.2]
theorem Qa3{w:World}{p:Addr}{v:Value}(h:w.cell? p=some v):p.block<w.heap.size:=by
 apply Nat.lt_of_not_le;intro a;simp [World.cell?,Array.getElem?_eq_none a] at h
end
end Go.Ab
