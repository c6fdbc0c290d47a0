/- What the arguments of chapter 14 read as: -/
import Derived.Test.YtejenndedjabhaaGreatDoorU16
import Derived.Test.YtejenndedjabhaaGreatDoorU22
set_option maxRecDepth 100000
namespace Go.Proofs.YtejenndedjabhaaGreatDoor
open Go.RowKit Go.Ab Go.ChangeShapes Go.WideShapes
section
variable {H:Type} {enc:TypeId × Value->H} {w:World} {base b0:Nat} {held:Bool} {r:Reach} {v:Value} {d:DataW H} {ps:List MemPlace}
instance:Inhabited Q5:=⟨⟨⟨#[]⟩,.node 0 0 0 false 0 0 [],.node 0 0 0 false 0 0 [],[],[],0⟩⟩
end
end Go.Proofs.YtejenndedjabhaaGreatDoor
namespace Go.Proofs.YtejenndedjabhaaGreatDoor
open Go.RowKit Go.Ab Go.ChangeShapes Go.WideShapes
section
variable {H:Type} {enc:TypeId × Value->H} {w:World} {base b0:Nat} {held:Bool} {r:Reach} {v:Value} {d:DataW H} {ps:List MemPlace}
end
end Go.Proofs.YtejenndedjabhaaGreatDoor
