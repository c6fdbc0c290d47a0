/- ablautref08.Check, check (printed by genrefchk.py). -/
import Derived.Test.YtejenndedjabhaaGreatDoorU15
import Derived.Test.YtejenndedjabhaaGreatDoorU14
set_option maxRecDepth 100000
set_option maxHeartbeats 8000000
namespace Go.Proofs.YtejenndedjabhaaGreatDoor
open Go.RowKit Go.Ab
attribute [local go_sem] Oper.semAt_some Z3 Qj
def Q8j(l:Wd)(i:Nat):Bool:=(l.take i).any fun s=>!okS s
def Q8r(n:Nat)(l:List Yk)(i:Nat):Bool:=(l.take i).any fun x=>!Xk n x
end Go.Proofs.YtejenndedjabhaaGreatDoor
