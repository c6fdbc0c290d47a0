/- ablautref08.Check, check (printed by genrefchk.py). -/
import Derived.Test.YtejenndedjabhaaGreatDoorT15
import Derived.Test.YtejenndedjabhaaGreatDoorT13
set_option maxRecDepth 100000
set_option maxHeartbeats 8000000
namespace Go.Proofs.YtejenndedjabhaaGreatDoor
open Go.RowKit Go.Ab
attribute [local go_sem] Oper.semAt_some Zi Qu
def Qb7(l:Wd)(i:Nat):Bool:=(l.take i).any fun s=>!okS s
def Qbc(n:Nat)(l:List Yl)(i:Nat):Bool:=(l.take i).any fun x=>!Jb n x
end Go.Proofs.YtejenndedjabhaaGreatDoor
