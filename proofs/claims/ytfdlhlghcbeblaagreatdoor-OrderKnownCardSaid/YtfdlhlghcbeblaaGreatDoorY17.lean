/- ablautref08.Check, check (printed by genrefchk.py). -/
import Derived.Test.YtfdlhlghcbeblaaGreatDoorY12
import Derived.Test.YtfdlhlghcbeblaaGreatDoorY11
set_option maxRecDepth 100000
set_option maxHeartbeats 8000000
namespace Go.Proofs.YtfdlhlghcbeblaaGreatDoor
open Go.RowKit Go.Ab
attribute [local go_sem] Oper.semAt_some Zf Qp
def Qac(l:Wd)(i:Nat):Bool:=(l.take i).any fun s=>!okS s
def Qad(n:Nat)(l:List Yq)(i:Nat):Bool:=(l.take i).any fun x=>!Xp n x
end Go.Proofs.YtfdlhlghcbeblaaGreatDoor
