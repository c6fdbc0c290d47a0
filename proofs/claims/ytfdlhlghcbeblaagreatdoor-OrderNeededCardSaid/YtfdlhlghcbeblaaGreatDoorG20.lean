/- ablautref08.Name (printed by genrefname.py). ablautref01: Valid, Get, put, Satisfies. ablautref08.fits. ablautref08.Check, check (printed by genrefchk.py). -/
import Derived.Test.YtfdlhlghcbeblaaGreatDoorG17
import Derived.Test.YtfdlhlghcbeblaaGreatDoorG09
import Derived.Test.YtfdlhlghcbeblaaGreatDoorG16
import Derived.Test.YtfdlhlghcbeblaaGreatDoorG08
set_option maxRecDepth 100000
set_option maxHeartbeats 8000000
namespace Go.Proofs.YtfdlhlghcbeblaaGreatDoor
open Go.RowKit Go.Ab
attribute [local go_sem] Oper.semAt_some wide_fn wide_depth
def lettersB(l:List UInt8)(i:Nat):Bool:=(l.take i).all letB
end Go.Proofs.YtfdlhlghcbeblaaGreatDoor
set_option maxRecDepth 100000
set_option maxHeartbeats 8000000
namespace Go.Proofs.YtfdlhlghcbeblaaGreatDoor
open Go.RowKit Go.Ab
attribute [local go_sem] Oper.semAt_some wide_fn wide_depth
def okToF(s:Nat × Nat)(f:Nat):Prop:=∀ i,i<f→¬ (s.1.testBit i=true∧s.2.testBit i=true)∧((s.1.testBit i=true∨s.2.testBit i=true)→i<24)
end Go.Proofs.YtfdlhlghcbeblaaGreatDoor
set_option maxRecDepth 100000
set_option maxHeartbeats 8000000
namespace Go.Proofs.YtfdlhlghcbeblaaGreatDoor
open Go.RowKit Go.Ab
attribute [local go_sem] Oper.semAt_some wide_fn wide_depth
end Go.Proofs.YtfdlhlghcbeblaaGreatDoor
set_option maxRecDepth 100000
set_option maxHeartbeats 8000000
namespace Go.Proofs.YtfdlhlghcbeblaaGreatDoor
open Go.RowKit Go.Ab
attribute [local go_sem] Oper.semAt_some wide_fn wide_depth
def sndsB(l:Wd)(i:Nat):Bool:=(l.take i).any fun s=>!okS s
def outsB(n:Nat)(l:List OutD)(i:Nat):Bool:=(l.take i).any fun x=>!fitB n x
end Go.Proofs.YtfdlhlghcbeblaaGreatDoor
