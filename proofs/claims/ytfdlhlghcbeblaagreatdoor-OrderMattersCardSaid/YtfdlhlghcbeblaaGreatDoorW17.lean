/- ablautref06.Table, patterns one after the other, and either of some (printed by gentable.py). -/
import Derived.Test.YtfdlhlghcbeblaaGreatDoorW16
set_option maxRecDepth 100000
set_option maxHeartbeats 8000000
namespace Go.Proofs.YtfdlhlghcbeblaaGreatDoor
open Go.RowKit Go.Ab
attribute [local go_sem] Oper.semAt_some Z1 Qk
end Go.Proofs.YtfdlhlghcbeblaaGreatDoor
