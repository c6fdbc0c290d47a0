/- ablautref06.Table, patterns one after the other, and either of some (printed by gentable.py). -/
import Derived.Test.YtfdlhlghcbeblaaGreatDoorY15
set_option maxRecDepth 100000
set_option maxHeartbeats 8000000
namespace Go.Proofs.YtfdlhlghcbeblaaGreatDoor
open Go.RowKit Go.Ab
attribute [local go_sem] Oper.semAt_some Zf Qp
end Go.Proofs.YtfdlhlghcbeblaaGreatDoor
