/- ablautref06.Table, repeated patterns; all patterns (printed by gentable.py). -/
import Derived.Test.YtfdlhlghcbeblaaGreatDoorY16
set_option maxRecDepth 100000
set_option maxHeartbeats 8000000
namespace Go.Proofs.YtfdlhlghcbeblaaGreatDoor
open Go.RowKit Go.Ab
attribute [local go_sem] Oper.semAt_some Zf Qp
end Go.Proofs.YtfdlhlghcbeblaaGreatDoor
