/- ablautref06.Table, patterns one after the other, and either of some (printed by gentable.py). ablautref06.Table, repeated patterns; all patterns (printed by gentable.py). ablautref06.Ends, Begins (printed by genrefends.py). -/
import Derived.Test.YtfdlhlghcbeblaaGreatDoorH22
import Derived.Test.YtfdlhlghcbeblaaGreatDoorH07
import Derived.Test.YtfdlhlghcbeblaaGreatDoorH09
set_option maxRecDepth 100000
set_option maxHeartbeats 8000000
namespace Go.Proofs.YtfdlhlghcbeblaaGreatDoor
open Go.RowKit Go.Ab
attribute [local go_sem] Oper.semAt_some wide_fn wide_depth
end Go.Proofs.YtfdlhlghcbeblaaGreatDoor
set_option maxRecDepth 100000
set_option maxHeartbeats 8000000
namespace Go.Proofs.YtfdlhlghcbeblaaGreatDoor
open Go.RowKit Go.Ab
attribute [local go_sem] Oper.semAt_some wide_fn wide_depth
end Go.Proofs.YtfdlhlghcbeblaaGreatDoor
set_option maxRecDepth 100000
set_option maxHeartbeats 8000000
namespace Go.Proofs.YtfdlhlghcbeblaaGreatDoor
open Go.RowKit Go.Ab
attribute [local go_sem] Oper.semAt_some wide_fn wide_depth
end Go.Proofs.YtfdlhlghcbeblaaGreatDoor
