/- ablautref06.Table, patterns without parts (printed by gentable.py). -/
import Derived.Test.YtfdlhlghcbeblaaGreatDoorH21
set_option maxRecDepth 100000
set_option maxHeartbeats 8000000
namespace Go.Proofs.YtfdlhlghcbeblaaGreatDoor
open Go.RowKit Go.Ab
attribute [local go_sem] Oper.semAt_some wide_fn wide_depth
def TableOk(p:Pat):Prop:=∀(K:Nat->Prop) (w:World) (cs:List Value) (v:Value) (ws:Wd),PatAt K w p cs->WordAt w v ws->ws.length<=32->allN p ->
 Calls Tryz.prog 304 #[.agg cs.toArray,v] w fun e w'=>∃ u,e=.returned u/\w'.ownsRow w.heap.size 183 1 u (ws.length+1) (u64V (ws.length+1) (rowM (relP ws p)))/\Ext w w'
end Go.Proofs.YtfdlhlghcbeblaaGreatDoor
