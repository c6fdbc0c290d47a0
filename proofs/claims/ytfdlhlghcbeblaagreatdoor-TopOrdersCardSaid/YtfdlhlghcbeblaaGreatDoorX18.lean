/- ablautref06.Table, patterns without parts (printed by gentable.py). -/
import Derived.Test.YtfdlhlghcbeblaaGreatDoorX09
set_option maxRecDepth 100000
set_option maxHeartbeats 8000000
namespace Go.Proofs.YtfdlhlghcbeblaaGreatDoor
open Go.RowKit Go.Ab
attribute [local go_sem] Oper.semAt_some Z8 Qp
def Q93(p:Pat):Prop:=∀(K:Nat->Prop) (w:World) (cs:List Value) (v:Value) (ws:Wd),Qm K w p cs->Qa w v ws->ws.length<=32->Q81 p ->
 Calls Tryz.prog 304 #[.agg cs.toArray,v] w fun e w'=>∃ u,e=.returned u/\w'.ownsRow w.heap.size 183 1 u (ws.length+1) (Ef (ws.length+1) (Q3 (V9 ws p)))/\Ext w w'
end Go.Proofs.YtfdlhlghcbeblaaGreatDoor
