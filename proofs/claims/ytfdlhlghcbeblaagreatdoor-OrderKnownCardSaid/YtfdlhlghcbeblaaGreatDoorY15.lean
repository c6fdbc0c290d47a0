/- ablautref06.Table, patterns without parts (printed by gentable.py). -/
import Derived.Test.YtfdlhlghcbeblaaGreatDoorY10
set_option maxRecDepth 100000
set_option maxHeartbeats 8000000
namespace Go.Proofs.YtfdlhlghcbeblaaGreatDoor
open Go.RowKit Go.Ab
attribute [local go_sem] Oper.semAt_some Zf Qp
def Q9i(p:Pat):Prop:=∀(K:Nat->Prop) (w:World) (cs:List Value) (v:Value) (ws:Wd),Z0 K w p cs->Q8 w v ws->ws.length<=32->Q7j p ->
 Calls Tryz.prog 304 #[.agg cs.toArray,v] w fun e w'=>∃ u,e=.returned u/\w'.ownsRow w.heap.size 183 1 u (ws.length+1) (Q05 (ws.length+1) (Q4 (Vn ws p)))/\Ext w w'
end Go.Proofs.YtfdlhlghcbeblaaGreatDoor
