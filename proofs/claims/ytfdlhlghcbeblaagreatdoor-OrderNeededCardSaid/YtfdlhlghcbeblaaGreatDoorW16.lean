/- ablautref06.Table, patterns without parts (printed by gentable.py). -/
import Derived.Test.YtfdlhlghcbeblaaGreatDoorW09
set_option maxRecDepth 100000
set_option maxHeartbeats 8000000
namespace Go.Proofs.YtfdlhlghcbeblaaGreatDoor
open Go.RowKit Go.Ab
attribute [local go_sem] Oper.semAt_some Z1 Qk
def Qd5(p:Pat):Prop:=∀(K:Nat->Prop) (w:World) (cs:List Value) (v:Value) (ws:Wd),Qr K w p cs->Qb w v ws->ws.length<=32->Qb9 p ->
 Calls Tryz.prog 304 #[.agg cs.toArray,v] w fun e w'=>∃ u,e=.returned u/\w'.ownsRow w.heap.size 183 1 u (ws.length+1) (Q21 (ws.length+1) (Q3 (Kc ws p)))/\Ext w w'
end Go.Proofs.YtfdlhlghcbeblaaGreatDoor
