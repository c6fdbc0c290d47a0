/- ablautref06.Table, patterns without parts (printed by gentable.py). -/
import Derived.Test.YtejenndedjabhaaGreatDoorU13
set_option maxRecDepth 100000
set_option maxHeartbeats 8000000
namespace Go.Proofs.YtejenndedjabhaaGreatDoor
open Go.RowKit Go.Ab
attribute [local go_sem] Oper.semAt_some Z3 Qj
def Q7w(p:Pat):Prop:=∀(K:Nat->Prop) (w:World) (cs:List Value) (v:Value) (ws:Wd),Qp K w p cs->Q5 w v ws->ws.length<=32->Q6r p ->
 Calls Tryz.prog 216 #[.agg cs.toArray,v] w fun e w'=>∃ u,e=.returned u/\w'.ownsRow w.heap.size 162 1 u (ws.length+1) (Q0i (ws.length+1) (Q2 (Vj ws p)))/\Ext w w'
end Go.Proofs.YtejenndedjabhaaGreatDoor
