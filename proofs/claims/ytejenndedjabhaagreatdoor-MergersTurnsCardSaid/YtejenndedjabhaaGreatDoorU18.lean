/- ablautref06.Table, patterns without parts (printed by gentable.py). -/
import Derived.Test.YtejenndedjabhaaGreatDoorU08
set_option maxRecDepth 100000
set_option maxHeartbeats 8000000
namespace Go.Proofs.YtejenndedjabhaaGreatDoor
open Go.RowKit Go.Ab
attribute [local go_sem] Oper.semAt_some Z6 Qn
def Qa8(p:Pat):Prop:=∀(K:Nat->Prop) (w:World) (cs:List Value) (v:Value) (ws:Wd),Qu K w p cs->Q4 w v ws->ws.length<=32->Q92 p ->
 Calls Tryz.prog 216 #[.agg cs.toArray,v] w fun e w'=>∃ u,e=.returned u/\w'.ownsRow w.heap.size 162 1 u (ws.length+1) (Q1k (ws.length+1) (Q2 (Vf ws p)))/\Ext w w'
end Go.Proofs.YtejenndedjabhaaGreatDoor
