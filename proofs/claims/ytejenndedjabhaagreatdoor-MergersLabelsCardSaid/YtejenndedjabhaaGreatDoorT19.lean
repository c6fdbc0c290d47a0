/- ablautref06.Table, patterns without parts (printed by gentable.py). -/
import Derived.Test.YtejenndedjabhaaGreatDoorT14
set_option maxRecDepth 100000
set_option maxHeartbeats 8000000
namespace Go.Proofs.YtejenndedjabhaaGreatDoor
open Go.RowKit Go.Ab
attribute [local go_sem] Oper.semAt_some Zi Qu
def Qau(p:Pat):Prop:=∀(K:Nat->Prop) (w:World) (cs:List Value) (v:Value) (ws:Wd),Qt K w p cs->Qf w v ws->ws.length<=32->Qa1 p ->
 Calls Tryz.prog 216 #[.agg cs.toArray,v] w fun e w'=>∃ u,e=.returned u/\w'.ownsRow w.heap.size 162 1 u (ws.length+1) (Q3l (ws.length+1) (Qc (Ga ws p)))/\Ext w w'
end Go.Proofs.YtejenndedjabhaaGreatDoor
