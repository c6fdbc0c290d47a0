/- word.valid, word.Check; good. -/
import Derived.Test.YtbmbdoanammlgaaDoorP11
namespace Go.Proofs.YtbmbdoanammlgaaDoor
open Go.RowKit Go.Ab
attribute [local go_sem] Oper.semAt_some Zx Z4
def wE(ws:Wd):Int:=if 32<ws.length then 11 else if X5 ws=true then 0 else 14
def P2(p:Pat)(ws:Wd):Bool:=decide (ws.length<=32) && decide (wE ws=0) && decide (Ze p=0)
end Go.Proofs.YtbmbdoanammlgaaDoor
