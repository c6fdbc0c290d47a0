/- ablautref08.Trace, Apply, Changes (printed by genreftr.py). ablautref02.Copy as an own word; ablautref10.Forms, Derive (printed by genrforms.py). ablautref14.explains. -/
import Derived.Test.YtfdlhlghcbeblaaGreatDoorG30
import Derived.Test.YtfdlhlghcbeblaaGreatDoorG29
import Derived.Test.YtfdlhlghcbeblaaGreatDoorG21
import Derived.Test.YtfdlhlghcbeblaaGreatDoorG19
import Derived.Test.YtfdlhlghcbeblaaGreatDoorG16
import Derived.Test.YtfdlhlghcbeblaaGreatDoorG08
import Derived.Test.YtfdlhlghcbeblaaGreatDoorG02
import Derived.Test.YtfdlhlghcbeblaaGreatDoorG12
set_option maxRecDepth 100000
set_option maxHeartbeats 16000000
namespace Go.Proofs.YtfdlhlghcbeblaaGreatDoor
open Go.RowKit Go.Ab
attribute [local go_sem] Oper.semAt_some wide_fn wide_depth
end Go.Proofs.YtfdlhlghcbeblaaGreatDoor
set_option maxRecDepth 100000
set_option maxHeartbeats 16000000
namespace Go.Proofs.YtfdlhlghcbeblaaGreatDoor
open Go.RowKit Go.Ab
attribute [local go_sem] Oper.semAt_some wide_fn wide_depth
theorem rd_at_1{w:World}{v:Value}{n:Nat}{xs:List Value}(h:Rd w v n 1 xs){k:Nat}(hk:k<n):∃ g off cap,v=.slice (some ⟨g,off,none⟩) n cap∧g<w.heap.size∧w.cell? ⟨g,off+k,none⟩=some (xs.getD k undef):=by
 obtain⟨h1,h2,ao,cap,hv,h3⟩:=h
 obtain⟨g,off,ha,hg,hc⟩:=h3 (by omega)
 exact⟨g,off,cap,by rw [hv,ha],hg,hc k (by omega)⟩
def FormsV(E:Int)(n:Nat)(W:World)(v:Value)(u:Wd):Prop:=(E≠0→v=.slice none 0 0)∧(E=0→∃ ao c vs,v=.slice ao (n+1) c∧Rd W v (n+1) 1 vs∧OneW W (vs.getD n undef) u)
end Go.Proofs.YtfdlhlghcbeblaaGreatDoor
set_option maxRecDepth 100000
set_option maxHeartbeats 16000000
namespace Go.Proofs.YtfdlhlghcbeblaaGreatDoor
open Go.RowKit Go.Ab
attribute [local go_sem] Oper.semAt_some wide_fn wide_depth
def putL'(ps:LawsL)(ol:List Nat):LawsL:=ol.filterMap fun x=>ps[x]?
def explR(ps:LawsL)(ol:List Nat)(u v:Wd):Bool:=decide (derE ((putL' ps ol).map (·.1)) u=0) && decide (derW ((putL' ps ol).map (·.1)) u=v)
end Go.Proofs.YtfdlhlghcbeblaaGreatDoor
