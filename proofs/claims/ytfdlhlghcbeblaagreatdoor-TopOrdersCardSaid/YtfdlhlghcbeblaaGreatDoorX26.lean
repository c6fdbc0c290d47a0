/- TopOrders: the walk, and what its arguments read as. -/
import Derived.Test.YtfdlhlghcbeblaaGreatDoorX25
import Derived.Test.YtfdlhlghcbeblaaGreatDoorX17
namespace Go.Proofs.YtfdlhlghcbeblaaGreatDoor
open Go.RowKit Go.Ab
theorem Ss{w:World}{ps:Qk}{lo:Option Addr}{n lc:Nat}(hl:Qv w (.slice lo n lc) ps) (hn:ps.length=n) {us:List Wd} {wo:Option Addr} {m wc:Nat} (hw:Zz w (.slice wo m wc) us) (hm:us.length=m) (hT:Tab w) :
  Calls Tryz.prog 4 #[.slice lo n lc,.slice wo m wc] w fun e w'=>e=.returned (.bool true)/\Ext w w':=Pi hl hn hw hm hT
end Go.Proofs.YtfdlhlghcbeblaaGreatDoor
