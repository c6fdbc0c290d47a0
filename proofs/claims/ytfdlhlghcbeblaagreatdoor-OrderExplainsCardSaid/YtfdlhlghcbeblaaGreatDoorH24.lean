/- ablautref08.Hit (printed by genrefhit.py). What law.Trace returns: the words lie in new blocks. -/
import Derived.Test.YtfdlhlghcbeblaaGreatDoorH18
import Derived.Test.YtfdlhlghcbeblaaGreatDoorH23
import Derived.Test.YtfdlhlghcbeblaaGreatDoorH10
import Derived.Test.YtfdlhlghcbeblaaGreatDoorH16
set_option maxRecDepth 100000
set_option maxHeartbeats 8000000
namespace Go.Proofs.YtfdlhlghcbeblaaGreatDoor
open Go.RowKit Go.Ab
attribute [local go_sem] Oper.semAt_some wide_fn wide_depth
end Go.Proofs.YtfdlhlghcbeblaaGreatDoor
namespace Go.Proofs.YtfdlhlghcbeblaaGreatDoor
open Go.RowKit Go.Ab
def TrOutF(b:Nat)(W:World)(u v:Value)(t:List (Nat × Wd)):Prop:=
 W.ownsRow b 3 1 u t.length (natV (t.map (·.1)))/\∃ vals,W.ownsRow b 99 1 v t.length vals/\WordsAt W vals (t.map (·.2))/\∀ x∈vals,KeptIn (fun g=>b<=g) x
theorem TrOutF.out{b:Nat}{W:World}{u v:Value}{t:List (Nat × Wd)} (h:TrOutF b W u v t):TrOut b W u v t:=by
 obtain⟨h1,vals,h2,h3,_⟩:=h
 exact⟨h1,vals,h2,h3⟩
theorem TrOutF.nil(b:Nat)(W:World):TrOutF b W (.slice none 0 0) (.slice none 0 0) []:=⟨World.ownsRow_nil _ _ _ _,[],World.ownsRow_nil _ _ _ _,trivial,fun x hx=>by cases hx⟩
theorem TrOutF.fresh{b cap g:Nat}{A:World}{u:Value}{t:List (Nat × Wd)} (h:TrOutF b A u (.slice (some ⟨g,0,none⟩) t.length cap) t) {i:Nat} (hi:i<t.length) {x:Value} (hx:A.cell? ⟨g,i,none⟩=some x):KeptIn (fun g=>b<=g) x:=by
 obtain⟨_,vals,h2,_,h4⟩:=h
 have hl:=h2.1
 have hc:=h2.cellAt i (by omega)
 rw [hx] at hc
 exact h4 x (List.mem_of_getElem? hc.symm)
end Go.Proofs.YtfdlhlghcbeblaaGreatDoor
