/- ablautref08.all (printed by genrefall.py). ablautref08.left (printed by genrefrun.py). -/
import Derived.Test.YtfdlhlghcbeblaaGreatDoorH26
import Derived.Test.YtfdlhlghcbeblaaGreatDoorH20
import Derived.Test.YtfdlhlghcbeblaaGreatDoorH10
import Derived.Test.YtfdlhlghcbeblaaGreatDoorH13
set_option maxRecDepth 100000
set_option maxHeartbeats 16000000
namespace Go.Proofs.YtfdlhlghcbeblaaGreatDoor
open Go.RowKit Go.Ab
attribute [local go_sem] Oper.semAt_some wide_fn wide_depth
def Off(dv:Value)(vals:List Value):Prop:=∀ x∈vals,KeptIn (fun g=>dv.ownBlock≠some g) x
theorem Off.same{dv dv':Value}{vals:List Value}{W:World}(h:Off dv vals)(hk:∀ x∈vals,KeptIn (fun g=>g<W.heap.size) x) (hb:dv'.ownBlock=dv.ownBlock\/∃ k,W.heap.size<=k/\dv'.ownBlock=some k):Off dv' vals:=fun x hx g o n c e h0=>by
 rcases hb with hb | ⟨k,h1,h2⟩
 ·rw [hb];exact h x hx g o n c e h0
 ·rw [h2];intro q;cases q;have:=hk x hx g o n c e h0;omega
theorem TrP.low{b:Nat}{W:World}{u v:Value}{vals:List Value}{tr:List (Nat × Wd)} (h:TrP b W u v vals tr):∀ x∈vals,KeptIn (fun g=>g<W.heap.size) x:=fun x hx=>(h.wk x hx).mono fun _ hg=>hg.1
theorem TrP.turn{b:Nat}{A B:World}{u v dv:Value}{vals:List Value}{tr:List (Nat × Wd)} {b3 n3:Nat} {x3:List Value} (h:TrP b A u v vals tr) (hd:A.ownsRow b3 95 2 dv n3 x3) (ht:Turn (fun g=>dv.ownBlock=some g) A B) (ho:Off dv vals):TrP b B u v vals tr:=
 ⟨own_keep h.ou ht (fun g hg e=>own_ne h.ou hd (by decide) g hg e),own_keep h.ov ht (fun g hg e=>own_ne h.ov hd (by decide) g hg e),h.wd.keepS (S:=fun g=>dv.ownBlock≠some g) (ht.mono fun _ _ e hn=>hn e) ho,fun x hx=>(h.wk x hx).mono fun g hg=>⟨Nat.lt_of_lt_of_le hg.1 ht.size,hg.2⟩⟩
end Go.Proofs.YtfdlhlghcbeblaaGreatDoor
set_option maxRecDepth 100000
set_option maxHeartbeats 16000000
namespace Go.Proofs.YtfdlhlghcbeblaaGreatDoor
open Go.RowKit Go.Ab
attribute [local go_sem] Oper.semAt_some wide_fn wide_depth
end Go.Proofs.YtfdlhlghcbeblaaGreatDoor
