/- ablautref08.Hit (printed by genrefhit.py). -/
import Derived.Test.YtfdlhlghcbeblaaGreatDoorY20
import Derived.Test.YtfdlhlghcbeblaaGreatDoorY19
set_option maxRecDepth 100000
set_option maxHeartbeats 16000000
namespace Go.Proofs.YtfdlhlghcbeblaaGreatDoor
open Go.RowKit Go.Ab
attribute [local go_sem] Oper.semAt_some Zf Qp
def Qb6(t:List (Nat × Wd)):Int:=if Vi t=true then 11 else 0
def Qay(t:List (Nat × Wd)):List (Nat × Wd):=if Vi t=true then [] else t
def Qb0(v:Value):Nat:=match v with | .slice _ n _=>n | _=>0
def Off(dv:Value)(vals:List Value):Prop:=∀ x∈vals,Qr (fun g=>dv.ownBlock≠some g) x
theorem Off.same{dv dv':Value}{vals:List Value}{W:World}(h:Off dv vals)(hk:∀ x∈vals,Qr (fun g=>g<W.heap.size) x) (hb:dv'.ownBlock=dv.ownBlock\/∃ k,W.heap.size<=k/\dv'.ownBlock=some k):Off dv' vals:=fun x hx g o n c e h0=>by
 rcases hb with hb | ⟨k,h1,h2⟩
 ·rw [hb];exact h x hx g o n c e h0
 ·rw [h2];intro q;cases q;have:=hk x hx g o n c e h0;omega
theorem TrP.turn{b:Nat}{A B:World}{u v dv:Value}{vals:List Value}{tr:List (Nat × Wd)} {b3 n3:Nat} {x3:List Value} (h:TrP b A u v vals tr) (hd:A.ownsRow b3 95 2 dv n3 x3) (ht:Q1 (fun g=>dv.ownBlock=some g) A B) (ho:Off dv vals):TrP b B u v vals tr:=
 ⟨Qd h.ou ht (fun g hg e=>Gg h.ou hd zd g hg e),Qd h.ov ht (fun g hg e=>Gg h.ov hd zd g hg e),h.wd.keepS (S:=fun g=>dv.ownBlock≠some g) (ht.mono fun _ _ e hn=>hn e) ho,fun x hx=>(h.wk x hx).mono fun g hg=>⟨Nat.lt_of_lt_of_le hg.1 ht.size,hg.2⟩⟩
def Q9s(E:Int)(n:Nat)(W:World)(v:Value)(u:Wd):Prop:=(E≠0->v=.slice none 0 0)/\(E=0->∃ ao c vs,v=.slice ao (n+1) c/\Rd W v (n+1) 1 vs/\Zu W (vs.getD n undef) u)
theorem Q4f:(Tryz.prog.info? 102).map (fun i=>(i.zero,i.size,i.bytes))=some (some (.agg #[.string ⟨#[]⟩,.int .i64 0,.int .u32 0,.int .u32 0,.bool false,.int .i64 0,.int .i64 0,.slice none 0 0,.int .i64 0,.int .u32 0,.int .u32 0,.bool false,.int .i64 0,.int .i64 0,.slice none 0 0,.slice none 0 0,.slice none 0 0,.int .i64 0]),18,200):=by kernel_rfl
def Q5p(ps:Qy)(ol:List Nat):Qy:=ol.filterMap fun x=>ps[x]?
def Q8l(ps:Qy)(ol:List Nat)(u v:Wd):Bool:=decide (Q3b ((Q5p ps ol).map (·.1)) u=0) && decide (Q4l ((Q5p ps ol).map (·.1)) u=v)
def Q32(ps:Qy)(ol:List Nat)(qs:Qa):List Bool:=qs.map fun q=>Q8l ps ol q.1.1 q.1.2
def Wh(ps:Qy)(ol:List Nat)(qs:Qa):Nat:=(Q32 ps ol qs).findIdx fun b=>!b
def Q9w(L:List Bool)(k:Nat):Prop:=∀ j (h:j<L.length),j<k->L[j]=true
end Go.Proofs.YtfdlhlghcbeblaaGreatDoor
