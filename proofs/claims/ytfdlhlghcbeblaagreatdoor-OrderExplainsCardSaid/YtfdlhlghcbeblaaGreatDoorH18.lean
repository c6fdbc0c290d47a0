/- ablautref08.Check, check (printed by genrefchk.py). ablautref10.Check, ablautref14.check. Rows of places and words as they grow in a loop. ablautref01: Get, put, Satisfies. ablautref01.Satisfies. -/
import Derived.Test.YtfdlhlghcbeblaaGreatDoorH15
import Derived.Test.YtfdlhlghcbeblaaGreatDoorH17
import Derived.Test.YtfdlhlghcbeblaaGreatDoorH07
import Derived.Test.YtfdlhlghcbeblaaGreatDoorH11
import Derived.Test.YtfdlhlghcbeblaaGreatDoorH16
set_option maxRecDepth 100000
set_option maxHeartbeats 8000000
namespace Go.Proofs.YtfdlhlghcbeblaaGreatDoor
open Go.RowKit Go.Ab
attribute [local go_sem] Oper.semAt_some wide_fn wide_depth
def sndsB(l:Wd)(i:Nat):Bool:=(l.take i).any fun s=>!okS s
def outsB(n:Nat)(l:List OutD)(i:Nat):Bool:=(l.take i).any fun x=>!fitB n x
end Go.Proofs.YtfdlhlghcbeblaaGreatDoor
set_option maxRecDepth 100000
set_option maxHeartbeats 8000000
namespace Go.Proofs.YtfdlhlghcbeblaaGreatDoor
open Go.RowKit Go.Ab
attribute [local go_sem] Oper.semAt_some wide_fn wide_depth
end Go.Proofs.YtfdlhlghcbeblaaGreatDoor
namespace Go.Proofs.YtfdlhlghcbeblaaGreatDoor
open Go.RowKit Go.Ab
def Apart(W:World)(u v x:Value):Prop:=KeptIn (fun g=>g<W.heap.size/\u.ownBlock≠some g/\v.ownBlock≠some g) x
structure TrP (b:Nat) (W:World) (u v:Value) (vals:List Value) (tr:List (Nat × Wd)):Prop where
 ou:W.ownsRow b 3 1 u tr.length (natV (tr.map (·.1)))
 ov:W.ownsRow b 99 1 v tr.length vals
 wd:WordsAt W vals (tr.map (·.2))
 wk:∀ x∈vals,Apart W u v x
theorem TrP.nil(b:Nat)(W:World):TrP b W (.slice none 0 0) (.slice none 0 0) [] []:=⟨World.ownsRow_nil _ _ _ _,World.ownsRow_nil _ _ _ _,trivial,fun x hx=>by cases hx⟩
theorem TrP.ext{b:Nat}{A B:World}{u v:Value}{vals:List Value}{tr:List (Nat × Wd)} (h:TrP b A u v vals tr) (ht:Ext A B):TrP b B u v vals tr:=
 ⟨own_ext h.ou ht,own_ext h.ov ht,h.wd.ext ht,fun x hx=>(h.wk x hx).mono fun _g hg=>⟨Nat.lt_of_lt_of_le hg.1 ht.size,hg.2⟩⟩
theorem TrP.out{b:Nat}{A:World}{u v:Value}{vals:List Value}{tr:List (Nat × Wd)} (h:TrP b A u v vals tr):TrOut b A u v tr:=⟨h.ou,vals,h.ov,h.wd⟩
theorem Apart.ext{A B:World}{u v x:Value}(h:Apart A u v x)(ht:Ext A B):Apart B u v x:=h.mono fun _g hg=>⟨Nat.lt_of_lt_of_le hg.1 ht.size,hg.2⟩
theorem Apart.low{W:World}{b:Nat}{e1 e2:TypeId}{s1 s2 n1 n2:Nat}{u v x:Value}{x1 x2:List Value}(hu:W.ownsRow b e1 s1 u n1 x1)(hv:W.ownsRow b e2 s2 v n2 x2)(hx:KeptIn (fun g=>g<b/\g<W.heap.size) x):Apart W u v x:=
 hx.mono fun g hg=>⟨hg.2,fun e=>by have:=(hu.lt g e).1;omega,fun e=>by have:=(hv.lt g e).1;omega⟩
theorem Apart.own{W:World}{b b3:Nat}{e1 e2 e3:TypeId}{s1 s2 s3 n1 n2 n3:Nat}{u v x:Value}{x1 x2 x3:List Value}(hu:W.ownsRow b e1 s1 u n1 x1)(hv:W.ownsRow b e2 s2 v n2 x2)(hx:W.ownsRow b3 e3 s3 x n3 x3)(h1:e1≠e3)(h2:e2≠e3):Apart W u v x:=by
 intro g o n c e h0
 have hb:x.ownBlock=some g:=by
  rcases hx.2 with ⟨q,_⟩ | ⟨g',c',cur,q,_⟩
  ·rw [q] at e;cases e
  ·rw [q] at e;cases e;rw [q];rfl
 exact⟨(hx.lt g hb).2,fun hu'=>own_ne hu hx h1 g hu' hb,fun hv'=>own_ne hv hx h2 g hv' hb⟩
theorem TrP.push{b:Nat}{V W:World}{u v u' v':Value}{vals:List Value}{tr:List (Nat × Wd)} (h:TrP b V u v vals tr) {i:Nat} {r:Wd} {x:Value} (hw:OneW V x r) (hk:Apart V u v x)
  (fu:W.ownsRow b 3 1 u' (tr.length+1) (natV (tr.map (·.1))++[.int .i64 (i:Int)])) (fv:W.ownsRow b 99 1 v' (tr.length+1) (vals++[x]))
  (ht:Turn (fun b=>u.ownBlock=some b\/v.ownBlock=some b) V W) (hu:u'.ownBlock=u.ownBlock\/∃ k,V.heap.size<=k/\u'.ownBlock=some k) (hv:v'.ownBlock=v.ownBlock\/∃ k,V.heap.size<=k/\v'.ownBlock=some k) :
  TrP b W u' v' (vals++[x]) (tr++[(i,r)])/\OneW W x r/\Apart W u' v' x:=by
 have off:∀ {y y':Value} (g:Nat),y.ownBlock≠some g->g<V.heap.size->(y'.ownBlock=y.ownBlock\/∃ k,V.heap.size<=k/\y'.ownBlock=some k)->y'.ownBlock≠some g:=fun g h1 h2 h3=>by
  rcases h3 with h3 | ⟨k,h3,h4⟩
  ·rw [h3];exact h1
  ·rw [h4];intro e;cases e;omega
 have all:∀ y∈vals++[x],Apart V u v y:=fun y hy=>by
  rcases List.mem_append.1 hy with hy | hy
  ·exact h.wk y hy
  ·simp only [List.mem_singleton] at hy;subst hy;exact hk
 have keep:∀ y,Apart V u v y->Apart W u' v' y:=fun y hy=>hy.mono fun g hg=>⟨Nat.lt_of_lt_of_le hg.1 ht.size,off g hg.2.1 hg.1 hu,off g hg.2.2 hg.1 hv⟩
 have htS:Turn (fun b=>¬ (b<V.heap.size/\u.ownBlock≠some b/\v.ownBlock≠some b)) V W:=ht.mono fun b _ e hn=>e.elim hn.2.1 hn.2.2
 refine⟨⟨?_,?_,?_,fun y hy=>keep y (all y hy)⟩,hw.keepS htS hk,keep x hk⟩
 ·rw [List.length_append,List.map_append]
  show W.ownsRow _ _ _ _ _ (natV (tr.map (·.1)++[i]))
  rw [natV_append]
  exact fu
 ·rw [List.length_append];exact fv
 ·rw [List.map_append]
  exact(h.wd.snoc hw).keepS htS all
end Go.Proofs.YtfdlhlghcbeblaaGreatDoor
namespace Go.Proofs.YtfdlhlghcbeblaaGreatDoor
open Go.RowKit Go.Ab
attribute [local go_sem] Oper.semAt_some wide_fn wide_depth
end Go.Proofs.YtfdlhlghcbeblaaGreatDoor
set_option maxRecDepth 100000
set_option maxHeartbeats 8000000
namespace Go.Proofs.YtfdlhlghcbeblaaGreatDoor
open Go.RowKit Go.Ab
attribute [local go_sem] Oper.semAt_some wide_fn wide_depth
def satTo(s c:Nat × Nat)(f:Nat):Prop:=∀ i,i<f->getS c i≠0->getS s i=getS c i
end Go.Proofs.YtfdlhlghcbeblaaGreatDoor
