/- order.Best. math/bits.TrailingZeros64 and chron.events: the iterator over the bits of a number. chron.Order in memory; its plain methods. chron.Order.Before. -/
import Derived.Test.YtfdlhlghcbeblaaGreatDoorH40
import Derived.Test.YtfdlhlghcbeblaaGreatDoorH35
import Derived.Test.YtfdlhlghcbeblaaGreatDoorH00
import Derived.WalkLawsBesides
import Derived.Handy
import Derived.Lib.Hide
import Derived.Shelf.Spec.TrailingZeros
set_option maxRecDepth 100000
set_option maxHeartbeats 16000000
namespace Go.Proofs.YtfdlhlghcbeblaaGreatDoor
open Go.RowKit Go.Ab
attribute [local go_sem] Oper.semAt_some wide_fn wide_depth
def cntB(l:List Bool):Nat:=l.countP id
def cntX(LD:List LawD)(qs:PairsL)(x:List Nat):Nat:=cntB (fitL LD x qs)
def bestStep(LD:List LawD)(qs:PairsL)(s:List Nat × Int)(x:List Nat):List Nat × Int:=if s.2<(cntX LD qs x:Int) then(x,(cntX LD qs x:Int)) else s
def bestS(LD:List LawD)(qs:PairsL)(l:List (List Nat)):List Nat × Int:=l.foldl (bestStep LD qs) ([],-1)
def bestX(LD:List LawD)(qs:PairsL):List Nat:=if ordE LD (qs.map (·.1))=0 then(bestS LD qs (permsF LD.length (List.range LD.length))).1 else []
def bestN(LD:List LawD)(qs:PairsL):Int:=if ordE LD (qs.map (·.1))=0 then(bestS LD qs (permsF LD.length (List.range LD.length))).2 else 0
def BestSt(BB BM BP base:Nat)(LD:List LawD)(qs:PairsL)(pv:Value)(w:World)(O:Nat→Prop)(pre:List (List Nat)) (V:World):Prop:=
 ∃ ao c,V.heap[BB]?=some (.cells #[.slice ao (bestS LD qs pre).1.length c] 48 (0,0))∧V.heap[BM]?=some (.cells #[.int .i64 (bestS LD qs pre).2] 3 (0,0))∧V.heap[BP]?=some (.cells #[pv] 61 (0,0)) ∧
  V.ownsRow base 3 1 (.slice ao (bestS LD qs pre).1.length c) (bestS LD qs pre).1.length (natV (bestS LD qs pre).1)∧(∀ g,(Value.slice ao (bestS LD qs pre).1.length c).ownBlock=some g→¬ O g)∧Ext w V
theorem BestSt.step{BB BM BP base D:Nat}{LD:List LawD}{qs:PairsL}{pv:Value}{w A B:World}{O O':Nat→Prop}{pre:List (List Nat)} (h:BestSt BB BM BP base LD qs pv w O pre A) (hw:w.heap.size≤D) (hX:BB<D∧BM<D∧BP<D) (hb:base=D+2) (hO:∀ b,O b→D+2≤b∧b<A.heap.size) (ht:Turn (fun b=>O b∨b=D+1) A B)
  (hO':∀ b,O' b→(O b∨A.heap.size≤b)∧b<B.heap.size):BestSt BB BM BP base LD qs pv w O' pre B:=by
 subst hb
 obtain⟨ao,c,h1,h2,h3,h4,h5,h6⟩:=h
 have ht2:Turn (fun b=>D+1≤b) A B:=ht.mono fun b _ h=>h.elim (fun h=>by have:=(hO b h).1;omega) (fun h=>by omega)
 refine⟨ao,c,ht2.heap h1 (by omega),ht2.heap h2 (by omega),ht2.heap h3 (by omega),own_keep h4 ht (fun g hg h=>?_),fun g hg h=>?_,h6.after ht2 fun b hb h=>by omega⟩
 ·have:=(h4.lt g hg).1
  rcases h with h | h
  ·exact h5 g hg h
  ·omega
 ·rcases(hO' g h).1 with h | h
  ·exact h5 g hg h
  ·have:=(h4.lt g hg).2;omega
end Go.Proofs.YtfdlhlghcbeblaaGreatDoor
namespace Go.Proofs.YtfdlhlghcbeblaaGreatDoor
open Go.RowKit Go.Ab
attribute [local go_sem] Oper.semAt_some wide_fn wide_depth
def SetBox(w:World)(bx:Nat)(v:Nat):Prop:=w.heap[bx]?=some (.cells #[.int .u64 v] 183 (0,0))
theorem SetBox.cell{w:World}{bx v:Nat}(h:SetBox w bx v):w.cell? ⟨bx,0,none⟩=some (.int .u64 v):=cell_of_one h
theorem SetBox.free{w:World}{bx v:Nat}(h:SetBox w bx v):w.frozen? ⟨bx,0,none⟩=false:=free_of_one h
theorem SetBox.store{w:World}{bx v:Nat}(u:Nat)(h:SetBox w bx v):SetBox (w.setCell ⟨bx,0,none⟩ (.int .u64 u)) bx u:=one_setCell h
def setLeft(w:World)(bx:Nat):Nat:=match w.cell? ⟨bx,0,none⟩ with | some (.int _ n)=>n.toNat | _=>0
end Go.Proofs.YtfdlhlghcbeblaaGreatDoor
set_option maxRecDepth 100000
namespace Go.Proofs.YtfdlhlghcbeblaaGreatDoor
open Go.RowKit Go.Ab
def chCells(mk:Bool)(n:Nat)(bf af:Nat→Nat):List Value:=
 .bool mk::.int .i64 n::((List.range 64).map (fun i=>Value.int .u64 (bf i))++(List.range 64).map (fun i=>Value.int .u64 (af i)))
def ordArr(mk:Bool)(n:Nat)(bf af:Nat→Nat):Array Value:=(chCells mk n bf af).toArray
def Ord(w:World)(b:Nat)(mk:Bool)(n:Nat)(bf af:Nat→Nat):Prop:=
 w.heap[b]?=some (.cells (ordArr mk n bf af) 186 (0,0))
theorem Ord.get{w:World}{b:Nat}{mk:Bool}{n:Nat}{bf af:Nat→Nat}(h:Ord w b mk n bf af)(o:Nat) :
  w.cell? ⟨b,o,none⟩=(chCells mk n bf af)[o]?:=by
 unfold Ord at h;simp [World.cell?,h,ordArr]
theorem Ord.free{w:World}{b:Nat}{mk:Bool}{n:Nat}{bf af:Nat→Nat}(h:Ord w b mk n bf af)(o:Nat):w.frozen? ⟨b,o,none⟩=false:=by
 unfold Ord at h;simp [World.frozen?,h]
theorem Ord.made{w:World}{b:Nat}{mk:Bool}{n:Nat}{bf af:Nat→Nat}(h:Ord w b mk n bf af):w.cell? ⟨b,0,none⟩=some (.bool mk):=by
 rw [h.get];rfl
theorem Ord.n{w:World}{b:Nat}{mk:Bool}{n:Nat}{bf af:Nat→Nat}(h:Ord w b mk n bf af):w.cell? ⟨b,1,none⟩=some (.int .i64 n):=by
 rw [h.get];rfl
theorem Ord.bf{w:World}{b:Nat}{mk:Bool}{n:Nat}{bf af:Nat→Nat}(h:Ord w b mk n bf af)(i:Nat)(hi:i<64):w.cell? ⟨b,2+i,none⟩=some (.int .u64 (bf i)):=by
 rw [h.get,Nat.add_comm]
 simp [chCells,List.getElem?_append,hi]
theorem Ord.af{w:World}{b:Nat}{mk:Bool}{n:Nat}{bf af:Nat→Nat}(h:Ord w b mk n bf af)(i:Nat)(hi:i<64):w.cell? ⟨b,66+i,none⟩=some (.int .u64 (af i)):=by
 rw [h.get,show 66+i=(64+i)+1+1 by omega]
 simp [chCells,List.getElem?_append,hi]
theorem Ord.keep{S:Nat→Prop}{A B:World}{b:Nat}{mk:Bool}{n:Nat}{bf af:Nat→Nat}(h:Ord A b mk n bf af)(ht:Turn S A B)(hS:¬ S b):Ord B b mk n bf af:=ht.heap h hS
theorem Ord.lt{w:World}{b:Nat}{mk:Bool}{n:Nat}{bf af:Nat→Nat}(h:Ord w b mk n bf af):b<w.heap.size:=(Array.getElem?_eq_some_iff.1 h).1
def upd(f:Nat→Nat)(x v:Nat):Nat→Nat:=fun i=>if i=x then v else f i
theorem map_set(f:Nat→Nat)(x v:Nat)(g:Nat→Value)(m:Nat):((List.range m).map (fun i=>g (f i))).set x (g v)=(List.range m).map (fun i=>g (upd f x v i)):=by
 apply List.ext_getElem?
 intro i
 simp only [List.getElem?_set,List.getElem?_map,List.length_map,List.length_range,upd]
 by_cases hx:x=i
 ·subst hx
  by_cases hm:x<m
  ·simp [hm]
  ·simp [hm]
 ·rw [if_neg hx]
  by_cases hm:i<m
  ·simp [hm,Ne.symm hx]
  ·simp [hm]
def isEv(n a:Int):Bool:=decide (0≤a) && decide (a<n)
theorem isEv_iff{n a:Int}:isEv n a=true↔0≤a∧a<n:=by simp [isEv]
def isB(n:Nat)(af:Nat→Nat)(x y:Int):Bool:=isEv n x && isEv n y && (af x.toNat).testBit y.toNat
def Fits(n:Nat)(bf af:Nat→Nat):Prop:=n≤64∧(∀ i,bf i<18446744073709551616)∧(∀ i,af i<18446744073709551616)
def freeB(n:Nat)(af:Nat→Nat)(x y:Int):Bool:=isEv n x && isEv n y && !(x == y) && !isB n af x y && !isB n af y x
end Go.Proofs.YtfdlhlghcbeblaaGreatDoor
set_option maxRecDepth 100000
set_option maxHeartbeats 4000000
namespace Go.Proofs.YtfdlhlghcbeblaaGreatDoor
open Go.RowKit Go.Ab
theorem _root_.Go.Proofs.YtfdlhlghcbeblaaGreatDoor.SetBox.lt {w:World} {bx v:Nat} (h:SetBox w bx v):bx<w.heap.size:=(Array.getElem?_eq_some_iff.1 h).1
attribute [local go_sem] Oper.semAt_some wide_fn wide_depth
end Go.Proofs.YtfdlhlghcbeblaaGreatDoor
