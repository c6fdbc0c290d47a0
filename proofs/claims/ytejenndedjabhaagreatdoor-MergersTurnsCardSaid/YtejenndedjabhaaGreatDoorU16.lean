/- What the laws' arguments read as: -/
import Derived.Test.YtejenndedjabhaaGreatDoorU07
import Derived.Test.YtejenndedjabhaaGreatDoorU06
import Derived.Deep.Fields
set_option maxRecDepth 100000
namespace Go.Proofs.YtejenndedjabhaaGreatDoor
open Go.RowKit Go.Ab Go.ChangeShapes Go.WideShapes
section
variable {H:Type} {enc:TypeId × Value->H} {w:World} {base b0:Nat} {held:Bool} {r:Reach} {v:Value} {d:DataW H} {ps:List MemPlace} {spare:Nat->Bool}
theorem Mi{a:Addr}{n:Nat}{cs:List Value}(i:0<n)(h:w.cells? base a n=some cs):a.spot=none/\a.block<w.heap.size/\cs.length=n/\w.rangeAt a.block a.off cs:=by
 obtain⟨_,g,d⟩:=World.cells?_some h;have b:=d 0 i;rw [List.getElem?_eq_getElem oz] at b;have c:a.spot=none:=World.cell?_spot (by simpa [Addr.add] using b);have f:a.block<w.heap.size:=by simpa [Addr.add] using Q7r b
 refine⟨c,f,g,fun j u hj=>?_⟩;have l:=(List.getElem?_eq_some_iff.1 hj).1;have:=d j oz;rw [hj] at this;have e:a.add j=⟨a.block,a.off+j,none⟩:=by
  obtain⟨k,m,o⟩:=a;simp only at c;subst c;exact add_plain _ _ _
 rw [<-e];exact this
instance:Inhabited Pat:=⟨.node 0 0 0 false 0 0 []⟩
end
end Go.Proofs.YtejenndedjabhaaGreatDoor
namespace Go.Proofs.YtejenndedjabhaaGreatDoor
open Go.RowKit Go.Ab Go.ChangeShapes Go.WideShapes
theorem Mr(f:Nat->List Value)(sz:Nat):∀ n,(∀ i,i<n->(f i).length=sz)->((List.range n).flatMap f).length=n*sz
 | 0,_=>by simp
 | n+1,h=>by
  rw [List.range_succ,List.flatMap_append,List.length_append,Mr f sz n fun i hi=>h i oz];simp only [List.flatMap_cons,List.flatMap_nil,List.append_nil];rw [h n oz,Nat.add_mul,Nat.one_mul]
theorem Bp(f:Nat->List Value)(sz:Nat):∀ n,(∀ i,i<n->(f i).length=sz)->∀ i r,i<n->r<sz->((List.range n).flatMap f)[i*sz+r]?=(f i)[r]?
 | 0,_,i,r,h,_=>by omega
 | n+1,h,i,r,hi,hr=>by
  have hl:=Mr f sz n fun i hi=>h i oz;rw [List.range_succ,List.flatMap_append];by_cases hin:i<n
  ·have:i*sz+r<n*sz:=by
    have:=Nat.mul_le_mul_right sz (show i+1<=n by omega);rw [Nat.add_mul,Nat.one_mul] at this;omega
   rw [List.getElem?_append_left (by rw [hl];exact this)];exact Bp f sz n (fun i hi=>h i oz) i r hin hr
  ·obtain rfl:i=n:=by omega
   rw [List.getElem?_append_right (by rw [hl];omega),hl,show i*sz+r - i*sz=r by omega];simp
theorem Q7q{w:World}{g off a cap sz:Nat}(f:Nat->List Value)(m:0<sz)(c:∀ i,i<a->(f i).length=sz/\w.rangeAt g (off+i*sz) (f i)) (n:0<a->g<w.heap.size) (o:a<=maxLen) :
  Rd w (.slice (some ⟨g,off,none⟩) a cap) a sz ((List.range a).flatMap f):=by
 have p:=Mr f sz a fun i b=>(c i b).1;refine⟨p,o,_,_,rfl,fun h0=>⟨g,off,rfl,n h0,fun j hj=>?_⟩⟩;have b:j / sz<a:=(Nat.div_lt_iff_lt_mul m).2 hj;have d:j % sz<sz:=Nat.mod_lt _ m;have l:j / sz*sz+j % sz=j:=by rw [Nat.mul_comm];exact Nat.div_add_mod j sz
 have e:=Bp f sz a (fun i b=>(c i b).1) (j / sz) (j % sz) b d;rw [l] at e;have k:=(c _ b).2 (j % sz) _ (List.getElem?_eq_getElem (by rw [(c _ b).1];exact d));rw [Nat.add_assoc,l] at k;rw [k,List.getD_eq_getElem?_getD,e,List.getElem?_eq_getElem (by rw [(c _ b).1];exact d)];rfl
section
variable {H:Type} {enc:TypeId × Value->H} {w:World} {base b0:Nat} {held:Bool} {r:Reach} {v:Value} {d:DataW H} {ps:List MemPlace}
theorem Q1f{α:Type} [Inhabited α] {t e:TypeId} {sz fuel:Nat} {c:Value} {x:DataW H × List MemPlace} (ht:Tryz.prog.underlying t=some (.slice e)) (hsz:Tryz.prog.cellsOf e=sz) (h0:0<sz) (cells:α->List Value) (ok:α->Prop)
  (hrow:∀ {n cs y},DataW.trod enc Tryz.prog w base (fun _=>true) held n e cs=some y->∃ p:α,cs=cells p/\ok p)
  (h:DataW.trod enc Tryz.prog w base (fun _=>true) held fuel t [c]=some x):∃ l:List α,Rd w c l.length sz (l.flatMap cells)/\(∀ p∈l,ok p)/\∃ vo vc,c=.slice vo l.length vc/\l.length<=vc:=by
 rcases DataW.trod_slice ht h with ⟨h,_⟩ | ⟨a,g,r,M,Q,P,O,h,_,_,u,G,N,o,_,_⟩
 ·simp at h;subst h;exact⟨[],⟨by simp,by simp [maxLen],none,0,rfl,fun h=>by simp at h⟩,fun p j=>by simp at j,none,0,rfl,Nat.le_refl _⟩
 ·simp at h;subst h;rw [hsz] at o;have I:0<g->a.spot=none:=by
   intro m;have k:=o 0 m;rw [List.getElem?_eq_getElem oz] at k;obtain⟨E,q,z⟩:=Option.bind_eq_some_iff.1 k;obtain⟨A,_⟩:=Mi h0 q
   simpa [Addr.add] using A
  have F:∀ b,b<g->∃ p:α,a.spot=none/\a.block<w.heap.size/\(cells p).length=sz/\w.rangeAt a.block (a.off+b*sz) (cells p)/\ok p:=by
   intro b d;have k:=o b d;rw [List.getElem?_eq_getElem oz] at k;obtain⟨E,q,z⟩:=Option.bind_eq_some_iff.1 k;obtain⟨A,B,L,C⟩:=Mi h0 q;obtain⟨p,rfl,j⟩:=hrow z;have f:=I oz;have e:a.add (b*sz)=⟨a.block,a.off+b*sz,none⟩:=by
    obtain⟨D,J,K⟩:=a;simp only at f;subst f;exact add_plain _ _ _
   rw [e] at B C;exact⟨p,f,B,L,C,j⟩
  obtain⟨s,i⟩:=Deep.choose_lt F;have v:g<=maxLen:=Nat.le_trans u G;refine⟨(List.range g).map s,?_,fun p j=>?_,some a,r,by rw [List.length_map,List.length_range],by rw [List.length_map,List.length_range];exact u⟩
  ·rw [List.length_map,List.length_range,List.flatMap_map];by_cases m:0<g
   ·have f:=(i 0 m).1;have e:a=⟨a.block,a.off,none⟩:=by obtain⟨D,J,K⟩:=a;simp only at f;subst f;rfl
    rw [e];exact Q7q (fun b=>cells (s b)) h0 (fun b d=>⟨(i b d).2.2.1,(i b d).2.2.2.1⟩) (fun _=>(i 0 m).2.1) v
   ·obtain rfl:g=0:=by omega
    exact⟨by simp,v,some a,r,rfl,fun h=>by omega⟩
  ·obtain⟨b,d,rfl⟩:=List.mem_map.1 j;exact(i b (List.mem_range.1 d)).2.2.2.2
instance:Inhabited Ym:=⟨⟨0,0,(0,0),0,0⟩⟩
end
end Go.Proofs.YtejenndedjabhaaGreatDoor
