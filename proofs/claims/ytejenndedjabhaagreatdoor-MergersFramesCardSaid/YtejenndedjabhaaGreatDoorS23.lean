/- What the laws' arguments read as: -/
import Derived.Test.YtejenndedjabhaaGreatDoorS00
import Derived.Deep.Slices
namespace Go.Ab
open Go.RowKit Go.ChangeShapes Go.WideShapes
section
variable {H:Type} {enc:TypeId × Value->H} {P:Program} {w:World} {base b0:Nat} {held:Bool} {r:Reach} {t e q:TypeId} {k:IntKind} {v:Value} {d:DataW H} {ps:List MemPlace}
def Q6r(k:IntKind)(l:List Int):List Value:=l.map (Value.int k)
def Qf7(k:IntKind)(l:List (Int × Int)):List Value:=l.flatMap fun p=>[Value.int k p.1,Value.int k p.2]
theorem Q4s{w:World}{p:Addr}{v:Value}(h:w.cell? p=some v):p.block<w.heap.size:=by
 apply Nat.lt_of_not_le;intro a;simp [World.cell?,Array.getElem?_eq_none a] at h
theorem Q0u(g:P.underlying t=some (.slice e)) (x:P.underlying e=some (.int k)) (q:P.cellsOf e=1) (A:Value.okWide P w r b0 t v) (u:DataW.Trod enc P w base (fun _=>true) held t v d ps) :
  ∃ l:List Int,Rd w v l.length 1 (Q6r k l)/\∀ n∈l,(Lit.int k n).wf=true:=by
 obtain⟨E,b,p,rfl⟩:=okWide_slice g A;obtain⟨G,y⟩:=u;rcases open_ints g x q y with ⟨a,_⟩ | ⟨m,J,F,c,a,_,H,I,C,_,s,B⟩
 ·simp [Value.cells] at a;obtain⟨rfl,rfl,rfl⟩:=a;exact⟨[],⟨rfl,by simp [maxLen],none,0,rfl,fun a=>by simp at a⟩,by simp⟩
 ·simp [Value.cells] at a;obtain⟨rfl,rfl,rfl⟩:=a;simp only [if_true] at C;have i:(c.take b).length=b:=by simp;omega
  refine⟨c.take b,⟨by simp [Q6r],by rw [i];omega,some m,p,by rw [i],fun h0=>?_⟩,fun n hn=>B n (List.mem_of_mem_take hn)⟩;obtain⟨o,D,rfl,f⟩:=ints_at s oz;refine⟨o,D,rfl,Q4s (f 0 oz),fun j hj=>?_⟩;rw [f j oz];have z:j<b:=by omega
  simp [Q6r,List.getD_eq_getElem?_getD,z,show j<c.length by omega]
end
end Go.Ab
