/- Patterns in memory. No program is named. -/
import Derived.Test.YtbmbdoanammlgaaDoorP00
import Derived.Test.YtbmbdoanammlgaaDoorP01
namespace Go.Ab
open Go.RowKit
def Q2(k:Int)(pl mi:Nat)(nt:Bool)(mn mx:Int)(ao:Option Addr)(n cap:Nat):List Value:=
 [.int .i64 k,.int .u32 pl,.int .u32 mi,.bool nt,.int .i64 mn,.int .i64 mx,.slice ao n cap]
mutual
def Qc(K:Nat->Prop)(w:World):Pat->List Value->Prop
 | .node k pl mi nt mn mx l,cs=>∃ ao cap,cs=Q2 k pl mi nt mn mx ao l.length cap/\pl<4294967296/\mi<4294967296/\l.length<=cap/\cap<=maxLen/\Qe K w l ao 0
def Qe(K:Nat->Prop)(w:World):List Pat->Option Addr->Nat->Prop
 | [],_,_=>True
 | p::l,ao,i=>(∃ g off cs,ao=some ⟨g,off,none⟩/\K g/\g<w.heap.size/\w.rangeAt g (off+i*7) cs/\Qc K w p cs)/\Qe K w l ao (i+1)
end
theorem Qe.get{K:Nat->Prop}{w:World}:∀ {l:List Pat} {ao:Option Addr} {i:Nat},Qe K w l ao i->∀ j (h:j<l.length),∃ g off cs,ao=some ⟨g,off,none⟩/\K g/\g<w.heap.size/\w.rangeAt g (off+(i+j)*7) cs/\Qc K w l[j] cs
 | [],_,_,_,j,h=>by simp at h
 | p::l,ao,i,h,0,_=>by unfold Qe at h;exact h.1
 | p::l,ao,i,h,j+1,hj=>by
  unfold Qe at h;have:=Qe.get h.2 j (by simpa using hj);rw [show i+(j+1)=i+1+j by omega];exact this
theorem Qe.mk{K:Nat->Prop}{w:World}:∀ {l:List Pat} {ao:Option Addr} {i:Nat},(∀ j (h:j<l.length),∃ g off cs,ao=some ⟨g,off,none⟩/\K g/\g<w.heap.size/\w.rangeAt g (off+(i+j)*7) cs/\Qc K w l[j] cs)->Qe K w l ao i
 | [],_,_,_=>by unfold Qe;trivial
 | p::l,ao,i,h=>by
  unfold Qe;refine⟨h 0 zy,Qe.mk fun j hj=>?_⟩;have:=h (j+1) (by simpa using hj);rw [show i+(j+1)=i+1+j by omega] at this;exact this
theorem J8{S:Nat->Prop}{A B:World}(ht:Q1 S A B){g o:Nat}{cs:List Value}(h:A.rangeAt g o cs)(hS:¬ S g):B.rangeAt g o cs:=fun j v hv=>ht.cell_some (h j v hv) hS
mutual
theorem Qc.keep{K S:Nat->Prop}{A B:World}(ht:Q1 S A B)(hS:∀ g,K g->¬ S g):∀ {p:Pat} {cs:List Value},Qc K A p cs->Qc K B p cs
 | .node k pl mi nt mn mx l,cs,h=>by
  unfold Qc at h ⊢;obtain⟨ao,cap,h1,h2,h3,h4,h5,h6⟩:=h;exact⟨ao,cap,h1,h2,h3,h4,h5,Qe.keep ht hS h6⟩
theorem Qe.keep{K S:Nat->Prop}{A B:World}(ht:Q1 S A B)(hS:∀ g,K g->¬ S g):∀ {l:List Pat} {ao:Option Addr} {i:Nat},Qe K A l ao i->Qe K B l ao i
 | [],_,_,_=>by unfold Qe;trivial
 | p::l,ao,i,h=>by
  unfold Qe at h ⊢;obtain⟨⟨g,off,cs,h1,h2,h3,h4,h5⟩,h6⟩:=h;exact⟨⟨g,off,cs,h1,h2,Nat.lt_of_lt_of_le h3 ht.size,J8 ht h4 (hS g h2),Qc.keep ht hS h5⟩,Qe.keep ht hS h6⟩
end
theorem Qc.ext{K:Nat->Prop}{A B:World}{p:Pat}{cs:List Value}(h:Qc K A p cs)(ht:Ext A B):Qc K B p cs:=h.keep ht fun _ _ h=>h
theorem Qe.ext{K:Nat->Prop}{A B:World}{l:List Pat}{ao:Option Addr}{i:Nat}(h:Qe K A l ao i)(ht:Ext A B):Qe K B l ao i:=h.keep ht fun _ _ h=>h
mutual
theorem Qc.mono{K L:Nat->Prop}{A:World}(hK:∀ g,K g->L g):∀ {p:Pat} {cs:List Value},Qc K A p cs->Qc L A p cs
 | .node k pl mi nt mn mx l,cs,h=>by
  unfold Qc at h ⊢;obtain⟨ao,cap,h1,h2,h3,h4,h5,h6⟩:=h;exact⟨ao,cap,h1,h2,h3,h4,h5,Qe.mono hK h6⟩
theorem Qe.mono{K L:Nat->Prop}{A:World}(hK:∀ g,K g->L g):∀ {l:List Pat} {ao:Option Addr} {i:Nat},Qe K A l ao i->Qe L A l ao i
 | [],_,_,_=>by unfold Qe;trivial
 | p::l,ao,i,h=>by
  unfold Qe at h ⊢;obtain⟨⟨g,off,cs,h1,h2,h3,h4,h5⟩,h6⟩:=h;exact⟨⟨g,off,cs,h1,hK g h2,h3,h4,Qc.mono hK h5⟩,Qe.mono hK h6⟩
end
end Go.Ab
