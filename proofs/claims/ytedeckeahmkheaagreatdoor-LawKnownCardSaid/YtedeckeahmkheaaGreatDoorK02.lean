/- PLAIN: what kind of change a law is, by the numbers From of its Out. No program is named. -/
import Derived.WalkKit
namespace Go.Ab
def Zv(n:Nat):List Int:=(List.range n).map fun(i:Nat)=>(i:Int)
def H7(F:List Int):Bool:=decide (F=Zv F.length)
def V4(F:List Int):Bool:=(List.range F.length).all fun i=>F.contains (i:Int)
def Ud(F:List Int):Int:=if H7 F=true then 1 else if V4 F=true then 4 else 5
theorem Vd(n:Nat):(Zv n).length=n:=by simp [Zv]
theorem G2(n:Nat):(Zv n).Pairwise (·<=·):=by
 unfold Zv;rw [List.pairwise_map];exact List.pairwise_lt_range.imp (fun h=>by omega)
theorem Lc(n:Nat):(Zv n).Nodup:=by
 unfold Zv;show List.Pairwise _ _;rw [List.pairwise_map];exact List.pairwise_lt_range.imp (fun h=>by omega)
theorem Dp{n:Nat}{x:Int}:x∈Zv n↔∃ i,i<n/\x=(i:Int):=by
 unfold Zv;rw [List.mem_map];constructor
 ·rintro⟨i,a,rfl⟩;exact⟨i,List.mem_range.1 a,rfl⟩
 ·rintro⟨i,a,rfl⟩;exact⟨i,List.mem_range.2 a,rfl⟩
theorem G3:∀ {U F:List Int},U.Nodup->(∀ x∈U,x∈F)->F.length<=U.length->U.Perm F
 | [],F,_,_,hl=>by
  obtain rfl:F=[]:=List.eq_nil_of_length_eq_zero (by simpa using hl);exact List.Perm.refl _
 | a::U,F,hn,hs,hl=>by
  have ha:=hs a (by simp);have hn2:=List.nodup_cons.1 hn;have h:=G3 (U:=U) (F:=F.erase a) hn2.2 (fun x hx=>(List.mem_erase_of_ne (by rintro rfl;exact hn2.1 hx)).2 (hs x (by simp [hx]))) (by rw [List.length_erase_of_mem ha];simp at hl;omega);exact(h.cons a).trans (List.perm_cons_erase ha).symm
theorem Hp{F:List Int}(h:V4 F=true):F.Perm (Zv F.length):=by
 have c:∀ a∈Zv F.length,a∈F:=by
  intro a d;obtain⟨e,b,rfl⟩:=Dp.1 d;have:=List.all_eq_true.1 h e (List.mem_range.2 b)
  simpa using this
 exact(G3 (Lc _) c (by rw [Vd];exact Nat.le_refl _)).symm
theorem Hd{F:List Int}(h:F.Perm (Zv F.length)):V4 F=true:=by
 unfold V4;rw [List.all_eq_true];intro a b;have:(a:Int)∈F:=h.mem_iff.2 (Dp.2 ⟨a,List.mem_range.1 b,rfl⟩)
 simpa using this
theorem Gw{L:List Int}{n:Nat}(hp:L.Perm (Zv n)) (hs:L.Pairwise (·<=·)):L=Zv n:=
 List.Perm.eq_of_pairwise (fun _ _ _ _ h1 h2=>Int.le_antisymm h1 h2) hs (G2 n) hp
theorem Hh{F L:List Int}(b:L.Perm F)(c:L.Pairwise (·<=·)):(L=Zv F.length↔V4 F=true):=by
 constructor
 ·intro a;exact Hd (a ▸ b.symm)
 ·intro a;exact Gw (b.trans (Hp a)) c
theorem P9{F:List Int}(h:H7 F=true):V4 F=true:=by
 have:F=Zv F.length:=by simpa [H7] using h
 exact Hd (by rw [<-this])
theorem Lg{F:List Int}(h:V4 F=true):(H7 F=true↔F.Pairwise (·<=·)):=by
 constructor
 ·intro a;have:F=Zv F.length:=by simpa [H7] using a
  rw [this];exact G2 _
 ·intro a;have:=Gw (Hp h) a
  simpa [H7] using this
end Go.Ab
