/- Frames: which change a sound (plain). -/
import Derived.Test.YtejenndedjabhaaGreatDoorT13
namespace Go.Proofs.YtejenndedjabhaaGreatDoor
open Go.RowKit Go.Ab
def Hz(fr:List (Wd × Wd)):List Int:=fr.map fun p=>Zt [] p.1 p.2
def Nw(ls:List Qg)(fr:List (Wd × Wd)) (s:Nat × Nat):List Int:=fr.map fun p=>Yp ls (Qp p.1 p.2 s)
def frB(ls:List Qg)(fr:List (Wd × Wd)) (s:Nat × Nat):List Bool:=fr.map fun p=>!decide (Qp p.1 p.2 s=Yv ls (Qp p.1 p.2 s))
def Jr(ls:List Qg)(fr:List (Wd × Wd)) (s:Nat × Nat):Int:=
 if Z4 ls=0 then(if 256<fr.length then 12 else if Qw (Hz fr)=0 then(if okS s=true then Qw (Nw ls fr s) else 14) else Qw (Hz fr)) else Z4 ls
def We(ls:List Qg)(fr:List (Wd × Wd)) (s:Nat × Nat):List Bool:=if Jr ls fr s=0 then frB ls fr s else []
theorem Nl{l:List Int}(h:Qw l=0):∀ x∈l,x=0:=by
 induction l with
 | nil=>intro x a;cases a
 | cons e l ih=>
  intro x a;unfold Qw at h
  split at h
  ·rename_i b
   rcases List.mem_cons.1 a with rfl | a
   ·exact b
   ·exact ih h x a
  ·rename_i b;exact absurd h b
theorem Qlf{fr:List (Wd × Wd)} (h:Qw (Hz fr)=0) {k:Nat} (b:k<fr.length):wE fr[k].1=0/\wE fr[k].2=0:=by
 have a:=Nl h (Zt [] fr[k].1 fr[k].2) (List.mem_map.2 ⟨_,List.getElem_mem b,rfl⟩);exact(Ps a).2
theorem Q3e{ls:List Qg}{fr:List (Wd × Wd)} {s:Nat × Nat} (h:Jr ls fr s=0):We ls fr s=frB ls fr s:=if_pos h
theorem Ql2{ls:List Qg}{fr:List (Wd × Wd)} {s:Nat × Nat} (h:Jr ls fr s≠0):We ls fr s=[]:=if_neg h
end Go.Proofs.YtejenndedjabhaaGreatDoor
