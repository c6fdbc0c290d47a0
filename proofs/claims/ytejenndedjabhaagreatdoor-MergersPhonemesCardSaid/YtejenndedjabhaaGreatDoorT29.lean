/- What a row of words reads as, with its room. -/
import Derived.Test.YtejenndedjabhaaGreatDoorT25
set_option maxRecDepth 100000
namespace Go.Proofs.YtejenndedjabhaaGreatDoor
open Go.RowKit Go.Ab Go.ChangeShapes Go.WideShapes
section
variable {H:Type} {enc:TypeId × Value->H} {w:World} {base b0:Nat} {held:Bool} {r:Reach} {v:Value} {d:DataW H} {ps:List MemPlace}
theorem Q5k:Tryz.prog.cellsOf 23=1:=by kernel_rfl
theorem Q21:∀ l:List (Wd × Value),l.flatMap (fun p=>[p.2])=l.map (·.2)
 | []=>rfl
 | p::l=>by rw [List.flatMap_cons,Q21 l];rfl
theorem Bc:∀ l:List (Wd × Value),(∀ p∈l,Qy w p.2 p.1)->Y1 w (l.map (·.2)) (l.map (·.1))
 | [],_=>trivial
 | p::l,h=>⟨h p zy,Bc l fun q hq=>h q (by simp [hq])⟩
theorem Q9q(x:Value.okWide Tryz.prog w r b0 74 v)(u:DataW.Trod enc Tryz.prog w base (fun _=>true) held 74 v d ps):∃(us:List Wd) (vo:Option Addr) (vc:Nat),v=.slice vo us.length vc/\Gc w (.slice vo us.length vc) us/\us.length<=vc:=by
 obtain⟨m,k,g,rfl⟩:=okWide_slice Tryz.underlying74 x;obtain⟨o,e⟩:=u;have e:DataW.trod enc Tryz.prog w base (fun _=>true) held o 74 [.slice m k g]=some (d,ps):=by simpa [Value.cells] using e
 obtain⟨b,i,q,vo,vc,j,s⟩:=Fs (α:=Wd × Value) (hrow:=fun {n cs y} a=>by
  obtain⟨c,rfl⟩:∃ c,cs=[c]:=by
   rcases DataW.trod_slice Tryz.underlying23 a with ⟨a,_⟩ | ⟨A,k,g,B,E,D,C,a,_⟩
   ·exact⟨_,a⟩
   ·exact⟨_,a⟩
  obtain⟨l,vo,vc,rfl,z,t⟩:=Sn (c:=c) a;exact⟨(l,.slice vo l.length vc),rfl,vo,vc,rfl,z,t⟩) Tryz.underlying74 Q5k zd (fun p=>[p.2]) (fun p=>Qy w p.2 p.1) e
 rw [j] at i;have f:(b.map (·.1)).length=b.length:=List.length_map ..;refine⟨b.map (·.1),vo,vc,by rw [f];exact j,⟨b.map (·.2),by rw [f,<-Q21];exact i,Bc b q⟩,by rw [f];exact s⟩
end
end Go.Proofs.YtejenndedjabhaaGreatDoor
