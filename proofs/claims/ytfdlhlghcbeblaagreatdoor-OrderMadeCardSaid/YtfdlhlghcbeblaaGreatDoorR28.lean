/- What a slice of words among the arguments reads as. -/
import Derived.Test.YtfdlhlghcbeblaaGreatDoorR15
import Derived.Test.YtfdlhlghcbeblaaGreatDoorR27
set_option maxRecDepth 100000
namespace Go.Proofs.YtfdlhlghcbeblaaGreatDoor
open Go.RowKit Go.Ab Go.ChangeShapes Go.WideShapes
theorem Q1x:Tryz.prog.cellsOf 99=1:=by kernel_rfl
theorem Bx:∀ l:List (Wd × Value),l.flatMap (fun p=>[p.2])=l.map (·.2)
 | []=>rfl
 | p::l=>by rw [List.flatMap_cons,Bx l];rfl
section
variable {H:Type} {enc:TypeId × Value->H} {w:World} {base b0:Nat} {held:Bool} {r:Reach} {v:Value} {d:DataW H} {ps:List MemPlace}
theorem Q2e(x:Value.okWide Tryz.prog w r b0 60 v)(u:DataW.Trod enc Tryz.prog w base (fun _=>true) held 60 v d ps):∃(us:List Wd) (vo:Option Addr) (vc:Nat),v=.slice vo us.length vc/\Hv w (.slice vo us.length vc) us:=by
 obtain⟨o,l,g,rfl⟩:=okWide_slice Tryz.underlying60 x;obtain⟨q,e⟩:=u;have e:DataW.trod enc Tryz.prog w base (fun _=>true) held q 60 [.slice o l g]=some (d,ps):=by simpa [Value.cells] using e
 obtain⟨b,j,s,vo,vc,k,_⟩:=Hn (α:=Wd × Value) (hrow:=fun {n cs y} a=>by
  obtain⟨c,rfl⟩:∃ c,cs=[c]:=by
   rcases DataW.trod_slice Tryz.underlying99 a with ⟨a,_⟩ | ⟨A,l,g,B,E,D,C,a,_⟩
   ·exact⟨_,a⟩
   ·exact⟨_,a⟩
  obtain⟨m,vo,vc,rfl,z,t⟩:=Px (c:=c) a;exact⟨(m,.slice vo m.length vc),rfl,vo,vc,rfl,z,t⟩) Tryz.underlying60 Q1x zd (fun p=>[p.2]) (fun p=>Zc w p.2 p.1) e
 rw [k] at j;have f:(b.map (·.1)).length=b.length:=List.length_map ..;refine⟨b.map (·.1),vo,vc,by rw [f];exact k,b.map (·.2),by rw [f,<-Bx];exact j,fun i hi=>?_⟩;rw [f] at hi;rw [List.getElem_map,List.getD_eq_getElem?_getD,List.getElem?_map,List.getElem?_eq_getElem hi];exact s _ (List.getElem_mem hi)
end
theorem Q78{w:World}{ps:Qs}{lo:Option Addr}{n lc:Nat}(g:Za w (.slice lo n lc) ps) (i:ps.length=n) {us:List Wd} {c:Option Addr} {a b:Nat} (j:Hv w (.slice c a b) us) (k:us.length=a) (x:Int) (d:0<=x) (m:x<256) (f:Tab w) :
  Calls Tryz.prog 14 #[.slice lo n lc,.slice c a b,.int .u8 x] w fun e w'=>e=.returned (.bool true)/\Ext w w':=by
 obtain⟨l,rfl⟩:=Int.eq_ofNat_of_zero_le d;exact Q8t g i j k l oz f
end Go.Proofs.YtfdlhlghcbeblaaGreatDoor
