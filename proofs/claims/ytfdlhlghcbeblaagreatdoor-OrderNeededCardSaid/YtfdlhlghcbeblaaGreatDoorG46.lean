/- PLAIN: what chapter 14's outright statements ask. -/
import Derived.Test.YtfdlhlghcbeblaaGreatDoorG45
import Derived.Test.YtfdlhlghcbeblaaGreatDoorG43
namespace Go.Proofs.YtfdlhlghcbeblaaGreatDoor
open Go.RowKit Go.Ab
def GoodLP(LD:List LawD)(QS:List (Wd × Wd)):Prop:=LD.length≤4∧QS.length≤5∧ordE LD QS=0
theorem ordE_of{LD:List LawD}{QS:List (Wd × Wd)} (h1:LD.length≤6) (h2:LD.all lawB=true) (h3:QS.length≤32) (h4:∀ q∈QS,wE q.1=0∧wE q.2=0):ordE LD QS=0:=by
 unfold ordE
 rw [if_neg (by omega),if_pos h2,if_neg (by omega)]
 clear h3
 induction QS with
 | nil=>rfl
 | cons q QS ih=>
  have:=h4 q (by simp)
  have h5:wpE q=0:=by unfold wpE;rw [if_pos this.1];exact this.2
  rw [List.map_cons]
  unfold firstE
  rw [if_pos h5]
  exact ih fun q hq=>h4 q (by simp [hq])
theorem lawsE_zero{LD:List LawD}(h:lawsE LD=0):LD.all lawB=true:=by
 unfold lawsE at h
 split at h
 ·cases h
 ·split at h
  ·assumption
  ·cases h
theorem orders_four(n:Nat)(hn:n≤4):(ordersR n).length≤24:=by
 have h:∀ n,(ordersR (n+1)).length=(n+1)*(ordersR n).length:=fun n=>by
  conv=>lhs;unfold ordersR
  rw [List.length_flatMap]
  have e:(List.range (n+1)).map (fun f=>((ordersR n).map fun r=>f::r.map fun x=>if f≤x then x+1 else x).length)=List.replicate (n+1) (ordersR n).length:=by
   apply List.ext_getElem
   ·simp
   ·intro i h1 h2;simp
  rw [e]
  simp
 have h0:(ordersR 0).length=1:=rfl
 have h1:(ordersR 1).length=1*(ordersR 0).length:=h 0
 have h2:(ordersR 2).length=2*(ordersR 1).length:=h 1
 have h3:(ordersR 3).length=3*(ordersR 2).length:=h 2
 have h4:(ordersR 4).length=4*(ordersR 3).length:=h 3
 have:n=0∨n=1∨n=2∨n=3∨n=4:=by omega
 rcases this with rfl | rfl | rfl | rfl | rfl <;> omega
theorem expl_four(LD:List LawD)(qs:PairsL)(n:Nat)(hn:n≤4):(explL LD qs n).length≤24:=by
 have h1:=explL_length LD qs n
 rw [perms_range] at h1
 exact Nat.le_trans h1 (orders_four n hn)
theorem explL_orders(LD:List LawD)(qs:PairsL)(n:Nat):explL LD qs n=(ordersR n).filter (fitsA LD qs):=by unfold explL;rw [perms_range]
def intsN(x:List Nat):List Int:=x.map fun(i:Nat)=>(i:Int)
def byI(ps:LawsL)(x:List Nat)(qs:PairsL):Int:=if firstR ps x qs=qs.length then -1 else(firstR ps x qs:Nat)
end Go.Proofs.YtfdlhlghcbeblaaGreatDoor
