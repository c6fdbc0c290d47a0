/- math/bits.Len64, of a row. -/
import Derived.Test.YtbmbdoanammlgaaDoorP02
import Derived.Lib.Strings
import Derived.Lib.Slices
import Derived.Lib.Small
import Derived.Lib.Walk
import Derived.Lib.BitFns
set_option maxRecDepth 100000
set_option maxHeartbeats 4000000
namespace Go.Proofs.YtbmbdoanammlgaaDoor
open Go.RowKit Go.Ab
theorem Ho:Lib.len8tab.size=256:=by decide +kernel
theorem Nf:∀ n:Fin Lib.len8tab.size,(Lib.len8tab[n.val]).toNat=Lib.bitLen n.val:=by decide +kernel
theorem Ww(y:Nat)(h:y<Lib.len8tab.size):(Lib.len8tab[y]).toNat=Lib.bitLen y/\Lib.bitLen y<=8:=⟨Nf ⟨y,h⟩,Lib.bitLen_le8 ⟨y,by rw [<-Ho];exact h⟩⟩
theorem Mb(x y s:Nat)(a:x<18446744073709551616)(b:y=x / 2 ^ s)(h:2 ^ s<=x):Lib.bitLen x=s+Lib.bitLen y:=by
 rw [b];exact Lib.bitLen_shift s x h a
theorem Kc(s:Int)(b:Nat)(c:0<=s/\s<=56)(a:b<=8):wrap64 (s+wrap64 (b:Int))=s+b:=by
 unfold wrap64;omega
theorem Xp{x:Int}(e:0<=x)(j:x<=18446744073709551615)(y:Int)(s:Nat)(k:s<=56)(g:y=x / ((2 ^ s:Nat):Int)) (f:((2 ^ s:Nat):Int)<=x) (_hhi:y<256) (h:y.toNat<Lib.len8tab.size) :
  wrap64 ((s:Int)+wrap64 ((Lib.len8tab[y.toNat]).toNat:Int))=(Lib.bitLen x.toNat:Int):=by
 obtain⟨c,d⟩:=Ww y.toNat h;rw [c,Kc _ _ ⟨by omega,by omega⟩ d];obtain⟨a,rfl⟩:=Int.eq_ofNat_of_zero_le e;have i:y.toNat=a / 2 ^ s:=by
  have b:((a:Int) / ((2 ^ s:Nat):Int))=((a / 2 ^ s:Nat):Int):=(Int.natCast_ediv a (2 ^ s)).symm;rw [g,b,Int.toNat_natCast]
 have:=Mb a y.toNat s oz i (by exact_mod_cast f);rw [Int.toNat_natCast,this];omega
theorem Ln{x:Int}(_h0:0<=x)(_hhi:x<256)(h:x.toNat<Lib.len8tab.size) :
  wrap64 (wrap64 ((Lib.len8tab[x.toNat]).toNat:Int))=(Lib.bitLen x.toNat:Int):=by
 obtain⟨a,b⟩:=Ww x.toNat h;rw [a];have:=Kc 0 (Lib.bitLen x.toNat) oz b;rw [Int.zero_add,Int.zero_add] at this;exact this
theorem Lb(x:Int)(w:World)(a:0<=x)(b:x<=18446744073709551615) :
  Calls Tryd.prog 27 #[.int .u64 x] w fun e w'=>e=.returned (.int .i64 (Lib.bitLen x.toNat))/\w'=w:=by
 have c:=Ho;go_enter Tryd.func27,Tryd.ntmps27;go_wp2
 all_goals
  refine bodyPost_ret (results_tmp rfl _ _ _) rfl ⟨?_,rfl⟩;show Ending.returned (.int .i64 _)=Ending.returned (.int .i64 _);refine Qr ?_
 all_goals first
  | exact Xp a b (x / 4294967296 / 65536 / 256) 56 oz oz oz oz _
  | exact Xp a b (x / 4294967296 / 65536) 48 oz oz oz oz _
  | exact Xp a b (x / 4294967296 / 256) 40 oz oz oz oz _
  | exact Xp a b (x / 4294967296) 32 oz oz oz oz _
  | exact Xp a b (x / 65536 / 256) 24 oz oz oz oz _
  | exact Xp a b (x / 65536) 16 oz oz oz oz _
  | exact Xp a b (x / 256) 8 oz oz oz oz _
  | exact Ln a oz _
theorem Mu(x:Nat)(hx:x<18446744073709551616)(w:World) :
  Calls Tryd.prog 27 #[.int .u64 (x:Int)] w fun e w'=>e=.returned (.int .i64 (Lib.bitLen x))/\w'=w:=Lb (x:Int) w oz oz
end Go.Proofs.YtbmbdoanammlgaaDoor
