/- math/bits.Len64, of a row. -/
import Derived.Test.YtapfoaiibjdfnaaDoorTz
import Derived.Lib.Strings
import Derived.Lib.Slices
import Derived.Lib.Small
import Derived.Lib.Walk
import Derived.Lib.BitFns
namespace Go.Proofs.YtapfoaiibjdfnaaDoor
open Go.RowKit Go.Ab

theorem len_size : Lib.len8tab.size = 256 := by decide +kernel
theorem len_at : ∀ n : Fin Lib.len8tab.size, (Lib.len8tab[n.val]).toNat = Lib.bitLen n.val := by decide +kernel
theorem len_fin (y : Nat) (h : y < Lib.len8tab.size) : (Lib.len8tab[y]).toNat = Lib.bitLen y ∧ Lib.bitLen y ≤ 8 := ⟨len_at ⟨y, h⟩, Lib.bitLen_le8 ⟨y, by rw [← len_size]; exact h⟩⟩
theorem len_sum (x y s : Nat) (hx : x < 18446744073709551616) (hy : y = x / 2 ^ s) (h : 2 ^ s ≤ x) : Lib.bitLen x = s + Lib.bitLen y := by
  rw [hy]; exact Lib.bitLen_shift s x h hx
theorem wrap_small (s : Int) (b : Nat) (hs : 0 ≤ s ∧ s ≤ 56) (hb : b ≤ 8) : wrap64 (s + wrap64 (b : Int)) = s + b := by
  unfold wrap64; omega

theorem len_fit {x : Int} (h0 : 0 ≤ x) (h1 : x ≤ 18446744073709551615) (y : Int) (s : Nat) (hs : s ≤ 56) (hy : y = x / ((2 ^ s : Nat) : Int)) (hlo : ((2 ^ s : Nat) : Int) ≤ x) (_hhi : y < 256) (h : y.toNat < Lib.len8tab.size) :
    wrap64 ((s : Int) + wrap64 ((Lib.len8tab[y.toNat]).toNat : Int)) = (Lib.bitLen x.toNat : Int) := by
  obtain ⟨e1, e2⟩ := len_fin y.toNat h
  rw [e1, wrap_small _ _ ⟨by omega, by omega⟩ e2]
  obtain ⟨n, rfl⟩ := Int.eq_ofNat_of_zero_le h0
  have hy2 : y.toNat = n / 2 ^ s := by
    have e : ((n : Int) / ((2 ^ s : Nat) : Int)) = ((n / 2 ^ s : Nat) : Int) := (Int.natCast_ediv n (2 ^ s)).symm
    rw [hy, e, Int.toNat_natCast]
  have := len_sum n y.toNat s (by omega) hy2 (by exact_mod_cast hlo)
  rw [Int.toNat_natCast, this]
  omega
theorem len_fit0 {x : Int} (_h0 : 0 ≤ x) (_hhi : x < 256) (h : x.toNat < Lib.len8tab.size) :
    wrap64 (wrap64 ((Lib.len8tab[x.toNat]).toNat : Int)) = (Lib.bitLen x.toNat : Int) := by
  obtain ⟨e1, e2⟩ := len_fin x.toNat h
  rw [e1]
  have := wrap_small 0 (Lib.bitLen x.toNat) (by omega) e2
  rw [Int.zero_add, Int.zero_add] at this
  exact this

set_option maxHeartbeats 4000000 in
set_option maxRecDepth 100000 in
theorem len_core (x : Int) (w : World) (h0 : 0 ≤ x) (h1 : x ≤ 18446744073709551615) :
    Calls Tryd.prog 53 #[.int .u64 x] w fun e w' => e = .returned (.int .i64 (Lib.bitLen x.toNat)) ∧ w' = w := by
  have hsz := len_size
  go_enter Tryd.func53, Tryd.ntmps53
  go_wp2
  all_goals
    refine bodyPost_ret (results_tmp rfl _ _ _) rfl ⟨?_, rfl⟩
    show Ending.returned (.int .i64 _) = Ending.returned (.int .i64 _)
    refine ret_int ?_
  all_goals first
    | exact len_fit h0 h1 (x / 4294967296 / 65536 / 256) 56 (by omega) (by omega) (by omega) (by omega) _
    | exact len_fit h0 h1 (x / 4294967296 / 65536) 48 (by omega) (by omega) (by omega) (by omega) _
    | exact len_fit h0 h1 (x / 4294967296 / 256) 40 (by omega) (by omega) (by omega) (by omega) _
    | exact len_fit h0 h1 (x / 4294967296) 32 (by omega) (by omega) (by omega) (by omega) _
    | exact len_fit h0 h1 (x / 65536 / 256) 24 (by omega) (by omega) (by omega) (by omega) _
    | exact len_fit h0 h1 (x / 65536) 16 (by omega) (by omega) (by omega) (by omega) _
    | exact len_fit h0 h1 (x / 256) 8 (by omega) (by omega) (by omega) (by omega) _
    | exact len_fit0 h0 (by omega) _

theorem len_any (x : Nat) (hx : x < 18446744073709551616) (w : World) :
    Calls Tryd.prog 53 #[.int .u64 (x : Int)] w fun e w' => e = .returned (.int .i64 (Lib.bitLen x)) ∧ w' = w := len_core (x : Int) w (by omega) (by omega)
end Go.Proofs.YtapfoaiibjdfnaaDoor
