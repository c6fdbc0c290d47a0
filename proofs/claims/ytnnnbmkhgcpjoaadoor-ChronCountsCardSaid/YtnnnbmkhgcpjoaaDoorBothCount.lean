/- A chronology and the reference's one: Count and Allows. -/
import Derived.Test.YtnnnbmkhgcpjoaaDoorBoth
import Derived.Test.YtnnnbmkhgcpjoaaDoorRefCount
import Derived.Test.YtnnnbmkhgcpjoaaDoorRefAllows
namespace Go.Proofs.YtnnnbmkhgcpjoaaDoor
open Go.RowKit Go.Ab

theorem allows_zv {w : World} (v : Value) : Calls Tryd.prog 21 #[.pointer none, v] w fun e w' => e = .returned (.tuple #[.bool false, .int .i64 1]) ∧ w = w' := by
  go_enter Tryd.func21, Tryd.ntmps21
  go_wp2
  go_ret2
  exact ⟨rfl, rfl⟩

theorem both_count {n : Int} {W : World} {base : Nat} {o r : Option Addr} (h : Both n W base o r) (hn : n ≤ 9 ∨ 16 < n) (hT : Tab W) :
    ∃ c z, (Calls Tryd.prog 19 #[.pointer o] W fun e w' => e = .returned (.tuple #[.int .i64 c, .int .i64 z]) ∧ Ext W w') ∧
      ∀ W1, Ext W W1 → Calls Tryd.prog 20 #[.pointer r] W1 fun e w' => e = .returned (.tuple #[.int .i64 c, .int .i64 z]) ∧ Ext W1 w' := by
  rcases h with ⟨rfl, rfl⟩ | ⟨m, b, c, R, hmn, hm, rfl, rfl, hb, h1, h2, h3⟩
  · refine ⟨0, 1, (count_z (.inl rfl)), fun W1 _ => (refCount_nil W1).mono ?_⟩
    rintro e _ ⟨rfl, rfl⟩
    exact ⟨rfl, Turn.refl _ _⟩
  · rcases hn with hn | hn
    · exact ⟨countR m R, 0, count_any b m R (by omega) W h1 hT, fun W1 hE => refCount_ok (by omega) h3 (h2.ext hE)⟩
    · refine ⟨0, 12, count_many b m R hm (by omega) W h1, fun W1 hE => (refCount_many (by omega) (h2.ext hE)).mono ?_⟩
      rintro e _ ⟨rfl, rfl⟩
      exact ⟨rfl, Turn.refl _ _⟩

theorem both_allows {n : Int} {W : World} {base : Nat} {o r : Option Addr} (h : Both n W base o r) (L : List Int) :
    ∃ p z, (∀ W1 v, Ext W W1 → Rd W1 v L.length 1 (ints L) → Calls Tryd.prog 21 #[.pointer o, v] W1 fun e w' => e = .returned (.tuple #[.bool p, .int .i64 z]) ∧ W1 = w') ∧
      ∀ W1 v, Ext W W1 → Rd W1 v L.length 1 (ints L) → Calls Tryd.prog 22 #[.pointer r, v] W1 fun e w' => e = .returned (.tuple #[.bool p, .int .i64 z]) ∧ Ext W1 w' := by
  rcases h with ⟨rfl, rfl⟩ | ⟨m, b, c, R, hmn, hm, rfl, rfl, hb, h1, h2, h3⟩
  · refine ⟨false, 1, fun W1 v _ _ => allows_zv v, fun W1 v _ _ => (refAllows_nil v W1).mono ?_⟩
    rintro e _ ⟨rfl, rfl⟩
    exact ⟨rfl, Turn.refl _ _⟩
  · exact ⟨_, _, fun W1 v hE hv => allows_any b m R hm W1 (OrdR.keep h1 hE id) v L hv, fun W1 v hE hv => refAllows_ok hm h3 (h2.ext hE) v L hv⟩
end Go.Proofs.YtnnnbmkhgcpjoaaDoor
