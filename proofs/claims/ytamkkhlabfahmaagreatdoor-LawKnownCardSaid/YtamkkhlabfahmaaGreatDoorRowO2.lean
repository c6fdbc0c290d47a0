/- law.Once as one word (without the rows' helpers). -/
import Derived.Test.YtamkkhlabfahmaaGreatDoorGa20
import Derived.Test.YtamkkhlabfahmaaGreatDoorGa31
namespace Go.Proofs.YtamkkhlabfahmaaGreatDoor
open Go.RowKit Go.Ab
attribute [local go_sem] Oper.semAt_some wide_fn wide_depth

theorem replL_ok {w : World} {l : LawD} {cs : List Value} (hl : LawAt w l cs) {ws : Wd} (hc : WdOk ws) (i : Nat) : WdOk (replL l ws i) := by
 obtain ⟨_, _, _, _, _, _, _, _, _, ho⟩ := hl
 unfold replL repl
 intro s hs
 rw [List.mem_append, List.mem_append] at hs
 rcases hs with (hs | hs) | hs
 ·exact hc s (List.mem_of_mem_take hs)
 ·exact putL_ok (fun s hs => hc s (List.mem_of_mem_drop (List.mem_of_mem_take hs))) ho.2 s hs
 ·exact hc s (List.mem_of_mem_drop hs)
theorem onceW_ok {w : World} {l : LawD} {cs : List Value} (hl : LawAt w l cs) {ws : Wd} (hc : WdOk ws) (z : Int) : WdOk (onceW l ws z) := by
 unfold onceW
 split
 ·exact replL_ok hl hc _
 ·simp [WdOk]
theorem OneW.of_own {w : World} {base : Nat} {e : TypeId} {v : Value} {u : Wd} (h : w.ownsRow base e 2 v u.length (sndL u)) (hok : WdOk u) : OneW w v u := by
 obtain ⟨_, _, ao, c, rfl, _⟩ := Rd.of_own h
 exact OneW.own h hok
theorem once_one {w : World} {l : LawD} {cs : List Value} {vo : Option Addr} {vc : Nat} {ws : Wd} (hl : LawAt w l cs) (hv : WordAt w (.slice vo ws.length vc) ws) (hcap : ws.length ≤ vc) (hT : Tab w) (z : Int) :
  Calls Tryz.prog 20 #[.agg cs.toArray, .slice vo ws.length vc, .int .i64 z] w fun e w' => ∃ u, e = .returned (.tuple #[u, .int .i64 (onceE l ws z)]) ∧ OneW w' u (onceW l ws z) ∧ Ext w w' :=
 (lonce_any hl hv hcap hT z).mono fun _ _ ⟨u, h1, h2, h3⟩ => ⟨u, h1, OneW.of_own h2 (onceW_ok hl hv.2 z), h3⟩
end Go.Proofs.YtamkkhlabfahmaaGreatDoor
