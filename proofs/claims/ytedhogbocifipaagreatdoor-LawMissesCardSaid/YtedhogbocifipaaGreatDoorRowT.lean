/- law.Trace as rows. -/
import Derived.Test.YtedhogbocifipaaGreatDoorGa22
import Derived.Test.YtedhogbocifipaaGreatDoorLTrace
namespace Go.Proofs.YtedhogbocifipaaGreatDoor
open Go.RowKit Go.Ab
attribute [local go_sem] Oper.semAt_some wide_fn wide_depth

theorem TrOut.nats {b : Nat} {A : World} {u v : Value} {t : List (Nat × Wd)} (h : TrOut b A u v t) : NatsAt A u (t.map (·.1)) := by
 unfold NatsAt
 rw [List.length_map]
 exact Rd.of_own h.1
theorem TrOut.len {b : Nat} {A : World} {u v : Value} {t : List (Nat × Wd)} (h : TrOut b A u v t) : t.length ≤ maxLen := by
 obtain ⟨_, _, _, _, _, _, h⟩ := h.slices
 exact h
theorem TrOut.word {b N : Nat} {A : World} {u : Value} {vo : Option Addr} {vc : Nat} {t : List (Nat × Wd)} (h : TrOut b A u (.slice vo N vc) t) (hN : t.length = N) {i : Nat} (hi : i < N) :
  ∃ g ao c n us, vo = some ⟨g, 0, none⟩ ∧ us = (t.map (·.2)).getD i [] ∧ us.length = n ∧ A.cell? ⟨g, i, none⟩ = some (.slice ao n c) ∧ WordAt A (.slice ao n c) us ∧ n ≤ c := by
 have hi' : i < t.length := by omega
 obtain ⟨g, cap, ao, c, hq, h1, h2, h3⟩ := h.at hi'
 simp only [Value.slice.injEq] at hq
 exact ⟨g, ao, c, _, t[i].2, hq.1, by rw [List.getD_eq_getElem?_getD, List.getElem?_map, List.getElem?_eq_getElem hi']; rfl, rfl, h1, h2, h3⟩
theorem trace_one {w : World} {l : LawD} {cs : List Value} {vo : Option Addr} {vc : Nat} {ws : Wd} (hl : LawAt w l cs) (hv : WordAt w (.slice vo ws.length vc) ws) (hcap : ws.length ≤ vc) (hT : Tab w) :
  Calls Tryz.prog 23 #[.agg cs.toArray, .slice vo ws.length vc] w fun e w' => ∃ uo uc xo xc, e = .returned (.tuple #[.slice uo (trT l ws).length uc, .slice xo (trT l ws).length xc, .int .i64 (trE l ws)]) ∧ TrOut w.heap.size w' (.slice uo (trT l ws).length uc) (.slice xo (trT l ws).length xc) (trT l ws) ∧ Ext w w' :=
 (ltrace_any hl hv hcap hT).mono fun _ _ ⟨u, v, h1, h2, h3⟩ => by
  obtain ⟨uo, uc, xo, xc, rfl, rfl, _⟩ := h2.slices
  exact ⟨uo, uc, xo, xc, h1, h2, h3⟩
end Go.Proofs.YtedhogbocifipaaGreatDoor
