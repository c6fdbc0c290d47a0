/- ablautlaw06.PatsTimes: the round of the inner loop (printed by gentimes.py). -/
import Derived.Test.YtapfoaiibjdfnaaDoorGoodC
namespace Go.Proofs.YtapfoaiibjdfnaaDoor
open Go.RowKit Go.Ab
attribute [local go_sem] Oper.semAt_some wide_fn wide_depth

/-- The loops of a code, one within another one behind it. -/
def loopsOf : Code → List Code
  | .loop c => c :: loopsOf c
  | .seq a b => loopsOf a ++ loopsOf b
  | .block _ c => loopsOf c
  | .scope c => loopsOf c
  | .cond _ a b => loopsOf a ++ loopsOf b
  | _ => []
noncomputable def timesBody : Code := ((Tryd.f9.body.map loopsOf).getD []).getD 2 .skip

def TimesI (w0 : World) (n x : Nat) (bo : Option Addr) (bcap g1 g2 g3 g4 g5 g6 c1 c2 c3 c4 c5 c6 : Nat) (a : Act) (V : World) : Prop :=
  ∃ (y : Nat), y ≤ n + 1 ∧ a.defers = [] ∧ (a.tmps.size = 227 ∧ a.tmps.getD 1 undef = .slice bo n bcap ∧ a.tmps.getD 10 undef = .slice (some ⟨g1, 0, none⟩) (n + 1) c1 ∧ a.tmps.getD 12 undef = .slice (some ⟨g2, 0, none⟩) (n + 1) c2 ∧ a.tmps.getD 14 undef = .slice (some ⟨g3, 0, none⟩) (n + 1) c3 ∧ a.tmps.getD 16 undef = .slice (some ⟨g4, 0, none⟩) (n + 1) c4 ∧ a.tmps.getD 18 undef = .slice (some ⟨g5, 0, none⟩) (n + 1) c5 ∧ a.tmps.getD 20 undef = .slice (some ⟨g6, 0, none⟩) (n + 1) c6 ∧ a.tmps.getD 22 undef = .int .i64 x ∧ a.tmps.getD 23 undef = .int .i64 y) ∧ Ext w0 V
def TimesM (n : Nat) (a : Act) : Nat := n + 1 - (intOf (a.tmps.getD 23 undef)).toNat

end Go.Proofs.YtapfoaiibjdfnaaDoor
