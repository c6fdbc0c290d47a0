/- PLAIN: the values of works()'s examples. -/
import Derived.Test.YtapfoaiibjdfnaaDoorFind
import Derived.Test.YtapfoaiibjdfnaaDoorEmpty
namespace Go.Proofs.YtapfoaiibjdfnaaDoor
open Go.RowKit Go.Ab

def wV : Pat := .node 1 4 0 false 0 0 []
def wC : Pat := .node 1 2 0 false 0 0 []
def wRep (x : Pat) (lo hi : Int) : Pat := .node 5 0 0 false lo hi [x]
def wApa : Wd := [(4, 2), (2, 5), (4, 2)]
def wPpa : Wd := [(2, 5), (2, 5), (4, 2)]
theorem works_1 : placeE wV wApa 0 = 0 ∧ endL wV wApa 0 = [1] := by decide +kernel
theorem works_2 : placeE (wRep wC 0 (-1)) wPpa 0 = 0 ∧ endL (wRep wC 0 (-1)) wPpa 0 = [0, 1, 2] := by decide +kernel
theorem works_3 : placeE (wRep wC 0 (-1)) wPpa 2 = 0 ∧ begL (wRep wC 0 (-1)) wPpa 2 = [0, 1, 2] := by decide +kernel
theorem works_4 : relE (.node 3 0 0 false 0 0 [wC, wV, wC, wV]) [(2, 5), (4, 2), (2, 5), (4, 2)] = 0 ∧ matV (.node 3 0 0 false 0 0 [wC, wV, wC, wV]) [(2, 5), (4, 2), (2, 5), (4, 2)] = true := by decide +kernel
theorem works_5 : placeE (.node 3 0 0 false 0 0 [wV, .node 6 0 0 false 0 0 []]) wApa 0 = 0 := by decide +kernel
theorem works_6 : emptyV (wRep wV 0 1) = true ∧ chkP (.node 1 0 0 false 1 0 []) = 2 := by decide +kernel
theorem works_7 : ∀ a, a < 4 → ∀ b, b < 4 → relR (.node 3 0 0 false 0 0 [wV, .node 6 0 0 false 0 0 []]) wApa a b = (a == 2 && b == 3) := by decide +kernel
theorem works_8 {x y : Int} {ok : Bool} (h : FindIs (relR (.node 3 0 0 false 0 0 [wV, .node 6 0 0 false 0 0 []]) wApa) 3 0 x y ok) : x = 2 ∧ y = 3 ∧ ok = true := by
  rcases h with ⟨_, _, _, h⟩ | ⟨h1, a, b, h2, h3, h4, h5, h6, h7, h8⟩
  · have := h 2 3 (by omega) (by omega)
    rw [works_7 2 (by omega) 3 (by omega)] at this
    simp at this
  · have hm : Mono 3 (relR (.node 3 0 0 false 0 0 [wV, .node 6 0 0 false 0 0 []]) wApa) := by
      unfold relR
      split
      · exact relP_mono wApa _
      · exact Mono.no _
    have hb := (hm a b h6).2
    rw [works_7 a (by omega) b (by omega)] at h6
    simp at h6
    exact ⟨by omega, by omega, h1⟩
end Go.Proofs.YtapfoaiibjdfnaaDoor
