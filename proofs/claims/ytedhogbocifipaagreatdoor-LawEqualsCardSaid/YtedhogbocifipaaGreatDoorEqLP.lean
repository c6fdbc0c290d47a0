/- PLAIN: equality of laws. -/
import Derived.Test.YtedhogbocifipaaGreatDoorRefLike
import Derived.Test.YtedhogbocifipaaGreatDoorGa08
namespace Go.Proofs.YtedhogbocifipaaGreatDoor
open Go.RowKit Go.Ab

mutual
theorem likeP_comm : ∀ p q : Pat, likeP p q = likeP q p
 | .node k pl mi nt mn mx l, .node k' pl' mi' nt' mn' mx' l' => by
  rw [likeP_eq, likeP_eq]
  show (k == k' && (pl == pl' && mi == mi') && nt == nt' && mn == mn' && mx == mx' && likeL l l') = (k' == k && (pl' == pl && mi' == mi) && nt' == nt && mn' == mn && mx' == mx && likeL l' l)
  rw [likeL_comm l l', Bool.beq_comm (a := k), Bool.beq_comm (a := pl), Bool.beq_comm (a := mi), Bool.beq_comm (a := nt), Bool.beq_comm (a := mn), Bool.beq_comm (a := mx)]
theorem likeL_comm : ∀ l r : List Pat, likeL l r = likeL r l
 | [], [] => rfl
 | [], _ :: _ => by rw [likeL, likeL]; rfl
 | _ :: _, [] => by rw [likeL, likeL]; rfl
 | p :: l, q :: r => by rw [likeL_cons, likeL_cons, likeP_comm p q, likeL_comm l r]
end
theorem equalV_comm (p q : Pat) : equalV p q = equalV q p := by
 unfold equalV; rw [likeP_comm, Bool.and_comm (decide (chkP p = 0))]
def eqO (x y : OutD) : Bool := x.frm == y.frm && x.cl == y.cl && (x.st.1 == y.st.1 && x.st.2 == y.st.2) && x.tk == y.tk && x.ofi == y.ofi
def eqOL : List OutD → List OutD → Bool
 | [], r => r.isEmpty
 | x :: l, r => (match r with | [] => false | y :: r => eqO x y && eqOL l r)
theorem eqO_comm (x y : OutD) : eqO x y = eqO y x := by
 unfold eqO
 rw [Bool.beq_comm (a := x.frm), Bool.beq_comm (a := x.cl), Bool.beq_comm (a := x.st.1), Bool.beq_comm (a := x.st.2), Bool.beq_comm (a := x.tk), Bool.beq_comm (a := x.ofi)]
theorem eqO_refl (x : OutD) : eqO x x = true := by unfold eqO; simp
theorem eqOL_cons (x y : OutD) (l r : List OutD) : eqOL (x :: l) (y :: r) = (eqO x y && eqOL l r) := by rw [eqOL]
theorem eqOL_nil : eqOL [] [] = true := by rw [eqOL]; rfl
theorem eqOL_comm : ∀ l r : List OutD, eqOL l r = eqOL r l
 | [], [] => rfl
 | [], _ :: _ => by rw [eqOL, eqOL]; rfl
 | _ :: _, [] => by rw [eqOL, eqOL]; rfl
 | x :: l, y :: r => by rw [eqOL_cons, eqOL_cons, eqO_comm x y, eqOL_comm l r]
theorem eqOL_refl : ∀ l : List OutD, eqOL l l = true
 | [] => eqOL_nil
 | x :: l => by rw [eqOL_cons, eqO_refl, eqOL_refl l]; rfl
theorem eqOL_len : ∀ {l r : List OutD}, eqOL l r = true → l.length = r.length
 | [], [], _ => rfl
 | [], _ :: _, h => by rw [eqOL] at h; cases h
 | _ :: _, [], h => by rw [eqOL] at h; cases h
 | x :: l, y :: r, h => by
  rw [eqOL_cons, Bool.and_eq_true] at h
  simp [eqOL_len h.2]
theorem eqOL_drop {l r : List OutD} {k : Nat} (h1 : k < l.length) (h2 : k < r.length) : eqOL (l.drop k) (r.drop k) = (eqO l[k] r[k] && eqOL (l.drop (k + 1)) (r.drop (k + 1))) := by
 rw [List.drop_eq_getElem_cons h1, List.drop_eq_getElem_cons h2, eqOL_cons]
/-- Are two laws the same? -/
def eqL (a b : LawD) : Bool := decide (a.name = b.name) && decide (a.mode = b.mode) && equalV a.left b.left && equalV a.right b.right && decide (a.ifs = b.ifs) && eqOL a.outs b.outs
theorem eqL_comm (a b : LawD) : eqL a b = eqL b a := by
 unfold eqL
 rw [equalV_comm a.left, equalV_comm a.right, eqOL_comm a.outs, decide_eq_decide.2 (eq_comm (a := a.name)), decide_eq_decide.2 (eq_comm (a := a.mode)), decide_eq_decide.2 (eq_comm (a := a.ifs))]
theorem eqL_refl (a : LawD) : eqL a a = (decide (chkP a.left = 0) && decide (chkP a.right = 0)) := by
 unfold eqL
 rw [equalV_refl, equalV_refl, eqOL_refl, decide_eq_true rfl, decide_eq_true rfl, decide_eq_true rfl]
 simp
end Go.Proofs.YtedhogbocifipaaGreatDoor
