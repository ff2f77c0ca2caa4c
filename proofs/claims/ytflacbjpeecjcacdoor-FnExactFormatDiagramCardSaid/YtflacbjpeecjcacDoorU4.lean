/- Lists that are compared, marked and held, as the laws do. -/
import Derived.Test.YtflacbjpeecjcacDoorBase
import Derived.Test.YtflacbjpeecjcacDoorF0
namespace Go.Proofs.YtflacbjpeecjcacDoor.U
open Go.RowKit Go.Proofs.YtflacbjpeecjcacDoorW.PrintWords Go.Proofs.YtflacbjpeecjcacDoorW.PrintLast Go.Proofs.YtflacbjpeecjcacDoorW.PrintMore Go.Proofs.YtflacbjpeecjcacDoor.F Go.Proofs.YtflacbjpeecjcacDoor.B
set_option linter.unusedVariables false
set_option linter.unusedSimpArgs false
theorem rd_cast (l : List Int) (x : Nat) : rd l (x : Int) = l.getD x 0 := by unfold rd; rw [Int.toNat_natCast]
/-- What marking leaves: the numbers from 1 on. -/
def marks (n : Nat) : List Int := (List.range n).map fun i => ((i + 1 : Nat) : Int)
theorem marks_length (n : Nat) : (marks n).length = n := by simp [marks]
theorem marks_succ (n : Nat) : marks (n + 1) = marks n ++ [((n + 1 : Nat) : Int)] := by simp [marks, List.range_succ]
theorem marks_get {n i : Nat} (h : i < n) : (marks n).getD i 0 = ((i + 1 : Nat) : Int) := by
  simp [marks, List.getD_eq_getElem?_getD, h]
theorem mark_step (l : List Int) {x : Nat} (h : x < l.length) : (marks x ++ l.drop x).set x ((x + 1 : Nat) : Int) = marks (x + 1) ++ l.drop (x + 1) := by
  rw [List.set_append, if_neg (by rw [marks_length]; omega), marks_length, Nat.sub_self, List.drop_eq_getElem_cons h, List.set_cons_zero, marks_succ, List.append_assoc]
  rfl
end Go.Proofs.YtflacbjpeecjcacDoor.U
