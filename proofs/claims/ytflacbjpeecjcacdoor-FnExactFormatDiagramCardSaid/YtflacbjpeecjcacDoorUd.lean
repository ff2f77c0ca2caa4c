/- Lists of nodes that are compared. Nodes that are marked and held, as the laws do. -/
import Derived.Test.YtflacbjpeecjcacDoorUL
import Derived.Test.YtflacbjpeecjcacDoorFlawseqNodeS
import Derived.Test.YtflacbjpeecjcacDoorBase
import Derived.Test.YtflacbjpeecjcacDoorF0
namespace Go.Proofs.YtflacbjpeecjcacDoor.U
open Go.RowKit Go.Proofs.YtflacbjpeecjcacDoorW.PrintWords Go.Proofs.YtflacbjpeecjcacDoorW.PrintLast Go.Proofs.YtflacbjpeecjcacDoorW.PrintMore Go.Proofs.YtflacbjpeecjcacDoor.F Go.Proofs.YtflacbjpeecjcacDoor.B
set_option linter.unusedVariables false
set_option linter.unusedSimpArgs false
theorem eqNode_loop (l : List S30) (hl : l.length < 1099511627776) : ∀ d k x, x + d = l.length → d < k → laws_eqNodeS.l0 k l l (x : Nat) = some true := by
  intro d
  induction d with
  | zero =>
    intro k x hx hk
    obtain ⟨k, rfl⟩ : ∃ m, k = m + 1 := ⟨k - 1, by omega⟩
    obtain rfl : x = l.length := by omega
    simp only [laws_eqNodeS.l0]
    rw [if_neg (by omega)]
  | succ d ih =>
    intro k x hx hk
    obtain ⟨k, rfl⟩ : ∃ m, k = m + 1 := ⟨k - 1, by omega⟩
    simp only [laws_eqNodeS.l0, laws_eqNode.f]
    rw [if_pos (by omega), if_pos (by omega), if_pos (by omega), if_pos trivial, if_pos trivial, if_pos trivial, Option.bind_some, if_pos rfl, wrap64_succ (by omega)]
    exact ih k (x + 1) (by omega) (by omega)
theorem eqNode_self (l : List S30) {k : Nat} (hl : l.length < 1099511627776) (hk : l.length < k) : laws_eqNodeS.f k l l = some true := by
  unfold laws_eqNodeS.f
  rw [if_pos rfl]
  exact eqNode_loop l hl l.length k 0 (by omega) hk
end Go.Proofs.YtflacbjpeecjcacDoor.U

namespace Go.Proofs.YtflacbjpeecjcacDoor.U
open Go.RowKit Go.Proofs.YtflacbjpeecjcacDoorW.PrintWords Go.Proofs.YtflacbjpeecjcacDoorW.PrintLast Go.Proofs.YtflacbjpeecjcacDoorW.PrintMore Go.Proofs.YtflacbjpeecjcacDoor.F Go.Proofs.YtflacbjpeecjcacDoor.B
set_option linter.unusedVariables false
set_option linter.unusedSimpArgs false
/-- A node with three numbers in a row. -/
def nd (q : Nat) : S30 := ⟨(q : Int), ((q + 1 : Nat) : Int), ((q + 1 + 1 : Nat) : Int)⟩
def marksN (q n : Nat) : List S30 := (List.range n).map fun i => nd (q + 3 * i)
theorem marksN_length (q n : Nat) : (marksN q n).length = n := by simp [marksN]
theorem marksN_succ (q n : Nat) : marksN q (n + 1) = marksN q n ++ [nd (q + 3 * n)] := by simp [marksN, List.range_succ]
theorem rdN_set (X : List S30) (v : S30) {x : Nat} (h : x < X.length) : rd_T30 (X.set x v) (x : Nat) = v := by
  unfold rd_T30
  rw [Int.toNat_natCast, List.getD_eq_getElem?_getD, List.getElem?_set_self h]
  rfl
theorem rdN_marks {q n x : Nat} (h : x < n) : rd_T30 (marksN q n) (x : Nat) = nd (q + 3 * x) := by
  unfold rd_T30
  rw [Int.toNat_natCast, List.getD_eq_getElem?_getD]
  simp [marksN, h]
theorem markN_step (q : Nat) (l : List S30) {x : Nat} (h : x < l.length) : (marksN q x ++ l.drop x).set x (nd (q + 3 * x)) = marksN q (x + 1) ++ l.drop (x + 1) := by
  rw [List.set_append, if_neg (by rw [marksN_length]; omega), marksN_length, Nat.sub_self, List.drop_eq_getElem_cons h, List.set_cons_zero, marksN_succ, List.append_assoc]
  rfl
end Go.Proofs.YtflacbjpeecjcacDoor.U
