/- A copy of a list of numbers. -/
import Derived.Test.YtflacbjpeecjcacDoorU4
import Derived.Test.YtflacbjpeecjcacDoorF0
import Derived.Test.YtflacbjpeecjcacDoorBase
namespace Go.Proofs.YtflacbjpeecjcacDoor.U
open Go.RowKit Go.Proofs.YtflacbjpeecjcacDoorW.PrintWords Go.Proofs.YtflacbjpeecjcacDoorW.PrintLast Go.Proofs.YtflacbjpeecjcacDoorW.PrintMore Go.Proofs.YtflacbjpeecjcacDoor.F Go.Proofs.YtflacbjpeecjcacDoor.B
set_option linter.unusedVariables false
set_option linter.unusedSimpArgs false
theorem copy_step (l : List Int) {x : Nat} (h : x < l.length) : (l.take x ++ List.replicate (l.length - x) 0).set x (l.getD x 0) = l.take (x + 1) ++ List.replicate (l.length - (x + 1)) 0 := by
  obtain ⟨d, hd⟩ : ∃ d, l.length - x = d + 1 := ⟨l.length - x - 1, by omega⟩
  rw [hd, show l.length - (x + 1) = d by omega, List.replicate_succ, List.set_append, if_neg (by rw [List.length_take]; omega), List.length_take, show x - min x l.length = 0 by omega, List.set_cons_zero, ← List.take_append_getElem h, List.append_assoc, List.getD_eq_getElem?_getD, List.getElem?_eq_getElem h]
  rfl
end Go.Proofs.YtflacbjpeecjcacDoor.U
