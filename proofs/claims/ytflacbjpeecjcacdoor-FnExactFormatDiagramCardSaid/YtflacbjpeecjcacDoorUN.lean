/- Copies of lists of nodes. -/
import Derived.Test.YtflacbjpeecjcacDoorUL
import Derived.Test.YtflacbjpeecjcacDoorFlawstoNodeS
import Derived.Test.YtflacbjpeecjcacDoorFlawsszNodeS
import Derived.Test.YtflacbjpeecjcacDoorUd
import Derived.Test.YtflacbjpeecjcacDoorBase
namespace Go.Proofs.YtflacbjpeecjcacDoor.U
open Go.RowKit Go.Proofs.YtflacbjpeecjcacDoorW.PrintWords Go.Proofs.YtflacbjpeecjcacDoorW.PrintLast Go.Proofs.YtflacbjpeecjcacDoorW.PrintMore Go.Proofs.YtflacbjpeecjcacDoor.F Go.Proofs.YtflacbjpeecjcacDoor.B
set_option linter.unusedVariables false
set_option linter.unusedSimpArgs false
def cvN (s : S34) : S30 := ⟨s.f0, s.f1, s.f2⟩
theorem copyN_step {α : Type} (l : List α) (z : α) {x : Nat} (h : x < l.length) : (l.take x ++ List.replicate (l.length - x) z).set x (l.getD x z) = l.take (x + 1) ++ List.replicate (l.length - (x + 1)) z := by
  obtain ⟨d, hd⟩ : ∃ d, l.length - x = d + 1 := ⟨l.length - x - 1, by omega⟩
  rw [hd, show l.length - (x + 1) = d by omega, List.replicate_succ, List.set_append, if_neg (by rw [List.length_take]; omega), List.length_take, show x - min x l.length = 0 by omega, List.set_cons_zero, ← List.take_append_getElem h, List.append_assoc, List.getD_eq_getElem?_getD, List.getElem?_eq_getElem h]
  rfl
theorem toNode_loop (l : List S34) (hl : l.length < 1099511627776) : ∀ d k x, x + d = l.length → d < k → laws_toNodeS.l0 k l ((l.map cvN).take x ++ List.replicate ((l.map cvN).length - x) z30) (x : Nat) = some (l.map cvN) := by
  have hm : (l.map cvN).length = l.length := by simp
  intro d
  induction d with
  | zero =>
    intro k x hx hk
    obtain ⟨k, rfl⟩ : ∃ m, k = m + 1 := ⟨k - 1, by omega⟩
    obtain rfl : x = l.length := by omega
    simp only [laws_toNodeS.l0]
    rw [if_neg (by omega), hm, Nat.sub_self, List.replicate_zero, List.append_nil, List.take_of_length_le (by omega)]
  | succ d ih =>
    intro k x hx hk
    obtain ⟨k, rfl⟩ : ∃ m, k = m + 1 := ⟨k - 1, by omega⟩
    have hr : (l.map cvN).getD x z30 = cvN (rd_T34 l (x : Nat)) := by
      unfold rd_T34
      rw [Int.toNat_natCast, List.getD_eq_getElem?_getD, List.getD_eq_getElem?_getD, List.getElem?_map, List.getElem?_eq_getElem (show x < l.length by omega)]
      rfl
    simp only [laws_toNodeS.l0, laws_toNode.f]
    rw [if_pos (by omega), if_pos (by omega), Option.bind_some, if_pos (by rw [List.length_append, List.length_take, List.length_replicate]; omega), Int.toNat_natCast, wrap64_succ (by omega)]
    have hs := copyN_step (l.map cvN) z30 (x := x) (by omega)
    rw [hr] at hs
    unfold cvN at hs ⊢
    rw [hs]
    exact ih k (x + 1) (by omega) (by omega)
theorem toNode_some (l : List S34) {k : Nat} (hl : l.length < 1099511627776) (hk : l.length < k) : laws_toNodeS.f k l = some (l.map cvN) := by
  unfold laws_toNodeS.f
  rw [if_pos (by omega), if_pos (by omega), Int.toNat_natCast]
  have h := toNode_loop l (by omega) l.length k 0 (by omega) hk
  simpa using h
theorem szNode_some (l : List S34) (hl : l.length ≤ 9223372036854775807) : laws_szNodeS.f l 1048576 = some (if 1048576 < l.length then -1 else ((1048576 - l.length : Nat) : Int)) := by
  unfold laws_szNodeS.f
  rw [wrap64_of (by omega) (by omega)]
  by_cases h : 1048576 < l.length
  · rw [if_pos (by omega), if_pos h]
  · rw [if_neg (by omega), if_neg h]
    congr 1
    omega
end Go.Proofs.YtflacbjpeecjcacDoor.U
