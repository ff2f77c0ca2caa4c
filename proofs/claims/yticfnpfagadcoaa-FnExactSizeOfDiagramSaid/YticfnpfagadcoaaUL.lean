/- A copy of a list of numbers. -/
import Derived.Test.YticfnpfagadcoaaU4
import Derived.Test.YticfnpfagadcoaaFGb
namespace Go.Proofs.Yticfnpfagadcoaa.U
open Go.RowKit Go.Proofs.YticfnpfagadcoaaW.PrintWords Go.Proofs.YticfnpfagadcoaaW.PrintLast Go.Proofs.YticfnpfagadcoaaW.PrintMore Go.Proofs.Yticfnpfagadcoaa.F Go.Proofs.Yticfnpfagadcoaa.B
set_option linter.unusedVariables false
set_option linter.unusedSimpArgs false
theorem copy_step (l : List Int) {x : Nat} (h : x < l.length) : (l.take x ++ List.replicate (l.length - x) 0).set x (l.getD x 0) = l.take (x + 1) ++ List.replicate (l.length - (x + 1)) 0 := by
  obtain ⟨d, hd⟩ : ∃ d, l.length - x = d + 1 := ⟨l.length - x - 1, by omega⟩
  rw [hd, show l.length - (x + 1) = d by omega, List.replicate_succ, List.set_append, if_neg (by rw [List.length_take]; omega), List.length_take, show x - min x l.length = 0 by omega, List.set_cons_zero, ← List.take_append_getElem h, List.append_assoc, List.getD_eq_getElem?_getD, List.getElem?_eq_getElem h]
  rfl
theorem toInt_loop (l : List Int) (hl : l.length < 35184372088832) : ∀ d k x, x + d = l.length → d < k → laws_toIntS.l0 k l (l.take x ++ List.replicate (l.length - x) 0) (x : Nat) = some l := by
  intro d
  induction d with
  | zero =>
    intro k x hx hk
    obtain ⟨k, rfl⟩ : ∃ m, k = m + 1 := ⟨k - 1, by omega⟩
    obtain rfl : x = l.length := by omega
    simp only [laws_toIntS.l0]
    rw [if_neg (by omega), Nat.sub_self, List.take_length, List.replicate_zero, List.append_nil]
  | succ d ih =>
    intro k x hx hk
    obtain ⟨k, rfl⟩ : ∃ m, k = m + 1 := ⟨k - 1, by omega⟩
    simp only [laws_toIntS.l0]
    rw [if_pos (by omega), if_pos (by omega), if_pos (by rw [List.length_append, List.length_take, List.length_replicate]; omega), Int.toNat_natCast, rd_cast, copy_step l (by omega), wrap64_succ (by omega)]
    exact ih k (x + 1) (by omega) (by omega)
theorem toInt_some (l : List Int) {k : Nat} (hl : l.length < 35184372088832) (hk : l.length < k) : laws_toIntS.f k l = some l := by
  unfold laws_toIntS.f
  rw [if_pos (by omega), if_pos (by omega), Int.toNat_natCast]
  have h := toInt_loop l (by omega) l.length k 0 (by omega) hk
  simpa using h
end Go.Proofs.Yticfnpfagadcoaa.U
