/- Numbers of variables, and inputs. -/
import Derived.Test.YticfnpfagadcoaaUa
import Derived.Test.YticfnpfagadcoaaFGa
namespace Go.Proofs.Yticfnpfagadcoaa.U
open Go.RowKit Go.Proofs.YticfnpfagadcoaaW.PrintWords Go.Proofs.YticfnpfagadcoaaW.PrintLast Go.Proofs.YticfnpfagadcoaaW.PrintMore Go.Proofs.Yticfnpfagadcoaa.F Go.Proofs.Yticfnpfagadcoaa.B
set_option linter.unusedVariables false
set_option linter.unusedSimpArgs false
theorem isBits_some (a : Int) : impl_isBits.f a = some (decide (0 ≤ a ∧ a ≤ 5)) := by
  unfold impl_isBits.f
  by_cases h : a ≥ 0
  · rw [if_pos h]; congr 1; exact decide_eq_decide.mpr (by omega)
  · rw [if_neg h]; congr 1; symm; exact decide_eq_false (by omega)
/-- No input of n variables. -/
def noInp (n : Nat) (x : Int) : Bool := !decide (0 ≤ x ∧ x < ((2 ^ n : Nat) : Int))
theorem isInput_some {n : Nat} (hn : n ≤ 5) (x : Int) : impl_isInput.f n x = some (!noInp n x) := by
  have hM := pow_le hn
  unfold impl_isInput.f noInp
  rw [Bool.not_not]
  by_cases h : x ≥ 0
  · rw [if_pos h, if_pos (Int.natCast_nonneg _), shl1_of (by omega)]; congr 1; exact decide_eq_decide.mpr (by omega)
  · rw [if_neg h]; congr 1; symm; exact decide_eq_false (by omega)
end Go.Proofs.Yticfnpfagadcoaa.U
