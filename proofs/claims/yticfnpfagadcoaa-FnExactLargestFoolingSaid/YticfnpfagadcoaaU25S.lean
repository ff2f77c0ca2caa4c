/- Which numbers split the variables of a table. -/
import Derived.Test.YticfnpfagadcoaaUa
import Derived.Test.YticfnpfagadcoaaFimplisSplit
namespace Go.Proofs.Yticfnpfagadcoaa.U
open Go.RowKit Go.Proofs.YticfnpfagadcoaaW.PrintWords Go.Proofs.YticfnpfagadcoaaW.PrintLast Go.Proofs.YticfnpfagadcoaaW.PrintMore Go.Proofs.Yticfnpfagadcoaa.F Go.Proofs.Yticfnpfagadcoaa.B
set_option linter.unusedVariables false
set_option linter.unusedSimpArgs false
set_option maxRecDepth 100000
/-- A split: s first variables of n. -/
def splitI (a b s : Int) : Bool := isTab a b && decide (0 ≤ s ∧ s ≤ a)
theorem impl_isSplit {a b : Int} (s : Int) (h0 : -9223372036854775808 ≤ b) (h1 : b ≤ 9223372036854775807) : impl_isSplit.f a b s = some (splitI a b s) := by
  unfold impl_isSplit.f splitI
  rw [impl_isTable h0 h1, Option.bind_some]
  cases hT : isTab a b with
  | false => rfl
  | true =>
    rw [if_pos rfl, Bool.true_and]
    by_cases h : s ≥ 0
    · rw [if_pos h]; congr 1; exact decide_eq_decide.mpr (by omega)
    · rw [if_neg h]; congr 1; symm; exact decide_eq_false (by omega)
theorem split_of {a b s : Int} (h : splitI a b s = true) : ∃ t m w : Nat, a = ((t + m : Nat) : Int) ∧ b = w ∧ s = t ∧ Tab (t + m) w := by
  unfold splitI at h
  rw [Bool.and_eq_true] at h
  obtain ⟨n, w, rfl, rfl, ht⟩ := tab_of h.1
  have h2 := of_decide_eq_true h.2
  obtain ⟨t, rfl⟩ := Int.eq_ofNat_of_zero_le h2.1
  obtain ⟨m, rfl⟩ : ∃ m, n = t + m := ⟨n - t, by omega⟩
  exact ⟨t, m, w, rfl, rfl, rfl, ht⟩
end Go.Proofs.Yticfnpfagadcoaa.U
