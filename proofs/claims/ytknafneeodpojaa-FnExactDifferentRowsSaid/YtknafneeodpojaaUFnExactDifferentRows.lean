/- The law on DifferentRows, over numbers: the program's and the reference's answers are equal. -/
import Derived.Test.YtknafneeodpojaaU22
import Derived.Test.YtknafneeodpojaaFlawsFnExactDifferentRows
namespace Go.Proofs.Ytknafneeodpojaa.U
open Go.RowKit Go.Proofs.Ytknafneeodpojaa.F Go.Proofs.Ytknafneeodpojaa.B
theorem FnExactDifferentRows (l : List Int) (_ : l.length ≤ maxLen) (_ : l.length * 8 ≤ 140737488351232) (hw : ∀ x ∈ l, (Lit.int .i64 x).wf = true) : ∃ k, laws_FnExactDifferentRows.f k l = some true := by
  by_cases hl : (l.length : Int) > 1048576
  · refine ⟨0, ?_⟩
    unfold laws_FnExactDifferentRows.f
    rw [if_pos hl]
  · have hn : l.length ≤ l.length * (l.length + 2) := Nat.le_mul_of_pos_right _ (by omega)
    refine ⟨1 + l.length * (l.length + 2) + 1, ?_⟩
    have hr := rows_outer l (by omega) l.length 1 0 (by omega)
    have hi : impl_DifferentRows.f l = some ((cntN (fresh l) l.length : Nat) : Int) := by
      unfold impl_DifferentRows.f
      rw [if_pos ⟨List.all_eq_true.mpr hw, by omega⟩, size_S l l.length (Nat.le_refl _)]
    unfold laws_FnExactDifferentRows.f spec_DifferentRows.f
    rw [if_neg hl, toInt_some l (by omega) (by omega)]
    simp only [Option.bind_some]
    rw [show spec_DifferentRows.l0 (1 + l.length * (l.length + 2) + 1) l 0 0 = _ from hr]
    simp only [Option.bind_some]
    rw [hi]
    simp only [Option.bind_some, if_true]
    rw [eqInt_self l (by omega) (by omega)]
    rfl
end Go.Proofs.Ytknafneeodpojaa.U
