/- The law on SymmetricTable, over numbers: the program's and the reference's answers are equal. -/
import Derived.Test.YtgcflignpeencaaU28
import Derived.Test.YtgcflignpeencaaUL
import Derived.Test.YtgcflignpeencaaFlawsFnExactSymmetricTable
namespace Go.Proofs.Ytgcflignpeencaa.U
open Go.RowKit Go.Proofs.Ytgcflignpeencaa.F Go.Proofs.Ytgcflignpeencaa.B
theorem FnExactSymmetricTable (l : List Int) (_ : l.length ≤ maxLen) (_ : l.length * 8 ≤ 140737488351232) (_ : ∀ x ∈ l, (Lit.int .i64 x).wf = true) : ∃ k, laws_FnExactSymmetricTable.f k l = some true := by
  by_cases hl : (l.length : Int) > 1048576
  · refine ⟨0, ?_⟩
    unfold laws_FnExactSymmetricTable.f
    rw [if_pos hl]
  · refine ⟨l.length + 200 + 1, ?_⟩
    unfold laws_FnExactSymmetricTable.f
    rw [if_neg hl, toInt_some l (by omega) (by omega)]
    simp only [Option.bind_some]
    rw [spec_sym l (by omega) (by omega), impl_sym l (by omega)]
    simp only [Option.bind_some]
    rw [eqTable_self]
    simp only [Option.bind_some, if_true, bne_self_eq_false, laws_FnExactSymmetricTable.j0]
    rw [if_neg (by decide), toInt_some l (by omega) (by omega)]
    simp only [Option.bind_some]
    rw [eqInt_self l (by omega) (by omega)]
    rfl
end Go.Proofs.Ytgcflignpeencaa.U
