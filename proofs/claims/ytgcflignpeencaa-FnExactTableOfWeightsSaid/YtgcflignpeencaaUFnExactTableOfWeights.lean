/- The law on TableOfWeights, over numbers: the program's and the reference's answers are equal. -/
import Derived.Test.YtgcflignpeencaaU27
import Derived.Test.YtgcflignpeencaaUL
import Derived.Test.YtgcflignpeencaaFlawsFnExactTableOfWeights
namespace Go.Proofs.Ytgcflignpeencaa.U
open Go.RowKit Go.Proofs.Ytgcflignpeencaa.F Go.Proofs.Ytgcflignpeencaa.B
theorem FnExactTableOfWeights (l : List Int) (a : Int) (_ : l.length ≤ maxLen) (_ : l.length * 8 ≤ 140737488351232) (_ : ∀ x ∈ l, (Lit.int .i64 x).wf = true) (_ : (Lit.int .i64 a).wf = true) : ∃ k, laws_FnExactTableOfWeights.f k l a = some true := by
  by_cases hl : (l.length : Int) > 1048576
  · refine ⟨0, ?_⟩
    unfold laws_FnExactTableOfWeights.f
    rw [if_pos hl]
  · refine ⟨l.length + 100 + 1, ?_⟩
    unfold laws_FnExactTableOfWeights.f
    rw [if_neg hl, toInt_some l (by omega) (by omega)]
    simp only [Option.bind_some]
    rw [spec_tow l a (by omega) (by omega), impl_tow l a (by omega)]
    simp only [Option.bind_some]
    rw [eqTable_self]
    simp only [Option.bind_some, if_true, bne_self_eq_false, laws_FnExactTableOfWeights.j0]
    rw [if_neg (by decide), toInt_some l (by omega) (by omega)]
    simp only [Option.bind_some]
    rw [eqInt_self l (by omega) (by omega)]
    rfl
end Go.Proofs.Ytgcflignpeencaa.U
