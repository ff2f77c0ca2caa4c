/- The law on TableOfMatrix, over numbers: the program's and the reference's answers are equal. -/
import Derived.Test.YtcgjlmgfmiacgaaU26
import Derived.Test.YtcgjlmgfmiacgaaUL
import Derived.Test.YtcgjlmgfmiacgaaFlawsFnExactTableOfMatrix
namespace Go.Proofs.Ytcgjlmgfmiacgaa.U
open Go.RowKit Go.Proofs.Ytcgjlmgfmiacgaa.F Go.Proofs.Ytcgjlmgfmiacgaa.B
theorem FnExactTableOfMatrix (l : List Int) (a b : Int) (_ : l.length ≤ maxLen) (_ : l.length * 8 ≤ 140737488351232) (_ : ∀ x ∈ l, (Lit.int .i64 x).wf = true) (_ : (Lit.int .i64 a).wf = true) (_ : (Lit.int .i64 b).wf = true) : ∃ k, laws_FnExactTableOfMatrix.f k l a b = some true := by
  by_cases hl : (l.length : Int) > 1048576
  · refine ⟨0, ?_⟩
    unfold laws_FnExactTableOfMatrix.f
    rw [if_pos hl]
  · refine ⟨l.length + 2500 + 1, ?_⟩
    unfold laws_FnExactTableOfMatrix.f
    rw [if_neg hl, toInt_some l (by omega) (by omega)]
    simp only [Option.bind_some]
    rw [spec_tom l a b (by omega), impl_tom l a b (by omega)]
    simp only [Option.bind_some]
    rw [eqTable_self]
    simp only [Option.bind_some, if_true, bne_self_eq_false, laws_FnExactTableOfMatrix.j0]
    rw [if_neg (by decide), toInt_some l (by omega) (by omega)]
    simp only [Option.bind_some]
    rw [eqInt_self l (by omega) (by omega)]
    rfl
end Go.Proofs.Ytcgjlmgfmiacgaa.U
