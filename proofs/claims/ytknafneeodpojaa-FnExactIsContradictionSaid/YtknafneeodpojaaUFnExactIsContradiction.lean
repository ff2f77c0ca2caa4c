/- The law on IsContradiction, over numbers: the program's and the reference's answers are equal. -/
import Derived.Test.YtknafneeodpojaaU23
import Derived.Test.YtknafneeodpojaaUL
import Derived.Test.YtknafneeodpojaaFlawsFnExactIsContradiction
namespace Go.Proofs.Ytknafneeodpojaa.U
open Go.RowKit Go.Proofs.Ytknafneeodpojaa.F Go.Proofs.Ytknafneeodpojaa.B
theorem FnExactIsContradiction (a b : Int) (l : List Int) (_ : (Lit.int .i64 a).wf = true) (wb : (Lit.int .i64 b).wf = true) (_ : l.length ≤ maxLen) (_ : l.length * 8 ≤ 140737488351232) (_ : ∀ x ∈ l, (Lit.int .i64 x).wf = true) : ∃ k, laws_FnExactIsContradiction.f k a b l = some true := by
  obtain ⟨h0, h1⟩ := wf_i64 wb
  by_cases hl : (l.length : Int) > 1048576
  · refine ⟨0, ?_⟩
    unfold laws_FnExactIsContradiction.f
    rw [if_pos hl]
  · refine ⟨l.length + 20, ?_⟩
    unfold laws_FnExactIsContradiction.f
    rw [if_neg hl, toTable_some, toInt_some l (by omega) (by omega)]
    simp only [Option.bind_some]
    rw [spec_contra a b l (by omega), impl_contra h0 h1 l (by omega)]
    simp only [Option.bind_some, bne_self_eq_false]
    rw [if_neg (by decide), eqInt_self l (by omega) (by omega)]
    rfl
end Go.Proofs.Ytknafneeodpojaa.U
