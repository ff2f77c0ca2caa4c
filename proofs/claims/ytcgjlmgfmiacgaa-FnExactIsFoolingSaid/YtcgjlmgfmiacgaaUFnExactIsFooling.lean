/- The law on IsFooling, over numbers: the program's and the reference's answers are equal. -/
import Derived.Test.YtcgjlmgfmiacgaaU31
import Derived.Test.YtcgjlmgfmiacgaaUL
import Derived.Test.YtcgjlmgfmiacgaaFlawsFnExactIsFooling
namespace Go.Proofs.Ytcgjlmgfmiacgaa.U
open Go.RowKit Go.Proofs.Ytcgjlmgfmiacgaa.F Go.Proofs.Ytcgjlmgfmiacgaa.B
theorem FnExactIsFooling (a b s v : Int) (l : List Int) (_ : (Lit.int .i64 a).wf = true) (wb : (Lit.int .i64 b).wf = true) (_ : (Lit.int .i64 s).wf = true) (_ : (Lit.int .i64 v).wf = true) (_ : l.length ≤ maxLen) (_ : l.length * 8 ≤ 140737488351232) (_ : ∀ x ∈ l, (Lit.int .i64 x).wf = true) : ∃ k, laws_FnExactIsFooling.f k a b s v l = some true := by
  obtain ⟨h0, h1⟩ := wf_i64 wb
  by_cases hl : (l.length : Int) > 1048576
  · refine ⟨0, ?_⟩
    unfold laws_FnExactIsFooling.f
    rw [if_pos hl]
  · refine ⟨l.length * (l.length + 5) + l.length + 10, ?_⟩
    generalize hk : l.length * (l.length + 5) + l.length + 10 = k
    unfold laws_FnExactIsFooling.f
    rw [if_neg hl, toTable_some, Option.bind_some, toInt_some l (by omega) (by omega), Option.bind_some, spec_fooling a b s v l (by omega) (by omega), Option.bind_some, Option.bind_some, Option.bind_some, impl_fooling s v l h0 h1 (by omega) (by omega), Option.bind_some, bne_self_eq_false, if_neg (by decide), Option.bind_some, eqInt_self l (by omega) (by omega), Option.bind_some, if_pos rfl]
end Go.Proofs.Ytcgjlmgfmiacgaa.U
