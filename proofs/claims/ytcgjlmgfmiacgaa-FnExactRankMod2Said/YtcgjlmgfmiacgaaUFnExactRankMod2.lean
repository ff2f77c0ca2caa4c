/- The law on RankMod2, over numbers: the program's and the reference's answers are equal. -/
import Derived.Test.YtcgjlmgfmiacgaaU33
import Derived.Test.YtcgjlmgfmiacgaaUL
import Derived.Test.YtcgjlmgfmiacgaaFlawsFnExactRankMod2
namespace Go.Proofs.Ytcgjlmgfmiacgaa.U
open Go.RowKit Go.Proofs.Ytcgjlmgfmiacgaa.F Go.Proofs.Ytcgjlmgfmiacgaa.B
theorem FnExactRankMod2 (l : List Int) (_ : l.length ≤ maxLen) (_ : l.length * 8 ≤ 140737488351232) (_ : ∀ x ∈ l, (Lit.int .i64 x).wf = true) : ∃ k, laws_FnExactRankMod2.f k l = some true := by
  by_cases hl : (l.length : Int) > 1048576
  · refine ⟨0, ?_⟩
    unfold laws_FnExactRankMod2.f
    rw [if_pos hl]
  · refine ⟨l.length * 40 + 100, ?_⟩
    generalize hk : l.length * 40 + 100 = k
    unfold laws_FnExactRankMod2.f
    rw [if_neg hl, toInt_some l (by omega) (by omega), Option.bind_some, spec_rank l (by omega) (by omega), Option.bind_some, Option.bind_some, impl_rank l (by omega), Option.bind_some, if_pos rfl, Option.bind_some, eqInt_self l (by omega) (by omega), Option.bind_some, if_pos rfl]
end Go.Proofs.Ytcgjlmgfmiacgaa.U
