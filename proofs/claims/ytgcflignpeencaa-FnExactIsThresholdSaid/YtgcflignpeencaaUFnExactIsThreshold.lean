/- The law on IsThreshold, over numbers: the program's and the reference's answers are equal. -/
import Derived.Test.YtgcflignpeencaaU34
import Derived.Test.YtgcflignpeencaaFlawsFnExactIsThreshold
namespace Go.Proofs.Ytgcflignpeencaa.U
open Go.RowKit Go.Proofs.Ytgcflignpeencaa.F Go.Proofs.Ytgcflignpeencaa.B
theorem FnExactIsThreshold (a b : Int) (_ : (Lit.int .i64 a).wf = true) (wb : (Lit.int .i64 b).wf = true) : ∃ k, laws_FnExactIsThreshold.f k a b = some true := by
  obtain ⟨h0, h1⟩ := wf_i64 wb
  suffices h : ∀ k, 50000 < k → laws_FnExactIsThreshold.f k a b = some true from ⟨50001, h _ (by omega)⟩
  intro k hk
  unfold laws_FnExactIsThreshold.f
  rw [toTable_some, Option.bind_some]
  unfold spec_IsThreshold.f impl_IsThreshold.f
  rw [spec_wei a b hk, Option.bind_some, Option.bind_some, Option.bind_some, impl_wei h0 h1 hk, Option.bind_some, Option.bind_some, bne_self_eq_false, if_neg (by decide)]
end Go.Proofs.Ytgcflignpeencaa.U

