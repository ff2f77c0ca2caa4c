/- The law on CountThreshold, over numbers: the program's and the reference's answers are equal. -/
import Derived.Test.YtgcflignpeencaaU35
import Derived.Test.YtgcflignpeencaaFlawsFnExactCountThreshold
namespace Go.Proofs.Ytgcflignpeencaa.U
open Go.RowKit Go.Proofs.Ytgcflignpeencaa.F Go.Proofs.Ytgcflignpeencaa.B
theorem FnExactCountThreshold (a : Int) (_ : (Lit.int .i64 a).wf = true) : ∃ k, laws_FnExactCountThreshold.f k a = some true := by
  suffices h : ∀ k, 51000 < k → laws_FnExactCountThreshold.f k a = some true from ⟨51001, h _ (by omega)⟩
  intro k hk
  unfold laws_FnExactCountThreshold.f
  rw [spec_CountThreshold_some a hk, impl_CountThreshold_some]
  simp
end Go.Proofs.Ytgcflignpeencaa.U

