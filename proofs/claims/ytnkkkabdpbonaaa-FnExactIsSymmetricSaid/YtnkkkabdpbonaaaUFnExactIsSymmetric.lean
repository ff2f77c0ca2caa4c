/- The law on IsSymmetric, over numbers: the program's and the reference's answers are equal. -/
import Derived.Test.YtnkkkabdpbonaaaU15
import Derived.Test.YtnkkkabdpbonaaaFlawsFnExactIsSymmetric
namespace Go.Proofs.Ytnkkkabdpbonaaa.U
open Go.RowKit Go.Proofs.Ytnkkkabdpbonaaa.F Go.Proofs.Ytnkkkabdpbonaaa.B
theorem FnExactIsSymmetric (a b : Int) (_ : (Lit.int .i64 a).wf = true) (wb : (Lit.int .i64 b).wf = true) : ∃ k, laws_FnExactIsSymmetric.f k a b = some true := by
  obtain ⟨h0, h1⟩ := wf_i64 wb
  refine ⟨120, ?_⟩
  unfold laws_FnExactIsSymmetric.f
  rw [toTable_some]
  simp only [Option.bind_some]
  rw [spec_isSym a b (by decide), impl_isSym h0 h1 (by decide)]
  simp
end Go.Proofs.Ytnkkkabdpbonaaa.U
