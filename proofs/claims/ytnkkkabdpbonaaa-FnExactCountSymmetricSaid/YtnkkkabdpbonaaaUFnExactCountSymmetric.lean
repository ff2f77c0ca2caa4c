/- The law on CountSymmetric, over numbers: the program's and the reference's answers are equal. -/
import Derived.Test.YtnkkkabdpbonaaaU18
import Derived.Test.YtnkkkabdpbonaaaFlawsFnExactCountSymmetric
namespace Go.Proofs.Ytnkkkabdpbonaaa.U
open Go.RowKit Go.Proofs.Ytnkkkabdpbonaaa.F Go.Proofs.Ytnkkkabdpbonaaa.B
theorem FnExactCountSymmetric (a : Int) (_ : (Lit.int .i64 a).wf = true) : ∃ k, laws_FnExactCountSymmetric.f k a = some true := by
  refine ⟨66001, ?_⟩
  unfold laws_FnExactCountSymmetric.f
  rw [spec_CountSymmetric_some a (by decide), impl_CountSymmetric_some]
  simp
end Go.Proofs.Ytnkkkabdpbonaaa.U
