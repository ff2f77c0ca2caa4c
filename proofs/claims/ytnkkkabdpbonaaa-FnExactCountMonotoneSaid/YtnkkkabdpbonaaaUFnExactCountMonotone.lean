/- The law on CountMonotone, over numbers: the program's and the reference's answers are equal. -/
import Derived.Test.YtnkkkabdpbonaaaU17
import Derived.Test.YtnkkkabdpbonaaaFlawsFnExactCountMonotone
namespace Go.Proofs.Ytnkkkabdpbonaaa.U
open Go.RowKit Go.Proofs.Ytnkkkabdpbonaaa.F Go.Proofs.Ytnkkkabdpbonaaa.B
theorem FnExactCountMonotone (a : Int) (_ : (Lit.int .i64 a).wf = true) : ∃ k, laws_FnExactCountMonotone.f k a = some true := by
  refine ⟨66001, ?_⟩
  unfold laws_FnExactCountMonotone.f
  rw [spec_CountMonotone_some a (by decide), impl_CountMonotone_some]
  simp
end Go.Proofs.Ytnkkkabdpbonaaa.U
