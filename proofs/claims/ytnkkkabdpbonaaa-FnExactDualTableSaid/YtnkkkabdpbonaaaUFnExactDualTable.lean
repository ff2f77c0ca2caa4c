/- The law on DualTable, over numbers: the program's and the reference's answers are equal. -/
import Derived.Test.YtnkkkabdpbonaaaU3
import Derived.Test.YtnkkkabdpbonaaaFlawsFnExactDualTable
namespace Go.Proofs.Ytnkkkabdpbonaaa.U
open Go.RowKit Go.Proofs.Ytnkkkabdpbonaaa.F Go.Proofs.Ytnkkkabdpbonaaa.B
theorem FnExactDualTable (a b : Int) (_ : (Lit.int .i64 a).wf = true) (wb : (Lit.int .i64 b).wf = true) : ∃ k, laws_FnExactDualTable.f k a b = some true := by
  obtain ⟨h0, h1⟩ := wf_i64 wb
  refine ⟨40, ?_⟩
  unfold laws_FnExactDualTable.f
  rw [toTable_some]
  simp only [Option.bind_some]
  rw [spec_dual a b (by decide), impl_dual a b h0 h1]
  simp only [Option.bind_some]
  rw [eqTable_self]
  simp
end Go.Proofs.Ytnkkkabdpbonaaa.U
