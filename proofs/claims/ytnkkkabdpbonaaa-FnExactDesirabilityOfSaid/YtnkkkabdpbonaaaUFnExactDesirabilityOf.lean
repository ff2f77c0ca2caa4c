/- The law on DesirabilityOf, over numbers: the program's and the reference's answers are equal. -/
import Derived.Test.YtnkkkabdpbonaaaU16
import Derived.Test.YtnkkkabdpbonaaaFlawsFnExactDesirabilityOf
namespace Go.Proofs.Ytnkkkabdpbonaaa.U
open Go.RowKit Go.Proofs.Ytnkkkabdpbonaaa.F Go.Proofs.Ytnkkkabdpbonaaa.B
theorem FnExactDesirabilityOf (a b i j : Int) (_ : (Lit.int .i64 a).wf = true) (wb : (Lit.int .i64 b).wf = true) (_ : (Lit.int .i64 i).wf = true) (_ : (Lit.int .i64 j).wf = true) : ∃ k, laws_FnExactDesirabilityOf.f k a b i j = some true := by
  obtain ⟨h0, h1⟩ := wf_i64 wb
  refine ⟨90, ?_⟩
  unfold laws_FnExactDesirabilityOf.f
  rw [toTable_some]
  simp only [Option.bind_some]
  rw [spec_des a b i j (by decide), impl_des h0 h1 i j (by decide)]
  simp
end Go.Proofs.Ytnkkkabdpbonaaa.U
