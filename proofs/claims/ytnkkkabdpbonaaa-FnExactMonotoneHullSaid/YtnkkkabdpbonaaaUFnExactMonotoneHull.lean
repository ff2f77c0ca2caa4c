/- The law on MonotoneHull, over numbers: the program's and the reference's answers are equal. -/
import Derived.Test.YtnkkkabdpbonaaaU6
import Derived.Test.YtnkkkabdpbonaaaFlawsFnExactMonotoneHull
namespace Go.Proofs.Ytnkkkabdpbonaaa.U
open Go.RowKit Go.Proofs.Ytnkkkabdpbonaaa.F Go.Proofs.Ytnkkkabdpbonaaa.B
theorem FnExactMonotoneHull (a b : Int) (_ : (Lit.int .i64 a).wf = true) (wb : (Lit.int .i64 b).wf = true) : ∃ k, laws_FnExactMonotoneHull.f k a b = some true := by
  obtain ⟨h0, h1⟩ := wf_i64 wb
  refine ⟨1400, ?_⟩
  unfold laws_FnExactMonotoneHull.f
  rw [toTable_some]
  simp only [Option.bind_some]
  rw [spec_hull a b (by decide), impl_monoHull h0 h1]
  simp only [Option.bind_some]
  rw [eqTable_self]
  simp
end Go.Proofs.Ytnkkkabdpbonaaa.U
