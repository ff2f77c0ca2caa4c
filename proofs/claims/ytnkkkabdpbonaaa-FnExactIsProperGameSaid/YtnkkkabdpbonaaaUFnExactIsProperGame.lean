/- The law on IsProperGame, over numbers: the program's and the reference's answers are equal. -/
import Derived.Test.YtnkkkabdpbonaaaU13
import Derived.Test.YtnkkkabdpbonaaaFlawsFnExactIsProperGame
namespace Go.Proofs.Ytnkkkabdpbonaaa.U
open Go.RowKit Go.Proofs.Ytnkkkabdpbonaaa.F Go.Proofs.Ytnkkkabdpbonaaa.B
theorem FnExactIsProperGame (a b : Int) (_ : (Lit.int .i64 a).wf = true) (wb : (Lit.int .i64 b).wf = true) : ∃ k, laws_FnExactIsProperGame.f k a b = some true := by
  obtain ⟨h0, h1⟩ := wf_i64 wb
  refine ⟨140, ?_⟩
  unfold laws_FnExactIsProperGame.f
  rw [toTable_some]
  simp only [Option.bind_some]
  rw [spec_isProper a b (by decide), impl_isProper h0 h1 (by decide)]
  simp
end Go.Proofs.Ytnkkkabdpbonaaa.U
