/- The law on IsSimpleGame, over numbers: the program's and the reference's answers are equal. -/
import Derived.Test.YtnkkkabdpbonaaaU7
import Derived.Test.YtnkkkabdpbonaaaFlawsFnExactIsSimpleGame
namespace Go.Proofs.Ytnkkkabdpbonaaa.U
open Go.RowKit Go.Proofs.Ytnkkkabdpbonaaa.F Go.Proofs.Ytnkkkabdpbonaaa.B
theorem FnExactIsSimpleGame (a b : Int) (_ : (Lit.int .i64 a).wf = true) (wb : (Lit.int .i64 b).wf = true) : ∃ k, laws_FnExactIsSimpleGame.f k a b = some true := by
  obtain ⟨h0, h1⟩ := wf_i64 wb
  refine ⟨60, ?_⟩
  unfold laws_FnExactIsSimpleGame.f
  rw [toTable_some]
  simp only [Option.bind_some]
  rw [spec_isGame a b (by decide), impl_isGame h0 h1 (by decide)]
  simp
end Go.Proofs.Ytnkkkabdpbonaaa.U
