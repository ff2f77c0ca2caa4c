/- How many ones a small number has: the program's count. -/
import Derived.Test.YtgcflignpeencaaUa
import Derived.Test.YtgcflignpeencaaFGa
namespace Go.Proofs.Ytgcflignpeencaa.U
open Go.RowKit Go.Proofs.YtgcflignpeencaaW.PrintWords Go.Proofs.YtgcflignpeencaaW.PrintLast Go.Proofs.YtgcflignpeencaaW.PrintMore Go.Proofs.Ytgcflignpeencaa.F Go.Proofs.Ytgcflignpeencaa.B
set_option linter.unusedVariables false
set_option linter.unusedSimpArgs false
/-- The number of ones of a small number. -/
def pop (x : Nat) : Nat := bitN x 0 + bitN x 1 + bitN x 2 + bitN x 3 + bitN x 4
theorem ones_small {x : Nat} (hx : x < 32) : impl_ones.f x = some ((pop x : Nat) : Int) := by
  have h : ∀ x : Fin 32, impl_ones.f ((x.val : Nat) : Int) = some ((pop x.val : Nat) : Int) := by decide +kernel
  exact h ⟨x, hx⟩
theorem pop_le {n x : Nat} (hn : n ≤ 5) (hx : x < 2 ^ n) : pop x ≤ n := by
  have h : ∀ n : Fin 6, ∀ x : Fin 32, x.val < 2 ^ n.val → pop x.val ≤ n.val := by decide +kernel
  have := pow_le hn
  exact h ⟨n, by omega⟩ ⟨x, by omega⟩ hx
end Go.Proofs.Ytgcflignpeencaa.U
