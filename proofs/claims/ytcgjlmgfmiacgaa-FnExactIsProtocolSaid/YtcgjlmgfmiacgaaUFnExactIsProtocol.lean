/- The law on IsProtocol, over numbers: the program's and the reference's answers are equal. -/
import Derived.Test.YtcgjlmgfmiacgaaU40
import Derived.Test.YtcgjlmgfmiacgaaFlawsFnExactIsProtocol
namespace Go.Proofs.Ytcgjlmgfmiacgaa.U
open Go.RowKit Go.Proofs.Ytcgjlmgfmiacgaa.F Go.Proofs.Ytcgjlmgfmiacgaa.B
theorem FnExactIsProtocol (s : ByteArray) (hs : s.size ≤ 140737488351232) : ∃ k, laws_FnExactIsProtocol.f k s = some true := by
  suffices h : ∀ k, 400 < k → laws_FnExactIsProtocol.f k s = some true from ⟨401, h _ (by omega)⟩
  intro k hk
  unfold laws_FnExactIsProtocol.f
  by_cases h0 : (s.size : Int) > 1048576
  · rw [if_pos h0]
  · rw [if_neg h0, spec_protocol s hk, Option.bind_some]
    unfold impl_IsProtocol.f
    rw [if_pos (by omega), Option.bind_some, bne_self_eq_false, if_neg (by decide)]
end Go.Proofs.Ytcgjlmgfmiacgaa.U
