/- The law on ValueInDiagram, over numbers: the program's and the reference's answers are equal. -/
import Derived.Test.YtpbdjpbkocdidaaU36
import Derived.Test.YtpbdjpbkocdidaaFlawsFnExactValueInDiagram
namespace Go.Proofs.Ytpbdjpbkocdidaa.U
open Go.RowKit Go.Proofs.Ytpbdjpbkocdidaa.F Go.Proofs.Ytpbdjpbkocdidaa.B
theorem FnExactValueInDiagram (l : List S51) (x : Int) (hm : l.length ≤ maxLen) (_ : (Lit.int .i64 x).wf = true) : ∃ k, laws_FnExactValueInDiagram.f k l x = some true := by
  have hm' : l.length ≤ 9223372036854775807 := hm
  suffices h : ∀ k, 2000000 < k → laws_FnExactValueInDiagram.f k l x = some true from ⟨2000001, h _ (by omega)⟩
  intro k hk
  unfold laws_FnExactValueInDiagram.f
  rw [szNode_some l hm', Option.bind_some]
  by_cases hl : 1048576 < l.length
  · rw [if_pos hl, if_pos (by decide)]
  · have hc : (l.map cvN).length = l.length := by simp
    rw [if_neg hl, if_neg (by omega), toNode_some l (by omega) (by omega), Option.bind_some, spec_dval _ x (by omega) (by omega), Option.bind_some, Option.bind_some, impl_dval _ x (by omega) (by omega), Option.bind_some, if_pos rfl, Option.bind_some, eqNode_self _ (by omega) (by omega), Option.bind_some, if_pos rfl]
end Go.Proofs.Ytpbdjpbkocdidaa.U
