/- The law on CountInDiagram, over numbers: the program's and the reference's answers are equal. -/
import Derived.Test.YtpbdjpbkocdidaaU39
import Derived.Test.YtpbdjpbkocdidaaU4
import Derived.Test.YtpbdjpbkocdidaaUL
import Derived.Test.YtpbdjpbkocdidaaFlawsFnExactCountInDiagram
namespace Go.Proofs.Ytpbdjpbkocdidaa.U
open Go.RowKit Go.Proofs.Ytpbdjpbkocdidaa.F Go.Proofs.Ytpbdjpbkocdidaa.B
theorem FnExactCountInDiagram (l : List S51) (o : List Int) (hm : l.length ≤ maxLen) (hmo : o.length ≤ maxLen) (_ : o.length * 8 ≤ 140737488351232) (_ : ∀ x ∈ o, (Lit.int .i64 x).wf = true) : ∃ k, laws_FnExactCountInDiagram.f k l o = some true := by
  have hm' : l.length ≤ 9223372036854775807 := hm
  suffices h : ∀ k, 1300000000000 < k → laws_FnExactCountInDiagram.f k l o = some true from ⟨1300000000001, h _ (by omega)⟩
  intro k hk
  unfold laws_FnExactCountInDiagram.f
  by_cases h0 : (o.length : Int) > 1048576
  · rw [if_pos h0]
  · rw [if_neg h0, szNode_some l hm', Option.bind_some]
    by_cases hl : 1048576 < l.length
    · rw [if_pos hl, if_pos (by decide)]
    · have hc : (l.map cvN).length = l.length := by simp
      rw [if_neg hl, if_neg (by omega), toNode_some l (by omega) (by omega), Option.bind_some, toInt_some o (by omega) (by omega), Option.bind_some, spec_count _ o (by omega) (by omega) (by omega), Option.bind_some, Option.bind_some, Option.bind_some, impl_count _ o (by omega), Option.bind_some, if_pos rfl, Option.bind_some, eqNode_self _ (by omega) (by omega), Option.bind_some, if_pos rfl, Option.bind_some, eqInt_self o (by omega) (by omega), Option.bind_some, if_pos rfl]
end Go.Proofs.Ytpbdjpbkocdidaa.U
