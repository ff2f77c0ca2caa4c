/- The law on ChowNumbers, over numbers: the program's and the reference's answers are equal, and memory is not shared. -/
import Derived.Test.YtgcflignpeencaaU30
import Derived.Test.YtgcflignpeencaaU4
import Derived.Test.YtgcflignpeencaaFlawsFnExactChowNumbers
namespace Go.Proofs.Ytgcflignpeencaa.U
open Go.RowKit Go.Proofs.Ytgcflignpeencaa.F Go.Proofs.Ytgcflignpeencaa.B
theorem FnExactChowNumbers (a b : Int) (_ : (Lit.int .i64 a).wf = true) (wb : (Lit.int .i64 b).wf = true) : ∃ k, laws_FnExactChowNumbers.f k a b = some true := by
  obtain ⟨h0, h1⟩ := wf_i64 wb
  suffices h : ∀ k, 100 < k → laws_FnExactChowNumbers.f k a b = some true from ⟨101, h _ (by omega)⟩
  intro k hk
  unfold laws_FnExactChowNumbers.f
  have hl := chowI_length a b
  have hs := spec_chow a b (k := k) (by omega)
  have hi := impl_chow (a := a) h0 h1 (k := k) (by omega)
  generalize chowI a b = l at hl hs hi
  rw [toTable_some, Option.bind_some, hs, Option.bind_some, Option.bind_some, hi, Option.bind_some, eqInt_self l (by omega) (by omega), Option.bind_some, if_pos rfl, mark_some l (by omega) (by omega), Option.bind_some, held_some l.length (by omega) (by omega), Option.bind_some, if_neg (by omega), if_pos rfl, Option.bind_some, hi, Option.bind_some, eqInt_self l (by omega) (by omega), Option.bind_some, if_pos rfl, Option.bind_some, if_neg (by omega), if_pos rfl]
end Go.Proofs.Ytgcflignpeencaa.U
