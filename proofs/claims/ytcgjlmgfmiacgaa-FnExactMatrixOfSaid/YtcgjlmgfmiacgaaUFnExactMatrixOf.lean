/- The law on MatrixOf, over numbers: the program's and the reference's answers are equal, and memory is not shared. -/
import Derived.Test.YtcgjlmgfmiacgaaU25
import Derived.Test.YtcgjlmgfmiacgaaU4
import Derived.Test.YtcgjlmgfmiacgaaFlawsFnExactMatrixOf
namespace Go.Proofs.Ytcgjlmgfmiacgaa.U
open Go.RowKit Go.Proofs.Ytcgjlmgfmiacgaa.F Go.Proofs.Ytcgjlmgfmiacgaa.B
theorem FnExactMatrixOf (a b s : Int) (_ : (Lit.int .i64 a).wf = true) (wb : (Lit.int .i64 b).wf = true) (_ : (Lit.int .i64 s).wf = true) : ∃ k, laws_FnExactMatrixOf.f k a b s = some true := by
  obtain ⟨h0, h1⟩ := wf_i64 wb
  suffices h : ∀ k, 3000 < k → laws_FnExactMatrixOf.f k a b s = some true from ⟨3001, h _ (by omega)⟩
  intro k hk
  unfold laws_FnExactMatrixOf.f
  obtain ⟨k, rfl⟩ : ∃ m, k = m + 2 := ⟨k - 2, by omega⟩
  have hl := matI_length a b s
  have hs := spec_matrix a b s (k := k + 2) (by omega)
  have hi := impl_matrix (a := a) s h0 h1 (k := k + 2) (by omega)
  have hi2 := impl_matrix (a := a) s h0 h1 (k := k + 1) (by omega)
  generalize matI a b s = r at hl hs hi hi2
  rw [toTable_some, Option.bind_some, hs, Option.bind_some, Option.bind_some, hi, Option.bind_some, eqInt_self r.1 (by omega) (by omega), Option.bind_some, if_pos rfl]
  simp only [laws_FnExactMatrixOf.j0]
  rw [bne_self_eq_false, if_neg (by decide), mark_some r.1 (by omega) (by omega), Option.bind_some, held_some r.1.length (by omega) (by omega), Option.bind_some, if_neg (by omega), if_pos rfl, toTable_some, Option.bind_some, hi2, Option.bind_some, eqInt_self r.1 (by omega) (by omega), Option.bind_some, if_pos rfl]
  simp only [laws_FnExactMatrixOf.j1]
  rw [bne_self_eq_false, if_neg (by decide), held_some r.1.length (by omega) (by omega), Option.bind_some, if_neg (by omega), if_pos rfl]
end Go.Proofs.Ytcgjlmgfmiacgaa.U
