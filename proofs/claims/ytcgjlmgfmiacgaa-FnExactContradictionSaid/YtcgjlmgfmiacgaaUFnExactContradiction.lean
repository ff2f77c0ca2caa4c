/- The law on Contradiction, over numbers: the program's and the reference's answers are equal, and memory is not shared. -/
import Derived.Test.YtcgjlmgfmiacgaaU24
import Derived.Test.YtcgjlmgfmiacgaaU4
import Derived.Test.YtcgjlmgfmiacgaaFlawsFnExactContradiction
namespace Go.Proofs.Ytcgjlmgfmiacgaa.U
open Go.RowKit Go.Proofs.Ytcgjlmgfmiacgaa.F Go.Proofs.Ytcgjlmgfmiacgaa.B
theorem FnExactContradiction (a b : Int) (_ : (Lit.int .i64 a).wf = true) (wb : (Lit.int .i64 b).wf = true) : ∃ k, laws_FnExactContradiction.f k a b = some true := by
  obtain ⟨h0, h1⟩ := wf_i64 wb
  suffices h : ∀ k, 3000000 < k → laws_FnExactContradiction.f k a b = some true from ⟨3000001, h _ (by omega)⟩
  intro k hk
  unfold laws_FnExactContradiction.f
  obtain ⟨k, rfl⟩ : ∃ m, k = m + 2 := ⟨k - 2, by omega⟩
  have hl := contrI_length a b
  have hs := spec_contradiction a b (k := k + 2) (by omega)
  have hi := impl_contradiction (a := a) h0 h1 (k := k + 2) (by omega)
  have hi2 := impl_contradiction (a := a) h0 h1 (k := k + 1) (by omega)
  generalize contrI a b = r at hl hs hi hi2
  rw [toTable_some, Option.bind_some, hs, Option.bind_some, Option.bind_some, hi, Option.bind_some, eqInt_self r.1 (by omega) (by omega), Option.bind_some, if_pos rfl]
  simp only [laws_FnExactContradiction.j0]
  rw [bne_self_eq_false, if_neg (by decide), mark_some r.1 (by omega) (by omega), Option.bind_some, held_some r.1.length (by omega) (by omega), Option.bind_some, if_neg (by omega), if_pos rfl, toTable_some, Option.bind_some, hi2, Option.bind_some, eqInt_self r.1 (by omega) (by omega), Option.bind_some, if_pos rfl]
  simp only [laws_FnExactContradiction.j1]
  rw [bne_self_eq_false, if_neg (by decide), held_some r.1.length (by omega) (by omega), Option.bind_some, if_neg (by omega), if_pos rfl]
end Go.Proofs.Ytcgjlmgfmiacgaa.U
