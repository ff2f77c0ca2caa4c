/- The law on WeightsFor, over numbers: the program's and the reference's answers are equal, and memory is not shared. -/
import Derived.Test.YtgcflignpeencaaU34
import Derived.Test.YtgcflignpeencaaU4
import Derived.Test.YtgcflignpeencaaFlawsFnExactWeightsFor
namespace Go.Proofs.Ytgcflignpeencaa.U
open Go.RowKit Go.Proofs.Ytgcflignpeencaa.F Go.Proofs.Ytgcflignpeencaa.B
theorem FnExactWeightsFor (a b : Int) (_ : (Lit.int .i64 a).wf = true) (wb : (Lit.int .i64 b).wf = true) : ∃ k, laws_FnExactWeightsFor.f k a b = some true := by
  obtain ⟨h0, h1⟩ := wf_i64 wb
  suffices h : ∀ k, 50100 < k → laws_FnExactWeightsFor.f k a b = some true from ⟨50101, h _ (by omega)⟩
  intro k hk
  unfold laws_FnExactWeightsFor.f
  obtain ⟨k, rfl⟩ : ∃ m, k = m + 2 := ⟨k - 2, by omega⟩
  have hl := weiI_length a b
  have hs := spec_wei a b (k := k + 2) (by omega)
  have hi := impl_wei (a := a) h0 h1 (k := k + 2) (by omega)
  have hi2 := impl_wei (a := a) h0 h1 (k := k + 1) (by omega)
  generalize weiI a b = r at hl hs hi hi2
  rw [toTable_some, Option.bind_some, hs, Option.bind_some, Option.bind_some, hi, Option.bind_some, eqInt_self r.1 (by omega) (by omega), Option.bind_some, if_pos rfl, if_pos rfl]
  simp only [laws_FnExactWeightsFor.j0]
  rw [bne_self_eq_false, if_neg (by decide), mark_some r.1 (by omega) (by omega), Option.bind_some, held_some r.1.length (by omega) (by omega), Option.bind_some, if_neg (by omega), if_pos rfl, toTable_some, Option.bind_some, hi2, Option.bind_some, eqInt_self r.1 (by omega) (by omega), Option.bind_some, if_pos rfl, if_pos rfl]
  simp only [laws_FnExactWeightsFor.j1]
  rw [bne_self_eq_false, if_neg (by decide), held_some r.1.length (by omega) (by omega), Option.bind_some, if_neg (by omega), if_pos rfl]
end Go.Proofs.Ytgcflignpeencaa.U

