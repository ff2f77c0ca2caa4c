/- The law on NearestAffine, over numbers: the program's and the reference's answers are equal. -/
import Derived.Test.YtgcflignpeencaaU29
import Derived.Test.YtgcflignpeencaaFlawsFnExactNearestAffine
namespace Go.Proofs.Ytgcflignpeencaa.U
open Go.RowKit Go.Proofs.Ytgcflignpeencaa.F Go.Proofs.Ytgcflignpeencaa.B
theorem FnExactNearestAffine (a b : Int) (_ : (Lit.int .i64 a).wf = true) (wb : (Lit.int .i64 b).wf = true) : ∃ k, laws_FnExactNearestAffine.f k a b = some true := by
  obtain ⟨h0, h1⟩ := wf_i64 wb
  suffices h : ∀ k, 400 < k → laws_FnExactNearestAffine.f k a b = some true from ⟨401, h _ (by omega)⟩
  intro k hk
  unfold laws_FnExactNearestAffine.f
  have hs := spec_nearest a b (k := k) (by omega)
  have hi := impl_nearest (a := a) h0 h1 (k := k) (by omega)
  generalize nearI a b = r at hs hi
  rw [toTable_some, Option.bind_some, hs, Option.bind_some, Option.bind_some, hi, Option.bind_some, if_pos rfl, if_pos rfl, if_pos rfl, bne_self_eq_false, if_neg (by decide)]
end Go.Proofs.Ytgcflignpeencaa.U
