/- The law on IsAffine, over numbers: the program's and the reference's answers are equal. -/
import Derived.Test.YtgcflignpeencaaU29
import Derived.Test.YtgcflignpeencaaFlawsFnExactIsAffine
namespace Go.Proofs.Ytgcflignpeencaa.U
open Go.RowKit Go.Proofs.Ytgcflignpeencaa.F Go.Proofs.Ytgcflignpeencaa.B
theorem FnExactIsAffine (a b : Int) (_ : (Lit.int .i64 a).wf = true) (wb : (Lit.int .i64 b).wf = true) : ∃ k, laws_FnExactIsAffine.f k a b = some true := by
  obtain ⟨h0, h1⟩ := wf_i64 wb
  suffices h : ∀ k, 400 < k → laws_FnExactIsAffine.f k a b = some true from ⟨401, h _ (by omega)⟩
  intro k hk
  unfold laws_FnExactIsAffine.f impl_IsAffine.f spec_IsAffine.f
  have hs := spec_nearest a b (k := k) (by omega)
  have hi := impl_nearest (a := a) h0 h1 (k := k) (by omega)
  generalize nearI a b = r at hs hi
  rw [toTable_some, Option.bind_some, hs, Option.bind_some]
  cases hq : r.2.2.2 with
  | true => rw [if_pos rfl, Option.bind_some, Option.bind_some, hi, Option.bind_some, hq, if_pos rfl, Option.bind_some, bne_self_eq_false, if_neg (by decide)]
  | false => rw [if_neg (by decide), Option.bind_some, Option.bind_some, hi, Option.bind_some, hq, if_neg (by decide), Option.bind_some, bne_self_eq_false, if_neg (by decide)]
end Go.Proofs.Ytgcflignpeencaa.U
