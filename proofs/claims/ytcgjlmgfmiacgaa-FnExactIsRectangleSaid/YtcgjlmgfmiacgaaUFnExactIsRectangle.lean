/- The law on IsRectangle, over numbers: the program's and the reference's answers are equal. -/
import Derived.Test.YtcgjlmgfmiacgaaU32
import Derived.Test.YtcgjlmgfmiacgaaFlawsFnExactIsRectangle
namespace Go.Proofs.Ytcgjlmgfmiacgaa.U
open Go.RowKit Go.Proofs.Ytcgjlmgfmiacgaa.F Go.Proofs.Ytcgjlmgfmiacgaa.B
theorem FnExactIsRectangle (n w s a b : Int) (_ : (Lit.int .i64 n).wf = true) (ww : (Lit.int .i64 w).wf = true) (_ : (Lit.int .i64 s).wf = true) (wa : (Lit.int .i64 a).wf = true) (wb : (Lit.int .i64 b).wf = true) : ∃ k, laws_FnExactIsRectangle.f k n w s a b = some true := by
  obtain ⟨h0, h1⟩ := wf_i64 ww
  obtain ⟨_, ha⟩ := wf_i64 wa
  obtain ⟨_, hb⟩ := wf_i64 wb
  suffices h : ∀ k, 5000 < k → laws_FnExactIsRectangle.f k n w s a b = some true from ⟨5001, h _ (by omega)⟩
  intro k hk
  unfold laws_FnExactIsRectangle.f
  rw [toTable_some, Option.bind_some, spec_rect n w s a b (by omega), Option.bind_some, Option.bind_some, impl_rect s a b h0 h1 ha hb, Option.bind_some, bne_self_eq_false, if_neg (by decide)]
end Go.Proofs.Ytcgjlmgfmiacgaa.U
