/- The law on ProfileOf, over numbers: the program's and the reference's answers are equal, and memory is not shared. -/
import Derived.Test.YtnkkkabdpbonaaaU15
import Derived.Test.YtnkkkabdpbonaaaU4
import Derived.Test.YtnkkkabdpbonaaaFlawsFnExactProfileOf
namespace Go.Proofs.Ytnkkkabdpbonaaa.U
open Go.RowKit Go.Proofs.Ytnkkkabdpbonaaa.F Go.Proofs.Ytnkkkabdpbonaaa.B
theorem FnExactProfileOf (a b : Int) (_ : (Lit.int .i64 a).wf = true) (wb : (Lit.int .i64 b).wf = true) : ∃ k, laws_FnExactProfileOf.f k a b = some true := by
  obtain ⟨h0, h1⟩ := wf_i64 wb
  refine ⟨400, ?_⟩
  unfold laws_FnExactProfileOf.f
  rw [toTable_some]
  simp only [Option.bind_some]
  rw [spec_prof a b (by decide), impl_prof h0 h1 (by decide)]
  have hl := prof_length a b
  generalize prof a b = l at hl ⊢
  simp only [Option.bind_some]
  rw [eqInt_self l (by omega) (by omega)]
  simp only [Option.bind_some, if_true]
  rw [mark_some l (by omega) (by omega)]
  simp only [Option.bind_some]
  rw [held_some l.length (by omega) (by omega)]
  simp only [Option.bind_some]
  rw [if_neg (by omega)]
  simp
  omega
end Go.Proofs.Ytnkkkabdpbonaaa.U
