/- The law on IsSelfDual, over numbers: the program's and the reference's answers are equal. -/
import Derived.Test.YtnkkkabdpbonaaaU3
import Derived.Test.YtnkkkabdpbonaaaFlawsFnExactIsSelfDual
namespace Go.Proofs.Ytnkkkabdpbonaaa.U
open Go.RowKit Go.Proofs.Ytnkkkabdpbonaaa.F Go.Proofs.Ytnkkkabdpbonaaa.B
theorem FnExactIsSelfDual (a b : Int) (_ : (Lit.int .i64 a).wf = true) (wb : (Lit.int .i64 b).wf = true) : ∃ k, laws_FnExactIsSelfDual.f k a b = some true := by
  obtain ⟨h0, h1⟩ := wf_i64 wb
  refine ⟨40, ?_⟩
  unfold laws_FnExactIsSelfDual.f
  rw [toTable_some]
  simp only [Option.bind_some]
  unfold spec_IsSelfDual.f impl_IsSelfDual.f
  rw [spec_dual a b (by decide), impl_isTable h0 h1]
  simp only [Option.bind_some]
  by_cases h : isTab a b = true
  · obtain ⟨n, w, rfl, rfl, ht⟩ := tab_of h
    rw [if_pos h, if_pos h, dual_some ht]
    simp
  · rw [if_neg h, if_neg h]
    simp
end Go.Proofs.Ytnkkkabdpbonaaa.U
