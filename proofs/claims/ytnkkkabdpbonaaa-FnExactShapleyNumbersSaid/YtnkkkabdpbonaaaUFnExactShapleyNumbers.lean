/- The law on ShapleyNumbers, over numbers: the program's and the reference's answers are equal, and memory is not shared. -/
import Derived.Test.YtnkkkabdpbonaaaU21
import Derived.Test.YtnkkkabdpbonaaaU4
import Derived.Test.YtnkkkabdpbonaaaFlawsFnExactShapleyNumbers
namespace Go.Proofs.Ytnkkkabdpbonaaa.U
open Go.RowKit Go.Proofs.Ytnkkkabdpbonaaa.F Go.Proofs.Ytnkkkabdpbonaaa.B
theorem FnExactShapleyNumbers (a b : Int) (_ : (Lit.int .i64 a).wf = true) (wb : (Lit.int .i64 b).wf = true) : ∃ k, laws_FnExactShapleyNumbers.f k a b = some true := by
  obtain ⟨h0, h1⟩ := wf_i64 wb
  refine ⟨600, ?_⟩
  unfold laws_FnExactShapleyNumbers.f
  rw [toTable_some]
  simp only [Option.bind_some]
  rw [spec_shap a b, impl_shap h0 h1]
  have hl := pow_length (cwS a.toNat) a b
  generalize (if (isTab a b && game a.toNat b.toNat) = true then _ else _ : List Int) = l at hl ⊢
  simp only [Option.bind_some]
  rw [eqInt_self l (by omega) (by omega)]
  simp only [Option.bind_some, if_true]
  rw [mark_some l (by omega) (by omega)]
  simp only [Option.bind_some]
  rw [held_some l.length (by omega) (by omega)]
  simp only [Option.bind_some]
  rw [if_neg (by omega)]
  simp
  omega
end Go.Proofs.Ytnkkkabdpbonaaa.U
