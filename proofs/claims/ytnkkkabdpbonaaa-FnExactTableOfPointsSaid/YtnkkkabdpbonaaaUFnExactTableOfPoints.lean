/- The law on TableOfPoints, over numbers: the program's and the reference's answers are equal. -/
import Derived.Test.YtnkkkabdpbonaaaU19
import Derived.Test.YtnkkkabdpbonaaaFlawsFnExactTableOfPoints
namespace Go.Proofs.Ytnkkkabdpbonaaa.U
open Go.RowKit Go.Proofs.Ytnkkkabdpbonaaa.F Go.Proofs.Ytnkkkabdpbonaaa.B
theorem FnExactTableOfPoints (a : Int) (l : List Int) (_ : (Lit.int .i64 a).wf = true) (_ : l.length ≤ maxLen) (_ : l.length * 8 ≤ 140737488351232) (_ : ∀ x ∈ l, (Lit.int .i64 x).wf = true) : ∃ k, laws_FnExactTableOfPoints.f k a l = some true := by
  by_cases hl : (l.length : Int) > 1048576
  · refine ⟨0, ?_⟩
    unfold laws_FnExactTableOfPoints.f
    rw [if_pos hl]
  · refine ⟨l.length + 1500 + 1, ?_⟩
    unfold laws_FnExactTableOfPoints.f
    rw [if_neg hl, toInt_some l (by omega) (by omega)]
    simp only [Option.bind_some]
    rw [spec_points a l (by omega) (by omega), impl_points a l (by omega)]
    simp only [Option.bind_some]
    rw [eqTable_self]
    simp only [Option.bind_some, if_true, bne_self_eq_false, laws_FnExactTableOfPoints.j0]
    rw [if_neg (by decide), toInt_some l (by omega) (by omega)]
    simp only [Option.bind_some]
    rw [eqInt_self l (by omega) (by omega)]
    rfl
end Go.Proofs.Ytnkkkabdpbonaaa.U
