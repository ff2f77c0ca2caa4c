/- The law on VetoPlayers, over numbers: the program's and the reference's answers are equal, and memory is not shared. -/
import Derived.Test.YtnkkkabdpbonaaaU12
import Derived.Test.YtnkkkabdpbonaaaU4
import Derived.Test.YtnkkkabdpbonaaaFlawsFnExactVetoPlayers
namespace Go.Proofs.Ytnkkkabdpbonaaa.U
open Go.RowKit Go.Proofs.Ytnkkkabdpbonaaa.F Go.Proofs.Ytnkkkabdpbonaaa.B
theorem FnExactVetoPlayers (a b : Int) (_ : (Lit.int .i64 a).wf = true) (wb : (Lit.int .i64 b).wf = true) : ∃ k, laws_FnExactVetoPlayers.f k a b = some true := by
  obtain ⟨h0, h1⟩ := wf_i64 wb
  refine ⟨400, ?_⟩
  unfold laws_FnExactVetoPlayers.f
  rw [toTable_some]
  simp only [Option.bind_some]
  rw [spec_vetoes a b (by decide), impl_vetoes h0 h1 (by decide)]
  have hl := game_length a b (veto a.toNat b.toNat)
  rw [show filtN (veto a.toNat b.toNat) a.toNat = vetoes a.toNat b.toNat from rfl] at hl
  generalize (if (isTab a b && game a.toNat b.toNat) = true then _ else _ : List Int) = l at hl ⊢
  simp only [Option.bind_some]
  rw [eqInt_self l (by omega) (by omega)]
  simp only [Option.bind_some, if_true]
  rw [mark_some l (by omega) (by omega)]
  simp only [Option.bind_some]
  rw [held_some l.length (by omega) (by omega)]
  simp only [Option.bind_some]
  rw [if_neg (by omega)]
  simp
  omega
end Go.Proofs.Ytnkkkabdpbonaaa.U
