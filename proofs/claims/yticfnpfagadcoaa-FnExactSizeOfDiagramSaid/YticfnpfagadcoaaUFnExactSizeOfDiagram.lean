/- The law on SizeOfDiagram, over numbers: the program's and the reference's answers are equal, and memory is not shared. -/
import Derived.Test.YticfnpfagadcoaaUc
import Derived.Test.YticfnpfagadcoaaU4
import Derived.Test.YticfnpfagadcoaaUL
import Derived.Test.YticfnpfagadcoaaFlawsFnExactSizeOfDiagram
namespace Go.Proofs.Yticfnpfagadcoaa.U
open Go.RowKit Go.Proofs.Yticfnpfagadcoaa.F Go.Proofs.Yticfnpfagadcoaa.B
theorem FnExactSizeOfDiagram (a b : Int) (l : List Int) (_ : (Lit.int .i64 a).wf = true) (wb : (Lit.int .i64 b).wf = true) (_ : l.length ≤ maxLen) (_ : l.length * 8 ≤ 140737488351232) (_ : ∀ x ∈ l, (Lit.int .i64 x).wf = true) : ∃ k, laws_FnExactSizeOfDiagram.f k a b l = some true := by
  obtain ⟨h0, h1⟩ := wf_i64 wb
  refine ⟨2000000000000, ?_⟩
  unfold laws_FnExactSizeOfDiagram.f spec_SizeOfDiagram.f impl_SizeOfDiagram.f
  by_cases hl : (l.length : Int) > 1048576
  · rw [if_pos hl]
  rw [if_neg hl]
  have hl' : l.length ≤ 1048576 := by omega
  have hc := toInt_some l (k := 2000000000000) (by omega) (by omega)
  have hs := spec_diagram a b (k := 2000000000000) hl' (by omega)
  have hi := impl_diagram (a := a) (k := 2000000000000) h0 h1 hl' (by omega)
  generalize diaI a b l = r at hs hi
  simp only [toTable_some, Option.bind_some, hc, hs, hi]
  cases r.2 <;> simp [eqInt_self l (k := 2000000000000) (by omega) (by omega)]
end Go.Proofs.Yticfnpfagadcoaa.U
