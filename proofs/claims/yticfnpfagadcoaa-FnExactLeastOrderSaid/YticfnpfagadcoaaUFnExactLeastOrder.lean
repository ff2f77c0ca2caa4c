/- The law on LeastOrder, over numbers: the program's and the reference's answers are equal, and memory is not shared. -/
import Derived.Test.YticfnpfagadcoaaU50
import Derived.Test.YticfnpfagadcoaaU4
import Derived.Test.YticfnpfagadcoaaFlawsFnExactLeastOrder
namespace Go.Proofs.Yticfnpfagadcoaa.U
open Go.RowKit Go.Proofs.Yticfnpfagadcoaa.F Go.Proofs.Yticfnpfagadcoaa.B
theorem FnExactLeastOrder (a b : Int) (_ : (Lit.int .i64 a).wf = true) (wb : (Lit.int .i64 b).wf = true) : ∃ k, laws_FnExactLeastOrder.f k a b = some true := by
  obtain ⟨h0, h1⟩ := wf_i64 wb
  refine ⟨2000000000000, ?_⟩
  unfold laws_FnExactLeastOrder.f
  have hs := spec_least a b (k := 2000000000000) (by omega)
  have hi := impl_least (a := a) h0 h1
  have hlen := leI_len a b
  generalize leI a b = r at hs hi hlen
  obtain ⟨r1, r2, r3⟩ := r
  replace hlen : r1.length ≤ 4 := hlen
  have hb : (r3 != r3) = false := by cases r3 <;> rfl
  rw [toTable_some, Option.bind_some, hs, Option.bind_some, Option.bind_some, hi, Option.bind_some, eqInt_self r1 (by omega) (by omega), Option.bind_some, if_pos rfl, if_pos rfl, hb, laws_FnExactLeastOrder.j0, if_neg (by decide), mark_some r1 (by omega) (by omega), Option.bind_some, held_some r1.length (by omega) (by omega), Option.bind_some, if_neg (by omega), if_pos rfl, toTable_some, Option.bind_some, hi, Option.bind_some, eqInt_self r1 (by omega) (by omega), Option.bind_some, if_pos rfl, if_pos rfl, hb, laws_FnExactLeastOrder.j1, if_neg (by decide), held_some r1.length (by omega) (by omega), Option.bind_some, if_neg (by omega), if_pos rfl]
end Go.Proofs.Yticfnpfagadcoaa.U
