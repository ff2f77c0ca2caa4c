/- The law on LargestFooling, over numbers: the program's and the reference's answers are equal, and memory is not shared. -/
import Derived.Test.YticfnpfagadcoaaU43
import Derived.Test.YticfnpfagadcoaaU4
import Derived.Test.YticfnpfagadcoaaFlawsFnExactLargestFooling
namespace Go.Proofs.Yticfnpfagadcoaa.U
open Go.RowKit Go.Proofs.Yticfnpfagadcoaa.F Go.Proofs.Yticfnpfagadcoaa.B
theorem FnExactLargestFooling (a b s v : Int) (_ : (Lit.int .i64 a).wf = true) (wb : (Lit.int .i64 b).wf = true) (_ : (Lit.int .i64 s).wf = true) (_ : (Lit.int .i64 v).wf = true) : ∃ k, laws_FnExactLargestFooling.f k a b s v = some true := by
  obtain ⟨h0, h1⟩ := wf_i64 wb
  suffices h : ∀ k, 3000 < k → laws_FnExactLargestFooling.f k a b s v = some true from ⟨3001, h _ (by omega)⟩
  intro k hk
  unfold laws_FnExactLargestFooling.f
  obtain ⟨k, rfl⟩ : ∃ m, k = m + 2 := ⟨k - 2, by omega⟩
  have hl := largeI_length a b s v
  have hs := spec_large a b s v (k := k + 2) (by omega)
  have hi := impl_large (a := a) s v h0 h1
  generalize largeI a b s v = r at hl hs hi
  rw [toTable_some, Option.bind_some, hs, Option.bind_some, Option.bind_some, hi, Option.bind_some, eqInt_self r.1 (by omega) (by omega), Option.bind_some, if_pos rfl]
  simp only [laws_FnExactLargestFooling.j0]
  rw [bne_self_eq_false, if_neg (by decide), mark_some r.1 (by omega) (by omega), Option.bind_some, held_some r.1.length (by omega) (by omega), Option.bind_some, if_neg (by omega), if_pos rfl, toTable_some, Option.bind_some, hi, Option.bind_some, eqInt_self r.1 (by omega) (by omega), Option.bind_some, if_pos rfl]
  simp only [laws_FnExactLargestFooling.j1]
  rw [bne_self_eq_false, if_neg (by decide), held_some r.1.length (by omega) (by omega), Option.bind_some, if_neg (by omega), if_pos rfl]
end Go.Proofs.Yticfnpfagadcoaa.U
