/- The law on DiagramOf, over numbers: the program's and the reference's answers are equal, and memory is not shared. -/
import Derived.Test.YticfnpfagadcoaaUc
import Derived.Test.YticfnpfagadcoaaUd
import Derived.Test.YticfnpfagadcoaaU4
import Derived.Test.YticfnpfagadcoaaUL
import Derived.Test.YticfnpfagadcoaaFlawsFnExactDiagramOf
namespace Go.Proofs.Yticfnpfagadcoaa.U
open Go.RowKit Go.Proofs.Yticfnpfagadcoaa.F Go.Proofs.Yticfnpfagadcoaa.B
theorem FnExactDiagramOf (a b : Int) (l : List Int) (_ : (Lit.int .i64 a).wf = true) (wb : (Lit.int .i64 b).wf = true) (_ : l.length ≤ maxLen) (_ : l.length * 8 ≤ 140737488351232) (_ : ∀ x ∈ l, (Lit.int .i64 x).wf = true) : ∃ k, laws_FnExactDiagramOf.f k a b l = some true := by
  obtain ⟨h0, h1⟩ := wf_i64 wb
  refine ⟨2000000000000, ?_⟩
  unfold laws_FnExactDiagramOf.f
  by_cases hl : (l.length : Int) > 1048576
  · rw [if_pos hl]
  rw [if_neg hl]
  have hl' : l.length ≤ 1048576 := by omega
  have hc := fun k (hk : 1048576 < k) => toInt_some l (k := k) (by omega) (by omega)
  have hs := fun k (hk : 1200000000001 < k) => spec_diagram a b (k := k) hl' hk
  have hi := fun k (hk : 3000000 < k) => impl_diagram (a := a) (k := k) h0 h1 hl' hk
  have hlen := diaI_len a b l
  generalize diaI a b l = r at hs hi hlen
  obtain ⟨r1, r2⟩ := r
  replace hlen : r1.length ≤ 32 := hlen
  have he := fun k (hk : 100 < k) => eqNode_self r1 (k := k) (by omega) (by omega)
  have hb : (r2 != r2) = false := by cases r2 <;> rfl
  have hmk := fun k (hk : 100 < k) => markN_some 1 r1 (k := k) (by omega) (by omega)
  have hhd := fun k (hk : 100 < k) => heldN_some 1 r1.length (k := k) (by omega) (by omega)
  simp only [toTable_some, Option.bind_some, hc 2000000000000 (by omega), hs 2000000000000 (by omega), hi 2000000000000 (by omega), he 2000000000000 (by omega), hb, if_true]
  rw [laws_FnExactDiagramOf.j0, if_neg (by decide), hc _ (by omega), Option.bind_some, eqInt_self l (by omega) (by omega), Option.bind_some, if_pos rfl, mark_some l (by omega) (by omega), Option.bind_some, if_neg (by simp; omega), he _ (by omega), Option.bind_some, if_pos rfl, hb, laws_FnExactDiagramOf.j1, if_neg (by decide)]
  rw [show ((1 : Int)) = ((1 : Nat) : Int) from rfl, hmk _ (by omega), Option.bind_some, hhd _ (by omega), Option.bind_some, if_neg (by omega), if_pos rfl, toTable_some, Option.bind_some, hc _ (by omega), Option.bind_some, hi _ (by omega), Option.bind_some, he _ (by omega), Option.bind_some, if_pos rfl, hb, laws_FnExactDiagramOf.j2, if_neg (by decide)]
  rw [show ((1 : Int)) = ((1 : Nat) : Int) from rfl, hhd _ (by omega), Option.bind_some, if_neg (by omega), if_pos rfl]
end Go.Proofs.Yticfnpfagadcoaa.U
