/- The law on GroupsOf, over numbers: the program's and the reference's answers are equal, and memory is not shared. -/
import Derived.Test.YticfnpfagadcoaaU44
import Derived.Test.YticfnpfagadcoaaU45
import Derived.Test.YticfnpfagadcoaaFlawsFnExactGroupsOf
namespace Go.Proofs.Yticfnpfagadcoaa.U
open Go.RowKit Go.Proofs.Yticfnpfagadcoaa.F Go.Proofs.Yticfnpfagadcoaa.B
theorem FnExactGroupsOf (a b : Int) (_ : (Lit.int .i64 a).wf = true) (wb : (Lit.int .i64 b).wf = true) : ∃ k, laws_FnExactGroupsOf.f k a b = some true := by
  obtain ⟨h0, h1⟩ := wf_i64 wb
  refine ⟨4000, ?_⟩
  have hs := spec_groups a b (k := 4000) (by omega)
  have hi := impl_groups (a := a) h0 h1
  obtain ⟨g1, g2⟩ := grpI_ok a b
  generalize grpI a b = r at hs hi g1 g2
  have ht := totL_le r 5 g2
  have ht2 : totL r ≤ 25 := by
    have : r.length * 5 ≤ 5 * 5 := Nat.mul_le_mul_right 5 g1
    omega
  have he := eqRows_self r (k := 4000) (by omega) (fun l hl => by have := g2 l hl; omega) (by omega)
  have hm := mkLL_some (k := 4000) r 1 (by omega) (fun l hl => by have := g2 l hl; omega)
  have hh := heldRows_some r (k := 4000) (by omega) (by omega) (fun l hl => by have := g2 l hl; omega) (by omega)
  have hm' : mkLL 4000 1 r = some (((1 + totL r : Nat) : Int), mkF 1 r) := hm
  unfold laws_FnExactGroupsOf.f
  rw [hs, Option.bind_some, hi, Option.bind_some, he, Option.bind_some, hm', Option.bind_some, hh, Option.bind_some, if_pos ⟨⟨⟨rfl, rfl⟩, Int.natCast_nonneg _⟩, by omega⟩]
end Go.Proofs.Yticfnpfagadcoaa.U
