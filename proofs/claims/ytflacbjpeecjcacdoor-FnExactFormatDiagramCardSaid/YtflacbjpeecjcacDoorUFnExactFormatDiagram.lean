/- The law on FormatDiagram, over numbers: the program's and the reference's texts are equal. -/
import Derived.Test.YtflacbjpeecjcacDoorU77
import Derived.Test.YtflacbjpeecjcacDoorUN
import Derived.Test.YtflacbjpeecjcacDoorUd
import Derived.Test.YtflacbjpeecjcacDoorFlawsFnExactFormatDiagram
import Derived.Test.YtflacbjpeecjcacDoorBase
namespace Go.Proofs.YtflacbjpeecjcacDoor.U
open Go.RowKit Go.Proofs.YtflacbjpeecjcacDoor.F Go.Proofs.YtflacbjpeecjcacDoor.B
theorem FnExactFormatDiagram (l : List S34) (hm : l.length ≤ maxLen) : ∃ k, laws_FnExactFormatDiagram.f k l = some true := by
  have hm' : l.length ≤ 9223372036854775807 := hm
  refine ⟨2000001, ?_⟩
  unfold laws_FnExactFormatDiagram.f
  refine if_pos ?_
  have hsz := szNode_some l hm'
  by_cases hl : 1048576 < l.length
  · rw [if_pos hl] at hsz
    exact .inl hsz
  · rw [if_neg hl] at hsz
    have hc : (l.map cvN).length = l.length := by simp
    obtain ⟨s, h1, h2⟩ := text_both (l.map cvN) (k := 2000001) (by decide) (by omega)
    exact .inr ⟨l.map cvN, s, _, ⟨hsz, Int.natCast_nonneg _, toNode_some l (by omega) (by omega), h2, h1, eqNode_self _ (by omega) (by omega)⟩⟩
end Go.Proofs.YtflacbjpeecjcacDoor.U
