/- The walk of one Go function: a call of it ends as the Lean function of its name tells; the conditions are those of each theorem. -/
import Derived.Test.YtflacbjpeecjcacDoorF0
import Derived.Test.YtflacbjpeecjcacDoorShelf
import Derived.Lib.AppendIntMem
namespace Go.Proofs.YtflacbjpeecjcacDoor.F
open Go.RowKit Go.Proofs.YtflacbjpeecjcacDoorW.PrintWords Go.Proofs.YtflacbjpeecjcacDoorW.PrintLast Go.Proofs.YtflacbjpeecjcacDoorW.PrintMore
attribute [local go_sem] max2_int min2_int max_two min_two max_three min_three max_four min_four   -- for this text's walks alone
set_option linter.unusedVariables false
set_option linter.unusedSimpArgs false

/-! ### impl_FormatInt: function 13 -/
/-- The library's table of powers of ten lies as its initialiser lays it. -/
def Tens (w : World) : Prop := Lib.TabIs Tryd.prog w "internal/strconv.uint64pow10" .u64 Lib.pow10Tab
theorem Tens.below {w w' : World} (h : Tens w) (hb : Below w.heap.size w w') : Tens w' := by
  unfold Tens Lib.TabIs World.var? at h ⊢
  obtain ⟨g, hg, h1⟩ := Option.bind_eq_some_iff.mp h
  rw [hg, Option.bind_some]
  have hlt : g < w.heap.size := by
    refine Classical.byContradiction fun hn => ?_
    rw [Array.getElem?_eq_none (by omega)] at h1
    cases h1
  rw [hb.block g hlt]
  exact h1
def impl_FormatInt.f (n : Int) : Option ByteArray := if -9223372036854775808 ≤ n ∧ n ≤ 9223372036854775807 then some ⟨(Lib.itoa n).toArray⟩ else none
set_option maxHeartbeats 400000 in
theorem impl_FormatInt.any (n : Int) (r : ByteArray) (w : World) (ht : Tens w) (h : impl_FormatInt.f n = some r) :
    Calls Tryd.prog 13 #[.int .i64 n] w fun e w' => e = .returned (.string r) ∧ Below w.heap.size w w' := by
  unfold impl_FormatInt.f at h
  split at h
  next hn =>
    cases h
    have HC := Aside0.mk (Tryd.strconv_Itoa n hn.1 hn.2 w ht)
    clear ht hn
    go_enter Tryd.func13, Tryd.ntmps13
    go_wp2_with (go_at_call 16; refine HC.out.mono ?_; rintro e w' ⟨rfl, hk⟩; have HK := Aside0.mk hk; clear hk)
    go_ret
    obtain ⟨k, os, rfl⟩ := HK.out
    exact ⟨rfl, Lib.below_grow _ w (Nat.le_refl _) k os⟩
  next => cases h

end Go.Proofs.YtflacbjpeecjcacDoor.F
