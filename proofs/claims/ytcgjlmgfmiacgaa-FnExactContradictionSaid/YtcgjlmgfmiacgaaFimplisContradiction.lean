/- The walk of one Go function: a call of it ends as the Lean function of its name tells; the conditions are those of each theorem. -/
import Derived.Test.YtcgjlmgfmiacgaaF0
namespace Go.Proofs.Ytcgjlmgfmiacgaa.F
open Go.RowKit Go.Proofs.YtcgjlmgfmiacgaaW.PrintWords Go.Proofs.YtcgjlmgfmiacgaaW.PrintLast Go.Proofs.YtcgjlmgfmiacgaaW.PrintMore
attribute [local go_sem] max2_int min2_int max_two min_two max_three min_three max_four min_four   -- for this text's walks alone
set_option linter.unusedVariables false
set_option linter.unusedSimpArgs false

/-! ### impl_isContradiction: function 51 -/
def impl_isContradiction.f (a0 : Int) (a1 : Int) (a2 : Int) (a3 : Int) : Option (Bool) := if (Go.bits .and .i64 a0 a1) = (Go.bits .and .i64 a2 a3) then (some ((Go.bits .xor .i64 a0 a1) == (Go.bits .xor .i64 a2 a3))) else (some false)
set_option maxHeartbeats 8000000 in
set_option maxRecDepth 100000 in
theorem impl_isContradiction.calls (a0 : Int) (a1 : Int) (a2 : Int) (a3 : Int) (r : Bool) (w : World) (h : impl_isContradiction.f a0 a1 a2 a3 = some r) :
    Calls Try.prog 51 #[.int .i64 a0, .int .i64 a1, .int .i64 a2, .int .i64 a3] w fun e w' => e = .returned (.bool r) ∧ Drawn0 w w' := by
  have H : (if (Go.bits .and .i64 a0 a1) = (Go.bits .and .i64 a2 a3) then (some ((Go.bits .xor .i64 a0 a1) == (Go.bits .xor .i64 a2 a3))) else (some false)) = some r := h
  clear h
  by_cases c5 : (Go.bits .and .i64 a0 a1) = (Go.bits .and .i64 a2 a3)
  · rw [if_pos c5] at H
    have c5b0 : ((Go.bits .and .i64 a0 a1) == (Go.bits .and .i64 a2 a3)) = true := beq_iff_eq.mpr c5
    have c5b1 : ((Go.bits .and .i64 a0 a1) != (Go.bits .and .i64 a2 a3)) = false := bne_eq_false_iff_eq.mpr c5
    clear c5
    obtain rfl := Option.some.inj H
    go_enter Try.func51, Try.ntmps51
    go_wp2
    go_ret
    exact ⟨by first | rfl | (simp; done) | (simp [*]; done), by repeat (first | exact Drawn0.refl _ | apply Drawn0.step)⟩
  · rw [if_neg c5] at H
    have c5b0 : ((Go.bits .and .i64 a0 a1) == (Go.bits .and .i64 a2 a3)) = false := beq_eq_false_iff_ne.mpr c5
    have c5b1 : ((Go.bits .and .i64 a0 a1) != (Go.bits .and .i64 a2 a3)) = true := bne_iff_ne.mpr c5
    obtain rfl := Option.some.inj H
    go_enter Try.func51, Try.ntmps51
    go_wp2
    go_ret
    exact ⟨by first | rfl | (simp; done) | (simp [*]; done), by repeat (first | exact Drawn0.refl _ | apply Drawn0.step)⟩

end Go.Proofs.Ytcgjlmgfmiacgaa.F
