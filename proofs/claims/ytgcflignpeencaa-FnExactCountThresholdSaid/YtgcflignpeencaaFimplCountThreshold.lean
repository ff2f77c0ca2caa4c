/- The walk of one Go function: a call of it ends as the Lean function of its name tells; the conditions are those of each theorem. -/
import Derived.Test.YtgcflignpeencaaF0
import Derived.Test.YtgcflignpeencaaFimplIsThreshold
import Derived.Test.YtgcflignpeencaaFimplcountTables
import Derived.Test.YtgcflignpeencaaBase
namespace Go.Proofs.Ytgcflignpeencaa.F
open Go.RowKit Go.Proofs.YtgcflignpeencaaW.PrintWords Go.Proofs.YtgcflignpeencaaW.PrintLast Go.Proofs.YtgcflignpeencaaW.PrintMore
attribute [local go_sem] max2_int min2_int max_two min_two max_three min_three max_four min_four   -- for this text's walks alone
set_option linter.unusedVariables false
set_option linter.unusedSimpArgs false

/-! ### impl_CountThreshold: function 38 -/
/-- What it gives at a table. -/
def impl_CountThreshold.p (K n x : Nat) : Bool := (impl_IsThreshold.f K n x) == some true
def impl_CountThreshold.g (K : Nat) (a0 : Int) : Option Int := if a0 < 0 then some (-1) else if 3 < a0 then some (-1) else if B.allN (fun x => (impl_IsThreshold.f K a0 x).isSome) (2 ^ 2 ^ a0.toNat) = true then some ((B.cntN (impl_CountThreshold.p K a0.toNat) (2 ^ 2 ^ a0.toNat) : Nat) : Int) else none
def impl_CountThreshold.f (a0 : Int) : Option Int := impl_CountThreshold.g 100000 a0
set_option maxHeartbeats 400000 in
set_option maxRecDepth 100000 in
theorem impl_CountThreshold.any (K : Nat) (a0 r : Int) (w : World) (h : impl_CountThreshold.g K a0 = some r) :
    Calls Try.prog 38 #[.int .i64 a0] w fun e w' => e = .returned (.int .i64 r) ∧ Below w.heap.size w w' := by
  unfold impl_CountThreshold.g at h
  by_cases h1 : a0 < 0
  · rw [if_pos h1] at h
    cases h
    go_enter Try.func38, Try.ntmps38
    go_wp2
    go_ret
    exact ⟨rfl, below_alloc (Below.refl _ _) _⟩
  · rw [if_neg h1] at h
    by_cases h2 : 3 < a0
    · rw [if_pos h2] at h
      cases h
      go_enter Try.func38, Try.ntmps38
      go_wp2
      go_ret
      exact ⟨rfl, below_alloc (Below.refl _ _) _⟩
    · rw [if_neg h2] at h
      split at h
      next ha =>
        obtain ⟨n, rfl⟩ := Int.eq_ofNat_of_zero_le (by omega : 0 ≤ a0)
        simp only [Option.some.injEq, Int.toNat_natCast] at h ha
        subst h
        rw [B.allN_iff] at ha
        have eg := enters_of Try.func34 (by kernel_rfl) rfl
        have HC := impl_countTables.upto 3 n (by omega) (by omega) (impl_CountThreshold.p K n) 34 eg (fun x hx W => by
          have hs := ha x hx
          obtain ⟨b, hb⟩ := Option.isSome_iff_exists.mp hs
          have e : impl_CountThreshold.p K n x = b := by unfold impl_CountThreshold.p; rw [hb]; cases b <;> rfl
          rw [e]
          exact impl_IsThreshold.calls K n x b W hb) w
        clear ha eg
        go_enter Try.func38, Try.ntmps38
        go_wp2_with (go_at_call 70; refine HC.mono ?_; rintro e w' ⟨rfl, hb⟩)
        go_ret
        exact ⟨rfl, hb⟩
      next => cases h
theorem impl_CountThreshold.calls (a0 r : Int) (w : World) (h : impl_CountThreshold.f a0 = some r) :
    Calls Try.prog 38 #[.int .i64 a0] w fun e w' => e = .returned (.int .i64 r) ∧ Below w.heap.size w w' := impl_CountThreshold.any 100000 a0 r w h


end Go.Proofs.Ytgcflignpeencaa.F
