/- The table of weights and a threshold: both ways. -/
import Derived.Test.YtgcflignpeencaaUG
import Derived.Test.YtgcflignpeencaaUSum
import Derived.Test.YtgcflignpeencaaFimplTableOfWeights
import Derived.Test.YtgcflignpeencaaFspecTableOfWeights
namespace Go.Proofs.Ytgcflignpeencaa.U
open Go.RowKit Go.Proofs.YtgcflignpeencaaW.PrintWords Go.Proofs.YtgcflignpeencaaW.PrintLast Go.Proofs.YtgcflignpeencaaW.PrintMore Go.Proofs.Ytgcflignpeencaa.F Go.Proofs.Ytgcflignpeencaa.B
set_option linter.unusedVariables false
set_option linter.unusedSimpArgs false
set_option maxRecDepth 100000
theorem light_of {l : List Int} (h5 : l.length ≤ 5) (h : exN (fun i => impl_TableOfWeights.bad (rd l i)) l.length = false) : Light 100 l := by
  intro i hi
  cases hc : impl_TableOfWeights.bad (rd l i) with
  | true => rw [exN_hit (p := fun i => impl_TableOfWeights.bad (rd l i)) hi hc] at h; cases h
  | false =>
    unfold impl_TableOfWeights.bad at hc
    rw [Bool.or_eq_false_iff, decide_eq_false_iff_not, decide_eq_false_iff_not] at hc
    omega
/-- The value that the weights tell. -/
def overT (l : List Int) (t : Int) (x : Nat) : Bool := decide (t ≤ sumW l x l.length)
/-- What both say. -/
def towI (l : List Int) (t : Int) : Int × Int × Bool := if l.length ≤ 5 ∧ -1000 ≤ t ∧ t ≤ 1000 ∧ exN (fun i => impl_TableOfWeights.bad (rd l i)) l.length = false then ((l.length : Int), ((tabN (overT l t) (2 ^ l.length) : Nat) : Int), true) else (0, 0, false)
theorem impl_tow (l : List Int) (t : Int) (hl : l.length < 9223372036854775807) : impl_TableOfWeights.f l t = some (towI l t) := by
  unfold impl_TableOfWeights.f towI
  rw [if_pos hl]
  by_cases h5 : l.length ≤ 5
  · rw [if_pos h5]
    by_cases h6 : t < -1000
    · rw [if_pos h6, if_neg (fun q => by omega)]
    · rw [if_neg h6]
      by_cases h7 : 1000 < t
      · rw [if_pos h7, if_neg (fun q => by omega)]
      · rw [if_neg h7]
        cases hx : exN (fun i => impl_TableOfWeights.bad (rd l i)) l.length with
        | true => rw [if_pos rfl, if_neg (fun q => by cases q.2.2.2)]
        | false =>
          have hL := light_of h5 hx
          have hw : ∀ x : Nat, x < 2 ^ l.length → impl_weightAt.f 10 l x = some (sumW l x l.length) := fun x hxl => impl_weight (c := 100) hL (by omega) (by omega) (by have := pow_le h5; omega) (by omega)
          rw [if_neg (by decide), if_pos (allN_iff.mpr fun x hxl => by rw [hw x hxl]; rfl), if_pos ⟨h5, by omega, by omega, rfl⟩]
          congr 4
          refine tabN_congr fun x hxl => ?_
          unfold impl_TableOfWeights.p overT
          rw [hw x hxl]
          rfl
  · rw [if_neg h5, if_neg (fun q => h5 q.1)]
theorem tow_l1 {l : List Int} (t : Int) (h5 : l.length ≤ 5) (hL : Light 100 l) : ∀ (d k x : Nat), x + d = 2 ^ l.length → d + 10 < k →
    spec_TableOfWeights.l1 k l t ((tabN (overT l t) x : Nat) : Int) x = some ((l.length : Int), ((tabN (overT l t) (2 ^ l.length) : Nat) : Int), true) := by
  have hM := pow_le h5
  intro d
  induction d with
  | zero =>
    intro k x hx hk
    obtain ⟨k, rfl⟩ : ∃ m, k = m + 1 := ⟨k - 1, by omega⟩
    obtain rfl : x = 2 ^ l.length := by omega
    simp only [spec_TableOfWeights.l1]
    rw [shl1_of (by omega), if_neg (by omega)]
  | succ d ih =>
    intro k x hx hk
    obtain ⟨k, rfl⟩ : ∃ m, k = m + 1 := ⟨k - 1, by omega⟩
    have hT := tabN_lt63 (overT l t) (show x ≤ 32 by omega)
    have hp := pow_le_pow (n := x) (m := 32) (by omega)
    simp only [spec_TableOfWeights.l1]
    rw [shl1_of (by omega), if_pos (by omega), spec_weight (c := 100) hL (by omega) (by omega) (by omega) (by omega), Option.bind_some, wrap64_succ (by omega)]
    by_cases h : sumW l x l.length ≥ t
    · rw [if_pos h, if_pos (Int.natCast_nonneg _), shl1_of (by omega), or_cast hT (by omega), ← tabN_true (show overT l t x = true from decide_eq_true h)]
      exact ih k (x + 1) (by omega) (by omega)
    · rw [if_neg h, ← tabN_false (show overT l t x = false from decide_eq_false h)]
      exact ih k (x + 1) (by omega) (by omega)
theorem tow_l0 (l : List Int) (t : Int) (hl : l.length < 9223372036854775807) : ∀ (d k i : Nat), i + d = l.length → d + 50 < k → exN (fun i => impl_TableOfWeights.bad (rd l i)) i = false →
    spec_TableOfWeights.l0 k l t i = some (towI l t) := by
  intro d
  induction d with
  | zero =>
    intro k i hi hk hx
    obtain ⟨k, rfl⟩ : ∃ m, k = m + 2 := ⟨k - 2, by omega⟩
    obtain rfl : i = l.length := by omega
    unfold towI
    simp only [spec_TableOfWeights.l0]
    rw [if_neg (by omega)]
    by_cases h5 : l.length ≤ 5
    · rw [if_neg (by omega), l1In_some _ _ _ _ rfl, Option.bind_some]
      simp only [spec_TableOfWeights.j1]
      by_cases h6 : -1000 ≤ t ∧ t ≤ 1000
      · rw [decide_eq_true h6, Bool.not_true, if_neg (by decide), if_pos ⟨h5, h6.1, h6.2, hx⟩]
        exact tow_l1 t h5 (light_of h5 hx) (2 ^ l.length) k 0 (by omega) (by have := pow_le h5; omega)
      · rw [decide_eq_false h6, Bool.not_false, if_pos rfl, if_neg (fun q => h6 ⟨q.2.1, q.2.2.1⟩)]
    · rw [if_pos (by omega)]
      simp only [spec_TableOfWeights.j1]
      rw [if_pos trivial, if_neg (fun q => h5 q.1)]
  | succ d ih =>
    intro k i hi hk hx
    obtain ⟨k, rfl⟩ : ∃ m, k = m + 1 := ⟨k - 1, by omega⟩
    simp only [spec_TableOfWeights.l0]
    rw [if_pos (by omega), if_pos (Int.natCast_nonneg _), l1In_some _ _ _ _ rfl, Option.bind_some, wrap64_succ (by omega)]
    by_cases h : -100 ≤ rd l i ∧ rd l i ≤ 100
    · rw [if_pos (decide_eq_true h)]
      exact ih k (i + 1) (by omega) (by omega) (exN_skip hx (by unfold impl_TableOfWeights.bad; rw [decide_eq_false (by omega), decide_eq_false (by omega)]; rfl))
    · rw [if_neg (by simpa using h)]
      unfold towI
      rw [if_neg (fun q => ?_)]
      have hb : impl_TableOfWeights.bad (rd l i) = true := by
        unfold impl_TableOfWeights.bad
        by_cases h1 : rd l i < -100
        · rw [decide_eq_true h1]; rfl
        · rw [decide_eq_false h1, Bool.false_or]; exact decide_eq_true (by omega)
      have := q.2.2.2
      rw [exN_hit (p := fun i => impl_TableOfWeights.bad (rd l i)) (i := i) (by omega) hb] at this
      cases this
theorem spec_tow (l : List Int) (t : Int) (hl : l.length < 9223372036854775807) {k : Nat} (hk : l.length + 50 < k) : spec_TableOfWeights.f k l t = some (towI l t) := tow_l0 l t hl l.length k 0 (by omega) (by omega) rfl
end Go.Proofs.Ytgcflignpeencaa.U
