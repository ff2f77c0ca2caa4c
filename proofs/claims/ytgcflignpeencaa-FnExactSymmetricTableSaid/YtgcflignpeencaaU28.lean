/- The symmetric table of a profile: both ways. -/
import Derived.Test.YtgcflignpeencaaUG
import Derived.Test.YtgcflignpeencaaUPb
import Derived.Test.YtgcflignpeencaaFimplSymmetricTable
import Derived.Test.YtgcflignpeencaaFspecSymmetricTable
namespace Go.Proofs.Ytgcflignpeencaa.U
open Go.RowKit Go.Proofs.YtgcflignpeencaaW.PrintWords Go.Proofs.YtgcflignpeencaaW.PrintLast Go.Proofs.YtgcflignpeencaaW.PrintMore Go.Proofs.Ytgcflignpeencaa.F Go.Proofs.Ytgcflignpeencaa.B
set_option linter.unusedVariables false
set_option linter.unusedSimpArgs false
set_option maxRecDepth 100000
/-- The profile's value at an input. -/
def profT (l : List Int) (x : Nat) : Bool := rd l (pop x : Nat) == 1
/-- What both say. -/
def symI (l : List Int) : Int × Int × Bool := if (1 ≤ l.length ∧ l.length ≤ 6) ∧ exN (fun i => impl_SymmetricTable.bad (rd l i)) l.length = false then (((l.length - 1 : Nat) : Int), ((tabN (profT l) (2 ^ (l.length - 1)) : Nat) : Int), true) else (0, 0, false)
theorem pop_lt {l : List Int} (h : 1 ≤ l.length ∧ l.length ≤ 6) {x : Nat} (hx : x < 2 ^ (l.length - 1)) : x < 32 ∧ pop x < l.length := by
  have h1 := pow_le (n := l.length - 1) (by omega)
  have h2 := pop_le (n := l.length - 1) (by omega) hx
  omega
theorem impl_sym (l : List Int) (hl : l.length < 9223372036854775807) : impl_SymmetricTable.f l = some (symI l) := by
  unfold impl_SymmetricTable.f symI
  rw [if_pos hl]
  by_cases h : 1 ≤ l.length ∧ l.length ≤ 6
  · rw [if_pos h]
    cases hx : exN (fun i => impl_SymmetricTable.bad (rd l i)) l.length with
    | true => rw [if_pos rfl, if_neg (fun q => by cases q.2)]
    | false =>
      have ho : ∀ x : Nat, x < 2 ^ (l.length - 1) → impl_ones.f x = some ((pop x : Nat) : Int) := fun x hxl => ones_small (pop_lt h hxl).1
      rw [if_neg (by decide), if_pos (allN_iff.mpr fun x hxl => by unfold impl_SymmetricTable.okx; rw [ho x hxl]; exact decide_eq_true ⟨by omega, by have := (pop_lt h hxl).2; omega⟩), if_pos ⟨h, rfl⟩]
      congr 4
      refine tabN_congr fun x hxl => ?_
      unfold impl_SymmetricTable.p profT
      rw [ho x hxl]
      rfl
  · rw [if_neg h, if_neg (fun q => h q.1)]
theorem bit_of {l : List Int} (h : exN (fun i => impl_SymmetricTable.bad (rd l i)) l.length = false) {i : Nat} (hi : i < l.length) : rd l i = ((rd l i == 1).toNat : Nat) := by
  cases hc : impl_SymmetricTable.bad (rd l i) with
  | true => rw [exN_hit (p := fun i => impl_SymmetricTable.bad (rd l i)) hi hc] at h; cases h
  | false =>
    unfold impl_SymmetricTable.bad at hc
    rw [Bool.not_eq_false'] at hc
    rcases of_decide_eq_true hc with h | h <;> rw [h] <;> rfl
theorem sym_l1 {l : List Int} (h : 1 ≤ l.length ∧ l.length ≤ 6) (hb : exN (fun i => impl_SymmetricTable.bad (rd l i)) l.length = false) : ∀ (d k x : Nat), x + d = 2 ^ (l.length - 1) → d + 20 < k →
    spec_SymmetricTable.l1 k l ((l.length - 1 : Nat) : Int) ((tabN (profT l) x : Nat) : Int) x = some (((l.length - 1 : Nat) : Int), ((tabN (profT l) (2 ^ (l.length - 1)) : Nat) : Int), true) := by
  have hM := pow_le (n := l.length - 1) (by omega)
  intro d
  induction d with
  | zero =>
    intro k x hx hk
    obtain ⟨k, rfl⟩ : ∃ m, k = m + 1 := ⟨k - 1, by omega⟩
    obtain rfl : x = 2 ^ (l.length - 1) := by omega
    simp only [spec_SymmetricTable.l1]
    rw [if_pos (Int.natCast_nonneg _), shl1_of (by omega), if_neg (by omega)]
  | succ d ih =>
    intro k x hx hk
    obtain ⟨k, rfl⟩ : ∃ m, k = m + 1 := ⟨k - 1, by omega⟩
    have hxl : x < 2 ^ (l.length - 1) := by omega
    obtain ⟨h1, h2⟩ := pop_lt h hxl
    have hT := tabN_lt63 (profT l) (show x ≤ 32 by omega)
    have hs : (profT l x).toNat <<< x < 2 ^ 32 := by
      have := @bitN_shl_lt (if profT l x = true then 1 else 0) 0 x 32 (by omega)
      have e : bitN (if profT l x = true then 1 else 0) 0 = (profT l x).toNat := by cases profT l x <;> rfl
      rw [e] at this
      exact this
    have hr : rd l ((pop x : Nat) : Int) = (((profT l x).toNat : Nat) : Int) := bit_of hb h2
    simp only [spec_SymmetricTable.l1]
    rw [if_pos (Int.natCast_nonneg _), shl1_of (by omega), if_pos (by omega), ones_ref h1 (by omega), Option.bind_some, if_pos (Int.natCast_nonneg _), if_pos (by omega), if_pos (Int.natCast_nonneg _), hr, shl_cast (by omega) (by omega), or_cast hT (by omega), wrap64_succ (by omega)]
    exact ih k (x + 1) (by omega) (by omega)
theorem sym_l0 (l : List Int) (hl : l.length < 9223372036854775807) : ∀ (d k i : Nat), i + d = l.length → d + 100 < k → exN (fun i => impl_SymmetricTable.bad (rd l i)) i = false →
    spec_SymmetricTable.l0 k l i = some (symI l) := by
  intro d
  induction d with
  | zero =>
    intro k i hi hk hx
    obtain ⟨k, rfl⟩ : ∃ m, k = m + 1 := ⟨k - 1, by omega⟩
    obtain rfl : i = l.length := by omega
    unfold symI
    simp only [spec_SymmetricTable.l0]
    rw [if_neg (by omega), l1In_some _ _ _ _ rfl, Option.bind_some]
    by_cases h : 1 ≤ l.length ∧ l.length ≤ 6
    · rw [if_pos (decide_eq_true (by omega)), if_pos ⟨h, hx⟩, show wrap64 ((l.length : Int) - 1) = ((l.length - 1 : Nat) : Int) by rw [wrap64_of (by omega) (by omega)]; omega]
      exact sym_l1 h hx (2 ^ (l.length - 1)) k 0 (by omega) (by have := pow_le (n := l.length - 1) (by omega); omega)
    · rw [if_neg (by rw [decide_eq_true_eq]; omega), if_neg (fun q => h q.1)]
  | succ d ih =>
    intro k i hi hk hx
    obtain ⟨k, rfl⟩ : ∃ m, k = m + 1 := ⟨k - 1, by omega⟩
    simp only [spec_SymmetricTable.l0]
    rw [if_pos (by omega), if_pos (Int.natCast_nonneg _), l1In_some _ _ _ _ rfl, Option.bind_some, wrap64_succ (by omega)]
    by_cases h : 0 ≤ rd l i ∧ rd l i ≤ 1
    · rw [if_pos (decide_eq_true h)]
      exact ih k (i + 1) (by omega) (by omega) (exN_skip hx (by unfold impl_SymmetricTable.bad; rw [decide_eq_true (by omega)]; rfl))
    · rw [if_neg (by simpa using h)]
      unfold symI
      rw [if_neg (fun q => ?_)]
      have hb : impl_SymmetricTable.bad (rd l i) = true := by
        unfold impl_SymmetricTable.bad
        rw [decide_eq_false (by omega)]
        rfl
      have := q.2
      rw [exN_hit (p := fun i => impl_SymmetricTable.bad (rd l i)) (i := i) (by omega) hb] at this
      cases this
theorem spec_sym (l : List Int) (hl : l.length < 9223372036854775807) {k : Nat} (hk : l.length + 100 < k) : spec_SymmetricTable.f k l = some (symI l) := sym_l0 l hl l.length k 0 (by omega) (by omega) rfl
end Go.Proofs.Ytgcflignpeencaa.U
