/- Monotone hulls: both ways. -/
import Derived.Test.YtnkkkabdpbonaaaUa
import Derived.Test.YtnkkkabdpbonaaaFspecMonotoneHull
import Derived.Test.YtnkkkabdpbonaaaFimplMonotoneHull
namespace Go.Proofs.Ytnkkkabdpbonaaa.U
open Go.RowKit Go.Proofs.YtnkkkabdpbonaaaW.PrintWords Go.Proofs.YtnkkkabdpbonaaaW.PrintLast Go.Proofs.YtnkkkabdpbonaaaW.PrintMore Go.Proofs.Ytnkkkabdpbonaaa.F Go.Proofs.Ytnkkkabdpbonaaa.B
set_option linter.unusedVariables false
set_option linter.unusedSimpArgs false
/-- Is there an input with 1 at or below x? -/
def below (n w x : Nat) : Bool := exN (fun y => ldiff y x == 0 && w.testBit y) (2 ^ n)
/-- The word of the least monotone table above one. -/
def hullW (n w : Nat) : Nat := tabN (below n w) (2 ^ n)
theorem hullW_lt (n w : Nat) : hullW n w < 2 ^ 2 ^ n := tabN_lt _ _
theorem testBit_hullW {n w x : Nat} (hx : x < 2 ^ n) : (hullW n w).testBit x = below n w x := by unfold hullW; rw [testBit_tabN]; simp [hx]
theorem impl_hull {n w : Nat} (ht : Tab n w) : impl_Table_hull.f n w = some ((n : Int), ((hullW n w : Nat) : Int)) := by
  have := ht.lt
  have := ht.1
  unfold impl_Table_hull.f
  rw [if_pos (by omega)]
  simp only [Int.toNat_natCast]
  rfl
theorem le_of_ldiff {y x : Nat} (h : ldiff y x = 0) : y ≤ x := by
  have : y &&& x = y := (and_eq_iff y x).mpr h
  rw [← this]
  exact Nat.and_le_right
/-- What the reference asks of the inputs up to x. -/
def belowQ (w x y : Nat) : Bool := (y &&& x == y) && w.testBit y
theorem below_eq {n w x : Nat} (hx : x < 2 ^ n) : exN (belowQ w x) (x + 1) = below n w x := by
  apply Bool.eq_iff_iff.mpr
  unfold below
  rw [exN_iff, exN_iff]
  constructor
  · rintro ⟨y, hy, h⟩
    simp only [belowQ, Bool.and_eq_true, beq_iff_eq] at h
    exact ⟨y, by omega, by simp [(and_eq_iff y x).mp h.1, h.2]⟩
  · rintro ⟨y, hy, h⟩
    simp only [Bool.and_eq_true, beq_iff_eq] at h
    have := le_of_ldiff h.1
    exact ⟨y, by omega, by simp [belowQ, (and_eq_iff y x).mpr h.1, h.2]⟩
/-- The reference's word, at x and y. -/
def hullAt (n w x y : Nat) : Nat := tabN (below n w) x ||| (exN (belowQ w x) y).toNat <<< x
theorem hullAt_lt {n w x y : Nat} (hx : x < 32) : hullAt n w x y < 2 ^ 32 := by
  refine Nat.or_lt_two_pow (Nat.lt_of_lt_of_le (tabN_lt _ _) (pow_le_pow (by omega))) ?_
  cases exN (belowQ w x) y
  · simp
  · rw [Bool.toNat_true, one_shl]; exact pow_lt hx
theorem hullAt_end {n w x : Nat} (hx : x < 2 ^ n) : hullAt n w x (x + 1) = tabN (below n w) (x + 1) := by
  unfold hullAt
  rw [below_eq hx, tabN]
theorem hullAt_zero (n w x : Nat) : hullAt n w x 0 = tabN (below n w) x := by simp [hullAt, exN]
theorem hullAt_hit {n w x y : Nat} (h : belowQ w x y = true) : hullAt n w x y ||| 2 ^ x = hullAt n w x (y + 1) := by
  unfold hullAt
  rw [exN, h, Bool.or_true, Bool.toNat_true, one_shl]
  cases exN (belowQ w x) y
  · simp
  · rw [Bool.toNat_true, one_shl, Nat.or_assoc, Nat.or_self]
theorem hullAt_miss {n w x y : Nat} (h : belowQ w x y = false) : hullAt n w x y = hullAt n w x (y + 1) := by
  unfold hullAt
  rw [exN, h, Bool.or_false]
theorem hull_inner {n w x : Nat} (ht : Tab n w) (hx : x < 2 ^ n) : ∀ d k y, y + d = x + 1 → d < k →
    ∃ k', k ≤ k' + d + 1 ∧ spec_MonotoneHull.l1 k ((hullAt n w x y : Nat) : Int) x y n w = spec_MonotoneHull.l0 k' ((tabN (below n w) (x + 1) : Nat) : Int) ((x + 1 : Nat) : Int) n w := by
  have hx32 := ht.x_lt hx
  intro d
  induction d with
  | zero =>
    intro k y hy hk
    obtain ⟨k, rfl⟩ : ∃ m, k = m + 1 := ⟨k - 1, by omega⟩
    obtain rfl : y = x + 1 := by omega
    refine ⟨k, by omega, ?_⟩
    simp only [spec_MonotoneHull.l1]
    rw [if_neg (by omega), hullAt_end hx, wrap64_succ (by omega)]
  | succ d ih =>
    intro k y hy hk
    obtain ⟨k, rfl⟩ : ∃ m, k = m + 1 := ⟨k - 1, by omega⟩
    obtain ⟨k', hk', e⟩ := ih k (y + 1) (by omega) (by omega)
    refine ⟨k', by omega, ?_⟩
    have hl := @hullAt_lt n w x y hx32
    simp only [spec_MonotoneHull.l1]
    rw [if_pos (by omega), and_cast (by omega) (by omega), wrap64_succ (by omega)]
    by_cases hq : y &&& x = y
    · rw [if_pos (by exact_mod_cast hq), if_pos (by omega), bit_cast ht.lt63 (by omega)]
      cases hb : w.testBit y with
      | true =>
        rw [if_pos (by exact_mod_cast bitN_eq_one.mpr hb), if_pos (by omega), shl1_of (by omega), or_cast (by omega) (by have := pow_lt (n := x) (m := 32) hx32; omega), hullAt_hit (by simp [belowQ, hq, hb])]
        exact e
      | false =>
        rw [if_neg (by rw [bitN_eq_zero.mpr hb]; decide), hullAt_miss (by simp [belowQ, hb])]
        exact e
    · rw [if_neg (by intro h; exact hq (by exact_mod_cast h)), hullAt_miss (by simp [belowQ, hq])]
      exact e
theorem hull_outer {n w : Nat} (ht : Tab n w) : ∀ d k x, x + d = 2 ^ n → d * 40 < k →
    spec_MonotoneHull.l0 k ((tabN (below n w) x : Nat) : Int) x n w = some ((n : Int), ((hullW n w : Nat) : Int), true) := by
  have hM := pow_le ht.1
  have hn := ht.1
  intro d
  induction d with
  | zero =>
    intro k x hx hk
    obtain ⟨k, rfl⟩ : ∃ m, k = m + 1 := ⟨k - 1, by omega⟩
    obtain rfl : x = 2 ^ n := by omega
    simp only [spec_MonotoneHull.l0]
    rw [if_pos (by omega), shl1_of (by omega), if_neg (by omega)]
    rfl
  | succ d ih =>
    intro k x hx hk
    obtain ⟨k, rfl⟩ : ∃ m, k = m + 1 := ⟨k - 1, by omega⟩
    obtain ⟨k', hk', e⟩ := hull_inner ht (show x < 2 ^ n by omega) (x + 1) k 0 (by omega) (by omega)
    simp only [spec_MonotoneHull.l0]
    rw [if_pos (by omega), shl1_of (by omega), if_pos (by omega), ← hullAt_zero]
    exact e.trans (ih k' (x + 1) (by omega) (by omega))
theorem spec_hull (a b : Int) {k : Nat} (hk : 1300 < k) : spec_MonotoneHull.f k a b = some (if isTab a b = true then (a, ((hullW a.toNat b.toNat : Nat) : Int), true) else (0, 0, false)) := by
  unfold spec_MonotoneHull.f
  rw [spec_isTable]
  simp only [Option.bind_some]
  by_cases h : isTab a b = true
  · obtain ⟨n, w, rfl, rfl, ht⟩ := tab_of h
    have hM := pow_le ht.1
    rw [if_pos h, if_pos h]
    exact hull_outer ht (2 ^ n) k 0 (by omega) (by omega)
  · rw [if_neg h, if_neg h]
theorem impl_monoHull {a b : Int} (h0 : -9223372036854775808 ≤ b) (h1 : b ≤ 9223372036854775807) : impl_MonotoneHull.f a b = some (if isTab a b = true then (a, ((hullW a.toNat b.toNat : Nat) : Int), true) else (0, 0, false)) := by
  unfold impl_MonotoneHull.f
  rw [impl_isTable h0 h1]
  simp only [Option.bind_some]
  by_cases h : isTab a b = true
  · obtain ⟨n, w, rfl, rfl, ht⟩ := tab_of h
    rw [if_pos h, if_pos h, impl_hull ht]
    rfl
  · rw [if_neg h, if_neg h]
end Go.Proofs.Ytnkkkabdpbonaaa.U
