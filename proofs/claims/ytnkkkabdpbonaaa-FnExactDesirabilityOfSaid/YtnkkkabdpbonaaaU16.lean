/- Which of two players is desired more: both ways. -/
import Derived.Test.YtnkkkabdpbonaaaU14
import Derived.Test.YtnkkkabdpbonaaaFimplDesirabilityOf
import Derived.Test.YtnkkkabdpbonaaaFspecDesirabilityOf
namespace Go.Proofs.Ytnkkkabdpbonaaa.U
open Go.RowKit Go.Proofs.YtnkkkabdpbonaaaW.PrintWords Go.Proofs.YtnkkkabdpbonaaaW.PrintLast Go.Proofs.YtnkkkabdpbonaaaW.PrintMore Go.Proofs.Ytnkkkabdpbonaaa.F Go.Proofs.Ytnkkkabdpbonaaa.B
set_option linter.unusedVariables false
set_option linter.unusedSimpArgs false
/-- A coalition without both that i makes win and j does not. -/
def wants (w i j x : Nat) : Bool := !x.testBit i && (!x.testBit j && (w.testBit (x ||| 2 ^ i) && !w.testBit (x ||| 2 ^ j)))
def desV (p q : Bool) : Int := if p = true then (if q = true then 2 else 1) else (if q = true then -1 else 0)
def desire (n w i j : Nat) : Int := desV (exN (wants w i j) (2 ^ n)) (exN (wants w j i) (2 ^ n))
theorem bit_gt (p q : Nat) (w : Nat) : decide (((bitN w p : Nat) : Int) > ((bitN w q : Nat) : Int)) = (w.testBit p && !w.testBit q) := by
  unfold bitN; cases w.testBit p <;> cases w.testBit q <;> decide
theorem bit_ge (p q : Nat) (w : Nat) : decide (((bitN w p : Nat) : Int) ≥ ((bitN w q : Nat) : Int)) = !(w.testBit q && !w.testBit p) := by
  unfold bitN; cases w.testBit p <;> cases w.testBit q <;> decide
theorem exN_succ (p : Nat → Bool) (m : Nat) : exN p (m + 1) = (exN p m || p m) := rfl
theorem impl_des_loop {n w i j : Nat} (ht : Tab n w) (hi : i < n) (hj : j < n) : ∀ (d k x : Nat), x + d = 2 ^ n → d * 2 + 1 < k →
    impl_DesirabilityOf.l0 k i j (exN (wants w i j) x) (exN (wants w j i) x) ((2 ^ n : Nat) : Int) x n w = some (desire n w i j) := by
  have hM := pow_le ht.1
  have hn := ht.1
  intro d
  induction d with
  | zero =>
    intro k x hx hk
    obtain ⟨k, rfl⟩ : ∃ m, k = m + 1 := ⟨k - 1, by omega⟩
    obtain ⟨k, rfl⟩ : ∃ m, k = m + 1 := ⟨k - 1, by omega⟩
    obtain rfl : x = 2 ^ n := by omega
    simp only [impl_DesirabilityOf.l0]
    rw [if_neg (by omega)]
    unfold desire
    generalize exN (wants w i j) (2 ^ n) = p
    generalize exN (wants w j i) (2 ^ n) = q
    cases p <;> cases q <;> simp [impl_DesirabilityOf.j3, desV]
  | succ d ih =>
    intro k x hx hk
    obtain ⟨k, rfl⟩ : ∃ m, k = m + 1 := ⟨k - 1, by omega⟩
    obtain ⟨k, rfl⟩ : ∃ m, k = m + 1 := ⟨k - 1, by omega⟩
    have hlt : x < 2 ^ n := by omega
    have hpi := pow_le_pow (show i ≤ 4 by omega)
    have hpj := pow_le_pow (show j ≤ 4 by omega)
    have hxi : x ||| 2 ^ i < 2 ^ n := Nat.or_lt_two_pow hlt (pow_lt hi)
    have hxj : x ||| 2 ^ j < 2 ^ n := Nat.or_lt_two_pow hlt (pow_lt hj)
    have hi' := ih k (x + 1) (by omega) (by omega)
    rw [exN_succ, exN_succ] at hi'
    simp only [impl_DesirabilityOf.l0]
    rw [if_pos (by exact_mod_cast hlt), if_pos (Int.natCast_nonneg _), bit_cast (by omega) (by omega)]
    by_cases h1 : x.testBit i = true
    · rw [if_neg (fun h => by rw [bit_eq_zero, h1] at h; cases h)]
      simp only [impl_DesirabilityOf.j2]
      rw [if_neg (by decide), wrap64_succ (by omega)]
      have e1 : wants w i j x = false := by simp [wants, h1]
      have e2 : wants w j i x = false := by simp [wants, h1]
      rw [e1, e2, Bool.or_false, Bool.or_false] at hi'
      exact hi'
    · have h1 := Bool.eq_false_iff.mpr h1
      rw [if_pos (bit_eq_zero.mpr h1), if_pos (Int.natCast_nonneg _), bit_cast (by omega) (by omega), bit_beq_zero]
      simp only [impl_DesirabilityOf.j2]
      by_cases h2 : x.testBit j = true
      · rw [h2, if_neg (by decide), wrap64_succ (by omega)]
        have e1 : wants w i j x = false := by simp [wants, h2]
        have e2 : wants w j i x = false := by simp [wants, h2]
        rw [e1, e2, Bool.or_false, Bool.or_false] at hi'
        exact hi'
      · have h2 := Bool.eq_false_iff.mpr h2
        rw [h2, if_pos (by decide), if_pos (Int.natCast_nonneg _), shl1_of (by omega), or_cast (by omega) (by omega), at_some' ht.lt63 (by omega)]
        simp only [Option.bind_some]
        rw [if_pos (Int.natCast_nonneg _), shl1_of (by omega), or_cast (by omega) (by omega), at_some' ht.lt63 (by omega)]
        simp only [Option.bind_some]
        rw [bit_gt, bit_gt, wrap64_succ (by omega)]
        have e1 : wants w i j x = (w.testBit (x ||| 2 ^ i) && !w.testBit (x ||| 2 ^ j)) := by simp [wants, h1, h2]
        have e2 : wants w j i x = (w.testBit (x ||| 2 ^ j) && !w.testBit (x ||| 2 ^ i)) := by simp [wants, h1, h2]
        rw [e1, e2] at hi'
        revert hi'
        generalize exN (wants w i j) x = p
        generalize exN (wants w j i) x = q
        generalize (w.testBit (x ||| 2 ^ i) && !w.testBit (x ||| 2 ^ j)) = s
        generalize (w.testBit (x ||| 2 ^ j) && !w.testBit (x ||| 2 ^ i)) = t
        intro hi'
        cases p <;> cases q <;> simpa using hi'
theorem spec_des_loop {n w i j : Nat} (ht : Tab n w) (hi : i < n) (hj : j < n) : ∀ (d k x : Nat), x + d = 2 ^ n → d + 1 < k →
    spec_DesirabilityOf.l0 k i j (!exN (wants w j i) x) (!exN (wants w i j) x) x n w = some (desire n w i j) := by
  have hM := pow_le ht.1
  have hn := ht.1
  intro d
  induction d with
  | zero =>
    intro k x hx hk
    obtain ⟨k, rfl⟩ : ∃ m, k = m + 1 := ⟨k - 1, by omega⟩
    obtain ⟨k, rfl⟩ : ∃ m, k = m + 1 := ⟨k - 1, by omega⟩
    obtain rfl : x = 2 ^ n := by omega
    simp only [spec_DesirabilityOf.l0]
    rw [if_pos (Int.natCast_nonneg _), shl1_of (by omega), if_neg (by omega)]
    unfold desire
    generalize exN (wants w i j) (2 ^ n) = p
    generalize exN (wants w j i) (2 ^ n) = q
    cases p <;> cases q <;> simp [spec_DesirabilityOf.j2, desV]
  | succ d ih =>
    intro k x hx hk
    obtain ⟨k, rfl⟩ : ∃ m, k = m + 1 := ⟨k - 1, by omega⟩
    have hlt : x < 2 ^ n := by omega
    have hpi := pow_le_pow (show i ≤ 4 by omega)
    have hpj := pow_le_pow (show j ≤ 4 by omega)
    have hxi : x ||| 2 ^ i < 2 ^ n := Nat.or_lt_two_pow hlt (pow_lt hi)
    have hxj : x ||| 2 ^ j < 2 ^ n := Nat.or_lt_two_pow hlt (pow_lt hj)
    have hi' := ih k (x + 1) (by omega) (by omega)
    rw [exN_succ, exN_succ] at hi'
    simp only [spec_DesirabilityOf.l0]
    rw [if_pos (Int.natCast_nonneg _), shl1_of (by omega), if_pos (by exact_mod_cast hlt), if_pos (Int.natCast_nonneg _), bit_cast (by omega) (by omega), wrap64_succ (by omega)]
    by_cases h1 : x.testBit i = true
    · rw [if_pos (bit_eq_one.mpr h1)]
      have e1 : wants w i j x = false := by simp [wants, h1]
      have e2 : wants w j i x = false := by simp [wants, h1]
      rw [e1, e2, Bool.or_false, Bool.or_false] at hi'
      exact hi'
    · rw [if_neg (fun h => h1 (bit_eq_one.mp h)), if_pos (Int.natCast_nonneg _), bit_cast (by omega) (by omega)]
      have h1 := Bool.eq_false_iff.mpr h1
      by_cases h2 : x.testBit j = true
      · rw [if_pos (bit_eq_one.mpr h2)]
        have e1 : wants w i j x = false := by simp [wants, h2]
        have e2 : wants w j i x = false := by simp [wants, h2]
        rw [e1, e2, Bool.or_false, Bool.or_false] at hi'
        exact hi'
      · rw [if_neg (fun h => h2 (bit_eq_one.mp h)), shl1_of (by omega), shl1_of (by omega), or_cast (by omega) (by omega), or_cast (by omega) (by omega), if_pos (Int.natCast_nonneg _), if_pos (Int.natCast_nonneg _), bit_cast ht.lt63 (by omega), bit_cast ht.lt63 (by omega), bit_ge, bit_ge]
        have h2 := Bool.eq_false_iff.mpr h2
        have e1 : wants w i j x = (w.testBit (x ||| 2 ^ i) && !w.testBit (x ||| 2 ^ j)) := by simp [wants, h1, h2]
        have e2 : wants w j i x = (w.testBit (x ||| 2 ^ j) && !w.testBit (x ||| 2 ^ i)) := by simp [wants, h1, h2]
        rw [e1, e2] at hi'
        revert hi'
        generalize exN (wants w i j) x = p
        generalize exN (wants w j i) x = q
        generalize (w.testBit (x ||| 2 ^ i) && !w.testBit (x ||| 2 ^ j)) = s
        generalize (w.testBit (x ||| 2 ^ j) && !w.testBit (x ||| 2 ^ i)) = t
        intro hi'
        cases p <;> cases q <;> simpa using hi'
/-- What both say. -/
def desB (a b i j : Int) : Int := if (isTab a b && game a.toNat b.toNat) = true then (if decide (0 ≤ i ∧ i < a) = true then (if decide (0 ≤ j ∧ j < a) = true then desire a.toNat b.toNat i.toNat j.toNat else -2) else -2) else -2
theorem impl_des {a b : Int} (h0 : -9223372036854775808 ≤ b) (h1 : b ≤ 9223372036854775807) (i j : Int) {k : Nat} (hk : 80 < k) : impl_DesirabilityOf.f k a b i j = some (desB a b i j) := by
  obtain ⟨k, rfl⟩ : ∃ m, k = m + 1 := ⟨k - 1, by omega⟩
  unfold impl_DesirabilityOf.f desB
  rw [impl_isGame h0 h1 (by omega), hasVar h0 h1 i, hasVar h0 h1 j]
  simp only [Option.bind_some]
  by_cases hg : (isTab a b && game a.toNat b.toNat) = true
  · rw [if_pos hg, if_pos hg]
    rw [Bool.and_eq_true] at hg
    obtain ⟨n, w, rfl, rfl, ht⟩ := tab_of hg.1
    have hn := ht.1
    have hM := pow_le ht.1
    rw [hg.1, Bool.true_and, Bool.true_and]
    by_cases hi : 0 ≤ i ∧ i < (n : Int)
    · rw [decide_eq_true hi, if_pos rfl, if_pos rfl]
      by_cases hj : 0 ≤ j ∧ j < (n : Int)
      · obtain ⟨i, rfl⟩ := Int.eq_ofNat_of_zero_le hi.1
        obtain ⟨j, rfl⟩ := Int.eq_ofNat_of_zero_le hj.1
        simp only [decide_eq_true hj, impl_DesirabilityOf.j0, Bool.not_true, if_neg (show ¬ (false = true) by decide), Int.toNat_natCast, if_true]
        rw [size_some _ (by omega)]
        simp only [Option.bind_some]
        exact impl_des_loop ht (by omega) (by omega) (2 ^ n) k 0 (by omega) (by omega)
      · simp only [decide_eq_false hj, impl_DesirabilityOf.j0, Bool.not_false, if_true, if_neg (show ¬ (false = true) by decide)]
    · simp only [decide_eq_false hi, if_neg (show ¬ (false = true) by decide), impl_DesirabilityOf.j0, if_true]
  · rw [if_neg hg, if_neg hg]
    simp only [impl_DesirabilityOf.j0, if_true]
theorem spec_des (a b i j : Int) {k : Nat} (hk : 80 < k) : spec_DesirabilityOf.f k a b i j = some (desB a b i j) := by
  obtain ⟨k, rfl⟩ : ∃ m, k = m + 1 := ⟨k - 1, by omega⟩
  unfold spec_DesirabilityOf.f desB
  rw [spec_isGame a b (by omega)]
  simp only [Option.bind_some]
  by_cases hg : (isTab a b && game a.toNat b.toNat) = true
  · rw [if_pos hg, if_pos hg]
    rw [Bool.and_eq_true] at hg
    obtain ⟨n, w, rfl, rfl, ht⟩ := tab_of hg.1
    have hn := ht.1
    have hM := pow_le ht.1
    rw [l1In_var i hn, l1In_var j hn]
    simp only [Option.bind_some]
    by_cases hi : 0 ≤ i ∧ i < (n : Int)
    · rw [decide_eq_true hi, if_pos rfl, if_pos rfl]
      by_cases hj : 0 ≤ j ∧ j < (n : Int)
      · obtain ⟨i, rfl⟩ := Int.eq_ofNat_of_zero_le hi.1
        obtain ⟨j, rfl⟩ := Int.eq_ofNat_of_zero_le hj.1
        simp only [decide_eq_true hj, spec_DesirabilityOf.j0, Bool.not_true, if_neg (show ¬ (false = true) by decide), Int.toNat_natCast, if_true]
        exact spec_des_loop ht (by omega) (by omega) (2 ^ n) k 0 (by omega) (by omega)
      · simp only [decide_eq_false hj, spec_DesirabilityOf.j0, Bool.not_false, if_true, if_neg (show ¬ (false = true) by decide)]
    · simp only [decide_eq_false hi, if_neg (show ¬ (false = true) by decide), spec_DesirabilityOf.j0, if_true]
  · rw [if_neg hg, if_neg hg]
    simp only [spec_DesirabilityOf.j0, if_true]
end Go.Proofs.Ytnkkkabdpbonaaa.U
