/- Proper games, and desirability: both ways. -/
import Derived.Test.YtnkkkabdpbonaaaUa
import Derived.Test.YtnkkkabdpbonaaaFspecIsProperGame
import Derived.Test.YtnkkkabdpbonaaaFimplIsProperGame
namespace Go.Proofs.Ytnkkkabdpbonaaa.U
open Go.RowKit Go.Proofs.YtnkkkabdpbonaaaW.PrintWords Go.Proofs.YtnkkkabdpbonaaaW.PrintLast Go.Proofs.YtnkkkabdpbonaaaW.PrintMore Go.Proofs.Ytnkkkabdpbonaaa.F Go.Proofs.Ytnkkkabdpbonaaa.B
set_option linter.unusedVariables false
set_option linter.unusedSimpArgs false
/-- Both a coalition and the others win. -/
def both (n w x : Nat) : Bool := w.testBit x && w.testBit (2 ^ n - 1 - x)
def proper (n w : Nat) : Bool := game n w && !exN (both n w) (2 ^ n)
theorem spec_proper_loop {n w : Nat} (ht : Tab n w) (hg : game n w = true) : ∀ d k x, x + d = 2 ^ n → d * 2 + 60 < k → exN (both n w) x = false →
    spec_IsProperGame.l0 k x n w = some (proper n w) := by
  have hn := ht.1
  have hM := pow_le ht.1
  intro d
  induction d with
  | zero =>
    intro k x hx hk hz
    obtain ⟨k, rfl⟩ : ∃ m, k = m + 1 := ⟨k - 1, by omega⟩
    obtain ⟨k, rfl⟩ : ∃ m, k = m + 1 := ⟨k - 1, by omega⟩
    obtain rfl : x = 2 ^ n := by omega
    simp only [spec_IsProperGame.l0]
    rw [spec_game ht (by omega), hg]
    simp only [Option.bind_some, if_true]
    rw [if_pos (by omega), shl1_of (by omega)]
    simp only [spec_IsProperGame.j1]
    rw [if_neg (by simp), spec_game ht (by omega), hg, proper, hg, hz]
    rfl
  | succ d ih =>
    intro k x hx hk hz
    obtain ⟨k, rfl⟩ : ∃ m, k = m + 1 := ⟨k - 1, by omega⟩
    obtain ⟨k, rfl⟩ : ∃ m, k = m + 1 := ⟨k - 1, by omega⟩
    have hlt : x < 2 ^ n := by omega
    simp only [spec_IsProperGame.l0]
    rw [spec_game ht (by omega), hg]
    simp only [Option.bind_some, if_true]
    rw [if_pos (by omega), shl1_of (by omega), decide_eq_true (by exact_mod_cast hlt)]
    simp only [spec_IsProperGame.j1, if_true]
    rw [if_pos (by omega), bit_cast ht.lt63 (by omega), wrap64_succ (by omega)]
    by_cases h1 : w.testBit x = true
    · have e1 : wrap64 (wrap64 (((2 ^ n : Nat) : Int) - 1) - (x : Int)) = ((2 ^ n - 1 - x : Nat) : Int) := by
        rw [pred_cast' (by omega) (by omega), wrap64_of (by omega) (by omega)]
        omega
      rw [if_pos (bit_eq_one.mpr h1), if_pos (by omega), shl1_of (by omega), e1, if_pos (Int.natCast_nonneg _), bit_cast ht.lt63 (by omega)]
      by_cases h2 : w.testBit (2 ^ n - 1 - x) = true
      · rw [if_pos (bit_eq_one.mpr h2), proper, exN_hit hlt (show both n w x = true by simp [both, h1, h2]), hg]
        rfl
      · rw [if_neg (fun h => h2 (bit_eq_one.mp h))]
        exact ih k (x + 1) (by omega) (by omega) (exN_skip hz (by simp [both, h2]))
    · rw [if_neg (fun h => h1 (bit_eq_one.mp h))]
      exact ih k (x + 1) (by omega) (by omega) (exN_skip hz (by simp [both, h1]))
theorem and_shift_zero {n w : Nat} (ht : Tab n w) : (w &&& shiftW n w (2 ^ n - 1) == 0) = !exN (both n w) (2 ^ n) := by
  apply Bool.eq_iff_iff.mpr
  rw [beq_iff_eq, Bool.not_eq_true', Bool.eq_false_iff, Ne, exN_iff]
  constructor
  · rintro h ⟨x, hx, hb⟩
    simp only [both, Bool.and_eq_true] at hb
    have h1 := congrArg (fun v => v.testBit x) h
    simp only [Nat.testBit_and, Nat.zero_testBit, testBit_shiftW hx, xor_top ht.1 hx, hb.1, hb.2, Bool.and_self] at h1
    cases h1
  · intro h
    apply Nat.eq_of_testBit_eq
    intro x
    rw [Nat.testBit_and, Nat.zero_testBit]
    by_cases hx : x < 2 ^ n
    · rw [testBit_shiftW hx, xor_top ht.1 hx]
      cases hb : (w.testBit x && w.testBit (2 ^ n - 1 - x)) with
      | false => rfl
      | true => exact absurd ⟨x, hx, hb⟩ h
    · rw [testBit_ge ht.2 (by omega)]
      rfl
theorem spec_isProper (a b : Int) {k : Nat} (hk : 130 < k) : spec_IsProperGame.f k a b = some (isTab a b && proper a.toNat b.toNat) := by
  unfold spec_IsProperGame.f
  by_cases h : (isTab a b && game a.toNat b.toNat) = true
  · have h' := h
    rw [Bool.and_eq_true] at h
    obtain ⟨n, w, rfl, rfl, ht⟩ := tab_of h.1
    have hM := pow_le ht.1
    rw [h.1]
    exact spec_proper_loop ht h.2 (2 ^ n) k 0 (by omega) (by omega) rfl
  · obtain ⟨k, rfl⟩ : ∃ m, k = m + 1 := ⟨k - 1, by omega⟩
    obtain ⟨k, rfl⟩ : ∃ m, k = m + 1 := ⟨k - 1, by omega⟩
    simp only [spec_IsProperGame.l0]
    rw [spec_isGame a b (by omega)]
    simp only [Option.bind_some]
    rw [if_neg h]
    simp only [spec_IsProperGame.j1]
    rw [if_neg (by decide), spec_isGame a b (by omega)]
    simp only [Option.bind_some]
    congr 1
    unfold proper
    rw [← Bool.and_assoc, Bool.eq_false_iff.mpr h]
    rfl
theorem impl_isProper {a b : Int} (h0 : -9223372036854775808 ≤ b) (h1 : b ≤ 9223372036854775807) {k : Nat} (hk : 130 < k) : impl_IsProperGame.f k a b = some (isTab a b && proper a.toNat b.toNat) := by
  unfold impl_IsProperGame.f
  rw [impl_isGame h0 h1 (by omega)]
  simp only [Option.bind_some]
  unfold proper
  rw [← Bool.and_assoc]
  by_cases h : (isTab a b && game a.toNat b.toNat) = true
  · rw [if_pos h, h]
    rw [Bool.and_eq_true] at h
    obtain ⟨n, w, rfl, rfl, ht⟩ := tab_of h.1
    have hM := pow_le ht.1
    have hp := pow_pos n
    have hs := Nat.lt_of_lt_of_le (shiftW_lt n w (2 ^ n - 1)) (full_le ht.1)
    have hw := ht.lt
    rw [size_some _ (by have := ht.1; omega)]
    simp only [Option.bind_some]
    rw [pred_cast' hp (by omega), shift_some ht (by omega)]
    simp only [Option.bind_some]
    rw [and_cast (by omega) (by omega), Bool.true_and]
    congr 1
    simp only [Int.toNat_natCast]
    rw [← and_shift_zero ht]
    generalize w &&& shiftW n w (2 ^ n - 1) = v
    apply Bool.eq_iff_iff.mpr
    rw [beq_iff_eq, beq_iff_eq]
    omega
  · rw [if_neg h, Bool.eq_false_iff.mpr h]
    rfl
end Go.Proofs.Ytnkkkabdpbonaaa.U
