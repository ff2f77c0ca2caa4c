/- How many tables are symmetric: both ways. -/
import Derived.Test.YtnkkkabdpbonaaaU15
import Derived.Test.YtnkkkabdpbonaaaFimplCountSymmetric
import Derived.Test.YtnkkkabdpbonaaaFspecCountSymmetric
import Derived.Test.YtnkkkabdpbonaaaU4
namespace Go.Proofs.Ytnkkkabdpbonaaa.U
open Go.RowKit Go.Proofs.YtnkkkabdpbonaaaW.PrintWords Go.Proofs.YtnkkkabdpbonaaaW.PrintLast Go.Proofs.YtnkkkabdpbonaaaW.PrintMore Go.Proofs.Ytnkkkabdpbonaaa.F Go.Proofs.Ytnkkkabdpbonaaa.B
set_option linter.unusedVariables false
set_option linter.unusedSimpArgs false
theorem spec_CountSymmetric_loop {n : Nat} (hn : n ≤ 4) : ∀ (d k x : Nat), x + d = 2 ^ 2 ^ n → d + 150 < k →
    spec_CountSymmetric.l0 k n ((cntN (sym n) x : Nat) : Int) x = some ((cntN (sym n) (2 ^ 2 ^ n) : Nat) : Int) := by
  have hM : 2 ^ 2 ^ n ≤ 65536 := Nat.pow_le_pow_right (n := 2) (by decide) (Nat.pow_le_pow_right (n := 2) (by decide) hn)
  have hp := pow_pos (2 ^ n)
  intro d
  induction d with
  | zero =>
    intro k x hx hk
    obtain ⟨k, rfl⟩ : ∃ m, k = m + 1 := ⟨k - 1, by omega⟩
    obtain rfl : x = 2 ^ 2 ^ n := by omega
    simp only [spec_CountSymmetric.l0]
    rw [full_some (by omega)]
    simp only [Option.bind_some]
    rw [if_neg (by omega)]
  | succ d ih =>
    intro k x hx hk
    obtain ⟨k, rfl⟩ : ∃ m, k = m + 1 := ⟨k - 1, by omega⟩
    have hlt : x < 2 ^ 2 ^ n := by omega
    have ht : Tab n x := ⟨by omega, hlt⟩
    have hc := cntN_le (sym n) x
    have hi := ih k (x + 1) (by omega) (by omega)
    simp only [spec_CountSymmetric.l0]
    rw [full_some (by omega)]
    simp only [Option.bind_some]
    rw [if_pos (by omega), spec_isSym n x (by omega), isTab_of ht, Bool.true_and, Int.toNat_natCast, Int.toNat_natCast]
    simp only [Option.bind_some]
    rw [wrap64_succ (by omega), wrap64_succ (by omega)]
    rw [cntN] at hi
    cases hv : sym n x with
    | true =>
      rw [hv] at hi
      rw [if_pos rfl]
      exact hi
    | false =>
      rw [hv] at hi
      rw [if_neg (by decide)]
      exact hi
/-- What both say. -/
def cntCountSymmetric (a : Int) : Int := if 0 ≤ a ∧ a ≤ 4 then ((cntN (sym a.toNat) (2 ^ 2 ^ a.toNat) : Nat) : Int) else -1
theorem spec_CountSymmetric_some (a : Int) {k : Nat} (hk : 66000 < k) : spec_CountSymmetric.f k a = some (cntCountSymmetric a) := by
  unfold spec_CountSymmetric.f cntCountSymmetric
  rw [l1In_some a 0 4 _ rfl]
  simp only [Option.bind_some]
  by_cases h : 0 ≤ a ∧ a ≤ 4
  · rw [if_pos (decide_eq_true h), if_pos h]
    obtain ⟨n, rfl⟩ := Int.eq_ofNat_of_zero_le h.1
    have hn : n ≤ 4 := by omega
    have hM : 2 ^ 2 ^ n ≤ 65536 := Nat.pow_le_pow_right (n := 2) (by decide) (Nat.pow_le_pow_right (n := 2) (by decide) hn)
    exact spec_CountSymmetric_loop hn (2 ^ 2 ^ n) k 0 (by omega) (by omega)
  · rw [if_neg (fun q => h (of_decide_eq_true q)), if_neg h]
theorem impl_CountSymmetric_some (a : Int) : impl_CountSymmetric.f a = some (cntCountSymmetric a) := by
  unfold impl_CountSymmetric.f cntCountSymmetric
  by_cases h1 : a < 0
  · rw [if_pos h1, if_neg (by omega)]
  · rw [if_neg h1]
    by_cases h2 : 4 < a
    · rw [if_pos h2, if_neg (by omega)]
    · rw [if_neg h2, if_pos (show 0 ≤ a ∧ a ≤ 4 by omega)]
      obtain ⟨n, rfl⟩ := Int.eq_ofNat_of_zero_le (show 0 ≤ a by omega)
      simp only [Int.toNat_natCast]
      have hn : n ≤ 4 := by omega
      have hv : ∀ x : Nat, x < 2 ^ 2 ^ n → impl_IsSymmetric.f 200 n x = some (sym n x) := fun x hx => by
        have ht : Tab n x := ⟨by omega, hx⟩
        have hw := ht.lt
        rw [impl_isSym (by omega) (by omega) (by decide), isTab_of ht, Bool.true_and, Int.toNat_natCast, Int.toNat_natCast]
      rw [if_pos (allN_iff.mpr fun x hx => by rw [hv x hx]; rfl), cntN_congr (q := sym n) fun x hx => by unfold impl_CountSymmetric.p; rw [hv x hx]; cases sym n x <;> rfl]
end Go.Proofs.Ytnkkkabdpbonaaa.U
