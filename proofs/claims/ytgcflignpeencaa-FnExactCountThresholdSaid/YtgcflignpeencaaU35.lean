/- How many tables are threshold: both ways. -/
import Derived.Test.YtgcflignpeencaaU34
import Derived.Test.YtgcflignpeencaaFimplCountThreshold
import Derived.Test.YtgcflignpeencaaFspecCountThreshold
import Derived.Test.YtgcflignpeencaaU4
namespace Go.Proofs.Ytgcflignpeencaa.U
open Go.RowKit Go.Proofs.YtgcflignpeencaaW.PrintWords Go.Proofs.YtgcflignpeencaaW.PrintLast Go.Proofs.YtgcflignpeencaaW.PrintMore Go.Proofs.Ytgcflignpeencaa.F Go.Proofs.Ytgcflignpeencaa.B
set_option linter.unusedVariables false
set_option linter.unusedSimpArgs false
theorem l2full {n : Nat} (hn : n ≤ 5) : spec_l2Full.f n = some (((2 ^ 2 ^ n - 1 : Nat)) : Int) := by
  unfold spec_l2Full.f
  rw [if_pos (by omega), Int.toNat_natCast]
  congr 1
  have := pow_pos (2 ^ n)
  rw [Int.natCast_sub (by omega)]
  simp
def thr (n w : Nat) : Bool := (weiI n w).2.2
theorem spec_isThr (n w : Nat) {k : Nat} (hk : 50000 < k) : spec_IsThreshold.f k n w = some (thr n w) := by
  unfold spec_IsThreshold.f
  rw [spec_wei _ _ hk, Option.bind_some]
  rfl
theorem impl_isThr {n w : Nat} (ht : Tab n w) {k : Nat} (hk : 50000 < k) : impl_IsThreshold.f k n w = some (thr n w) := by
  have hw := ht.lt
  unfold impl_IsThreshold.f
  rw [impl_wei (by omega) (by omega) hk, Option.bind_some]
  rfl
theorem spec_CountThreshold_loop {n : Nat} (hn : n ≤ 3) : ∀ (d k x : Nat), x + d = 2 ^ 2 ^ n → d + 50010 < k →
    spec_CountThreshold.l0 k n ((cntN (thr n) x : Nat) : Int) x = some ((cntN (thr n) (2 ^ 2 ^ n) : Nat) : Int) := by
  have hM : 2 ^ 2 ^ n ≤ 256 := Nat.pow_le_pow_right (n := 2) (by decide) (Nat.pow_le_pow_right (n := 2) (by decide) hn)
  have hp := pow_pos (2 ^ n)
  intro d
  induction d with
  | zero =>
    intro k x hx hk
    obtain ⟨k, rfl⟩ : ∃ m, k = m + 1 := ⟨k - 1, by omega⟩
    obtain rfl : x = 2 ^ 2 ^ n := by omega
    simp only [spec_CountThreshold.l0]
    rw [l2full (by omega)]
    simp only [Option.bind_some]
    rw [if_neg (by omega)]
  | succ d ih =>
    intro k x hx hk
    obtain ⟨k, rfl⟩ : ∃ m, k = m + 1 := ⟨k - 1, by omega⟩
    have hlt : x < 2 ^ 2 ^ n := by omega
    have ht : Tab n x := ⟨by omega, hlt⟩
    have hc := cntN_le (thr n) x
    have hi := ih k (x + 1) (by omega) (by omega)
    simp only [spec_CountThreshold.l0]
    rw [l2full (by omega)]
    simp only [Option.bind_some]
    rw [if_pos (by omega), spec_isThr n x (by omega)]
    simp only [Option.bind_some]
    rw [wrap64_succ (by omega), wrap64_succ (by omega)]
    rw [cntN] at hi
    cases hv : thr n x with
    | true =>
      rw [hv] at hi
      rw [if_pos rfl]
      exact hi
    | false =>
      rw [hv] at hi
      rw [if_neg (by decide)]
      exact hi
/-- What both say. -/
def cntCountThreshold (a : Int) : Int := if 0 ≤ a ∧ a ≤ 3 then ((cntN (thr a.toNat) (2 ^ 2 ^ a.toNat) : Nat) : Int) else -1
theorem spec_CountThreshold_some (a : Int) {k : Nat} (hk : 51000 < k) : spec_CountThreshold.f k a = some (cntCountThreshold a) := by
  unfold spec_CountThreshold.f cntCountThreshold
  rw [l1In_some a 0 3 _ rfl]
  simp only [Option.bind_some]
  by_cases h : 0 ≤ a ∧ a ≤ 3
  · rw [if_pos (decide_eq_true h), if_pos h]
    obtain ⟨n, rfl⟩ := Int.eq_ofNat_of_zero_le h.1
    have hn : n ≤ 3 := by omega
    have hM : 2 ^ 2 ^ n ≤ 256 := Nat.pow_le_pow_right (n := 2) (by decide) (Nat.pow_le_pow_right (n := 2) (by decide) hn)
    exact spec_CountThreshold_loop hn (2 ^ 2 ^ n) k 0 (by omega) (by omega)
  · rw [if_neg (fun q => h (of_decide_eq_true q)), if_neg h]
theorem impl_CountThreshold_g {K : Nat} (hK : 50000 < K) (a : Int) : impl_CountThreshold.g K a = some (cntCountThreshold a) := by
  unfold impl_CountThreshold.g cntCountThreshold
  by_cases h1 : a < 0
  · rw [if_pos h1, if_neg (by omega)]
  · rw [if_neg h1]
    by_cases h2 : 3 < a
    · rw [if_pos h2, if_neg (by omega)]
    · rw [if_neg h2, if_pos (show 0 ≤ a ∧ a ≤ 3 by omega)]
      obtain ⟨n, rfl⟩ := Int.eq_ofNat_of_zero_le (show 0 ≤ a by omega)
      simp only [Int.toNat_natCast]
      have hn : n ≤ 3 := by omega
      have hv : ∀ x : Nat, x < 2 ^ 2 ^ n → impl_IsThreshold.f K n x = some (thr n x) := fun x hx => impl_isThr ⟨by omega, hx⟩ hK
      rw [if_pos (allN_iff.mpr fun x hx => by rw [hv x hx]; rfl), cntN_congr (q := thr n) fun x hx => by unfold impl_CountThreshold.p; rw [hv x hx]; cases thr n x <;> rfl]
theorem impl_CountThreshold_some (a : Int) : impl_CountThreshold.f a = some (cntCountThreshold a) := impl_CountThreshold_g (by omega) a
end Go.Proofs.Ytgcflignpeencaa.U

