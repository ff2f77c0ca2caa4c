/- MaximalZeros: the reference's way. -/
import Derived.Test.YtnkkkabdpbonaaaU8
import Derived.Test.YtnkkkabdpbonaaaFspecMaximalZeros
import Derived.Test.YtnkkkabdpbonaaaFimplMaximalZeros
namespace Go.Proofs.Ytnkkkabdpbonaaa.U
open Go.RowKit Go.Proofs.YtnkkkabdpbonaaaW.PrintWords Go.Proofs.YtnkkkabdpbonaaaW.PrintLast Go.Proofs.YtnkkkabdpbonaaaW.PrintMore Go.Proofs.Ytnkkkabdpbonaaa.F Go.Proofs.Ytnkkkabdpbonaaa.B
set_option linter.unusedVariables false
set_option linter.unusedSimpArgs false
theorem maxZeros_inner {n w x : Nat} (ht : Tab n w) (hx : x < 2 ^ n) (L : List Int) (hL : L.length < 1000) : ∀ d k i, i + d = n → d < k →
    ∃ k', k ≤ k' + d + 1 ∧ spec_MaximalZeros.l1 k L x (edgeS w false false x i) i n w = spec_MaximalZeros.l0 k' (if edge n w false false x then L ++ [(x : Int)] else L) ((x + 1 : Nat) : Int) n w := by
  have hn := ht.1
  have hx32 := ht.x_lt hx
  intro d
  induction d with
  | zero =>
    intro k i hi hk
    obtain ⟨k, rfl⟩ : ∃ m, k = m + 1 := ⟨k - 1, by omega⟩
    obtain rfl : i = n := by omega
    refine ⟨k, by omega, ?_⟩
    simp only [spec_MaximalZeros.l1]
    rw [if_neg (by omega), wrap64_succ (by omega)]
    unfold edge
    cases hs : edgeS w false false x i with
    | true => rw [if_pos rfl, if_pos rfl, if_pos (by omega)]
    | false => rw [if_neg (by decide), if_neg (by decide)]
  | succ d ih =>
    intro k i hi hk
    obtain ⟨k, rfl⟩ : ∃ m, k = m + 1 := ⟨k - 1, by omega⟩
    obtain ⟨k', hk', e⟩ := ih k (i + 1) (by omega) (by omega)
    refine ⟨k', by omega, ?_⟩
    rw [edgeS_succ] at e
    simp only [spec_MaximalZeros.l1]
    rw [if_pos (by omega), wrap64_succ (by omega)]
    cases hs : edgeS w false false x i with
    | false =>
      rw [hs, Bool.false_and] at e
      rw [if_neg (by decide)]
      exact e
    | true =>
      rw [hs, Bool.true_and] at e
      have hp := pow_le_pow (show i ≤ 4 by omega)
      have hf := Nat.lt_of_lt_of_le (flip_lt hx (show i < n by omega)) (pow_le ht.1)
      rw [if_pos rfl, if_pos (by omega), bit_cast (by omega) (by omega)]
      by_cases hq : x.testBit i = false
      · rw [if_neg (by rw [bit_eq_one, hq]; decide), shl1_of (by omega), xor_cast (by omega) (by omega), if_pos (Int.natCast_nonneg _), bit_cast ht.lt63 (by omega)]
        have hc : edgeC w false false x i = ((((bitN w (x ^^^ 2 ^ i) : Nat) : Int)) == 1) := by
          unfold edgeC bitN
          rw [hq]
          cases w.testBit (x ^^^ 2 ^ i) <;> rfl
        rw [hc] at e
        exact e
      · rw [if_pos (bit_eq_one.mpr (by cases hb : x.testBit i <;> simp [hb] at hq ⊢))]
        have hc : edgeC w false false x i = true := by
          unfold edgeC
          cases hb : x.testBit i <;> simp [hb] at hq ⊢
        rw [hc] at e
        exact e
theorem maxZeros_outer {n w : Nat} (ht : Tab n w) : ∀ d k x, x + d = 2 ^ n → d * 10 + 5 < k →
    spec_MaximalZeros.l0 k (filtN (edge n w false false) x) x n w = some (filtN (edge n w false false) (2 ^ n)) := by
  have hM := pow_le ht.1
  have hn := ht.1
  intro d
  induction d with
  | zero =>
    intro k x hx hk
    obtain ⟨k, rfl⟩ : ∃ m, k = m + 1 := ⟨k - 1, by omega⟩
    obtain ⟨k, rfl⟩ : ∃ m, k = m + 1 := ⟨k - 1, by omega⟩
    obtain rfl : x = 2 ^ n := by omega
    simp only [spec_MaximalZeros.l0]
    rw [spec_isTable, isTab_of ht]
    simp only [Option.bind_some, if_true]
    rw [if_pos (by omega), shl1_of (by omega)]
    simp only [spec_MaximalZeros.j1]
    rw [if_neg (by simp)]
  | succ d ih =>
    intro k x hx hk
    obtain ⟨k, rfl⟩ : ∃ m, k = m + 1 := ⟨k - 1, by omega⟩
    obtain ⟨k, rfl⟩ : ∃ m, k = m + 1 := ⟨k - 1, by omega⟩
    have hlt : x < 2 ^ n := by omega
    have hl := filtN_length (edge n w false false) x
    obtain ⟨k', hk', e⟩ := maxZeros_inner ht hlt (filtN (edge n w false false) x) (by omega) n k 0 (by omega) (by omega)
    simp only [spec_MaximalZeros.l0]
    rw [spec_isTable, isTab_of ht]
    simp only [Option.bind_some, if_true]
    rw [if_pos (by omega), shl1_of (by omega), decide_eq_true (by exact_mod_cast hlt)]
    simp only [spec_MaximalZeros.j1]
    rw [if_pos trivial, if_pos (by omega), bit_cast ht.lt63 (by omega)]
    have hz : ((((bitN w x : Nat) : Int)) == 0) = edgeS w false false x 0 := by
      unfold edgeS bitN
      rw [allN]
      cases w.testBit x <;> rfl
    rw [hz]
    exact e.trans (ih k' (x + 1) (by omega) (by omega))
theorem spec_maxZeros (a b : Int) {k : Nat} (hk : 340 < k) : spec_MaximalZeros.f k a b = some (if isTab a b = true then filtN (edge a.toNat b.toNat false false) (2 ^ a.toNat) else []) := by
  unfold spec_MaximalZeros.f
  by_cases h : isTab a b = true
  · obtain ⟨n, w, rfl, rfl, ht⟩ := tab_of h
    have hM := pow_le ht.1
    rw [if_pos h]
    exact maxZeros_outer ht (2 ^ n) k 0 (by omega) (by omega)
  · obtain ⟨k, rfl⟩ : ∃ m, k = m + 1 := ⟨k - 1, by omega⟩
    obtain ⟨k, rfl⟩ : ∃ m, k = m + 1 := ⟨k - 1, by omega⟩
    simp only [spec_MaximalZeros.l0]
    rw [spec_isTable]
    simp only [Option.bind_some]
    rw [if_neg h, if_neg h]
    simp only [spec_MaximalZeros.j1]
    rw [if_neg (by decide)]
theorem impl_maxZeros {a b : Int} (h0 : -9223372036854775808 ≤ b) (h1 : b ≤ 9223372036854775807) {k : Nat} (hk : 340 < k) : impl_MaximalZeros.f k a b = some (if isTab a b = true then filtN (edge a.toNat b.toNat false false) (2 ^ a.toNat) else []) := by
  unfold impl_MaximalZeros.f
  rw [impl_isTable h0 h1]
  simp only [Option.bind_some]
  by_cases h : isTab a b = true
  · obtain ⟨n, w, rfl, rfl, ht⟩ := tab_of h
    have e : impl_Table_edgePoints.f k n w 0 0 = some (filtN (edge n w false false) (2 ^ n)) := impl_edge false false ht (by omega)
    rw [if_pos h, if_pos h, e]
    rfl
  · rw [if_neg h, if_neg h]
theorem maxZeros_length (a b : Int) : (if isTab a b = true then filtN (edge a.toNat b.toNat false false) (2 ^ a.toNat) else []).length ≤ 32 := by
  by_cases h : isTab a b = true
  · obtain ⟨n, w, rfl, rfl, ht⟩ := tab_of h
    rw [if_pos h]
    exact Nat.le_trans (filtN_length _ _) (pow_le ht.1)
  · rw [if_neg h]; exact Nat.zero_le _
end Go.Proofs.Ytnkkkabdpbonaaa.U
