/- Rectangles of rows and columns: both ways. -/
import Derived.Test.YtcgjlmgfmiacgaaUG
import Derived.Test.YtcgjlmgfmiacgaaU25
import Derived.Test.YtcgjlmgfmiacgaaFimplIsRectangle
import Derived.Test.YtcgjlmgfmiacgaaFspecIsRectangle
namespace Go.Proofs.Ytcgjlmgfmiacgaa.U
open Go.RowKit Go.Proofs.YtcgjlmgfmiacgaaW.PrintWords Go.Proofs.YtcgjlmgfmiacgaaW.PrintLast Go.Proofs.YtcgjlmgfmiacgaaW.PrintMore Go.Proofs.Ytcgjlmgfmiacgaa.F Go.Proofs.Ytcgjlmgfmiacgaa.B
set_option linter.unusedVariables false
set_option linter.unusedSimpArgs false
set_option maxRecDepth 100000
theorem exN_mono {p : Nat → Bool} {m n : Nat} (h : m ≤ n) (k : exN p m = true) : exN p n = true := by
  obtain ⟨i, hi, hp⟩ := exN_iff.mp k
  exact exN_iff.mpr ⟨i, by omega, hp⟩
/-- A cell of the rectangle that has a value. -/
def cellR (s w a b : Nat) (q : Bool) (i j : Nat) : Bool := (a.testBit i && b.testBit j) && (w.testBit (i + 2 ^ s * j) == q)
/-- Is there such a cell in the rows ahead of i, or ahead of j in row i? -/
def metR (s m w a b : Nat) (q : Bool) (i j : Nat) : Bool := exN (fun i' => exN (cellR s w a b q i') (2 ^ m)) i || exN (cellR s w a b q i) j
theorem metR_row (s m w a b : Nat) (q : Bool) (i : Nat) : metR s m w a b q i (2 ^ m) = metR s m w a b q (i + 1) 0 := by
  unfold metR
  rw [exN]
  simp [exN]
theorem metR_next (s m w a b : Nat) (q : Bool) (i j : Nat) : metR s m w a b q i (j + 1) = (metR s m w a b q i j || cellR s w a b q i j) := by
  unfold metR
  rw [exN, Bool.or_assoc]
theorem metR_mono_j {s m w a b : Nat} {q : Bool} {i j j' : Nat} (h : j ≤ j') (k : metR s m w a b q i j = true) : metR s m w a b q i j' = true := by
  unfold metR at *
  rw [Bool.or_eq_true] at *
  rcases k with k | k
  · exact .inl k
  · exact .inr (exN_mono h k)
theorem metR_mono_i {s m w a b : Nat} {q : Bool} {i i' : Nat} (h : i ≤ i') (k : metR s m w a b q i 0 = true) : metR s m w a b q i' 0 = true := by
  unfold metR at *
  rw [Bool.or_eq_true] at *
  rcases k with k | k
  · exact .inl (exN_mono h k)
  · cases k
/-- What the reference holds. -/
def firstR (t f : Bool) : Int := if t = true then 1 else if f = true then 0 else -1
theorem spec_rect_cell {s m w a b : Nat} (ht : Tab (s + m) w) (ha : a < 4294967296) (hb : b < 4294967296) {i j : Nat} (hi : i < 2 ^ s) (hj : j < 2 ^ m) (k : Nat) (first : Int) :
    spec_IsRectangle.l1 (k + 2) s a b (rowsV w s m (2 ^ s)) first i j ((s + m : Nat) : Int) w = if (a.testBit i && b.testBit j) = true then (if first ≥ 0 ∧ ¬ (((w.testBit (i + 2 ^ s * j)).toNat : Nat) : Int) = first then some false else spec_IsRectangle.l1 k s a b (rowsV w s m (2 ^ s)) (((w.testBit (i + 2 ^ s * j)).toNat : Nat) : Int) i ((j + 1 : Nat) : Int) ((s + m : Nat) : Int) w) else spec_IsRectangle.l1 k s a b (rowsV w s m (2 ^ s)) first i ((j + 1 : Nat) : Int) ((s + m : Nat) : Int) w := by
  have hn := ht.1
  have hM := pow_le (n := s) (by omega)
  have hM2 := pow_le (n := m) (by omega)
  have em : wrap64 (((s + m : Nat) : Int) - (s : Int)) = (m : Int) := by rw [wrap64_of (by omega) (by omega)]; omega
  have hr : rd (rowsV w s m (2 ^ s)) (i : Int) = ((rowV w s m i : Nat) : Int) := listN_get hi
  have hrl : rowV w s m i < 9223372036854775808 := tabN_lt63 _ hM2
  have hbit : bitN (rowV w s m i) j = (w.testBit (i + 2 ^ s * j)).toNat := by unfold bitN rowV; rw [testBit_tabN, decide_eq_true hj, Bool.true_and]
  have hlen : (rowsV w s m (2 ^ s)).length = 2 ^ s := listN_length _ _
  have hj3 : ∀ x70 : Bool, x70 = !(a.testBit i && b.testBit j) → spec_IsRectangle.j3 (k + 1) s a b (rowsV w s m (2 ^ s)) first i j x70 ((s + m : Nat) : Int) w = if (a.testBit i && b.testBit j) = true then (if first ≥ 0 ∧ ¬ (((w.testBit (i + 2 ^ s * j)).toNat : Nat) : Int) = first then some false else spec_IsRectangle.l1 k s a b (rowsV w s m (2 ^ s)) (((w.testBit (i + 2 ^ s * j)).toNat : Nat) : Int) i ((j + 1 : Nat) : Int) ((s + m : Nat) : Int) w) else spec_IsRectangle.l1 k s a b (rowsV w s m (2 ^ s)) first i ((j + 1 : Nat) : Int) ((s + m : Nat) : Int) w := by
    intro x70 hx
    subst hx
    simp only [spec_IsRectangle.j3]
    cases hq : (a.testBit i && b.testBit j) with
    | false => rw [Bool.not_false, if_pos rfl, if_neg (by decide), wrap64_succ (by omega)]
    | true =>
      rw [Bool.not_true, if_neg (by decide), if_pos (Int.natCast_nonneg _), if_pos (by rw [hlen]; omega), if_pos (Int.natCast_nonneg _), hr, bit_cast hrl (by omega), hbit, wrap64_succ (by omega), if_pos rfl]
      by_cases h1 : first ≥ 0
      · rw [if_pos h1]
        by_cases h2 : (((w.testBit (i + 2 ^ s * j)).toNat : Nat) : Int) = first
        · rw [if_pos h2, if_neg (fun q => q.2 h2)]
        · rw [if_neg h2, if_pos ⟨h1, h2⟩]
      · rw [if_neg h1, if_neg (fun q => h1 q.1)]
  simp only [spec_IsRectangle.l1]
  rw [em, if_pos (Int.natCast_nonneg _), shl1_of (by omega), if_pos (by omega), if_pos (Int.natCast_nonneg _), bit_cast (by omega) (by omega), bit_cast (by omega) (by omega), bitz_beq]
  by_cases h1 : a.testBit i = false
  · rw [if_pos (bitz.mpr h1)]
    exact hj3 true (by rw [h1]; rfl)
  · rw [if_neg (fun q => h1 (bitz.mp q)), if_pos (Int.natCast_nonneg _)]
    rw [Bool.not_eq_false] at h1
    exact hj3 _ (by rw [h1, Bool.true_and])
theorem spec_rect_l1 {s m w a b : Nat} (ht : Tab (s + m) w) (ha : a < 4294967296) (hb : b < 4294967296) {i : Nat} (hi : i < 2 ^ s) : ∀ (d k j : Nat), j + d = 2 ^ m → 2 * d + 1 < k → (metR s m w a b true i j && metR s m w a b false i j) = false →
    spec_IsRectangle.l1 k s a b (rowsV w s m (2 ^ s)) (firstR (metR s m w a b true i j) (metR s m w a b false i j)) i j ((s + m : Nat) : Int) w = if (metR s m w a b true i (2 ^ m) && metR s m w a b false i (2 ^ m)) = true then some false else spec_IsRectangle.l0 (k - 2 * d - 1) s a b (rowsV w s m (2 ^ s)) (firstR (metR s m w a b true (i + 1) 0) (metR s m w a b false (i + 1) 0)) ((i + 1 : Nat) : Int) ((s + m : Nat) : Int) w := by
  have hn := ht.1
  have hM := pow_le (n := s) (by omega)
  have hM2 := pow_le (n := m) (by omega)
  have em : wrap64 (((s + m : Nat) : Int) - (s : Int)) = (m : Int) := by rw [wrap64_of (by omega) (by omega)]; omega
  intro d
  induction d with
  | zero =>
    intro k j hj hk hc
    obtain ⟨k, rfl⟩ : ∃ m, k = m + 1 := ⟨k - 1, by omega⟩
    obtain rfl : j = 2 ^ m := by omega
    simp only [spec_IsRectangle.l1]
    rw [em, if_pos (Int.natCast_nonneg _), shl1_of (by omega), if_neg (by omega), hc, if_neg (by decide), metR_row, metR_row, wrap64_succ (by omega)]
    rfl
  | succ d ih =>
    intro k j hj hk hc
    obtain ⟨k, rfl⟩ : ∃ m, k = m + 2 := ⟨k - 2, by omega⟩
    rw [spec_rect_cell ht ha hb hi (by omega)]
    have hih := ih k (j + 1) (by omega) (by omega)
    rw [show k + 2 - 2 * (d + 1) - 1 = k - 2 * d - 1 by omega]
    have hnx := fun q => metR_next s m w a b q i j
    unfold cellR at hnx
    cases hq : (a.testBit i && b.testBit j) with
    | false =>
      rw [if_neg (by decide)]
      have e : ∀ q, metR s m w a b q i (j + 1) = metR s m w a b q i j := fun q => by rw [hnx, hq, Bool.false_and, Bool.or_false]
      rw [e, e] at hih
      exact hih hc
    | true =>
      rw [if_pos rfl]
      have e : ∀ q, metR s m w a b q i (j + 1) = (metR s m w a b q i j || (w.testBit (i + 2 ^ s * j) == q)) := fun q => by rw [hnx, hq, Bool.true_and]
      have hend : metR s m w a b true i (j + 1) = true → metR s m w a b false i (j + 1) = true → some false = if (metR s m w a b true i (2 ^ m) && metR s m w a b false i (2 ^ m)) = true then some false else spec_IsRectangle.l0 (k - 2 * d - 1) s a b (rowsV w s m (2 ^ s)) (firstR (metR s m w a b true (i + 1) 0) (metR s m w a b false (i + 1) 0)) ((i + 1 : Nat) : Int) ((s + m : Nat) : Int) w := by
        intro h1 h2
        rw [metR_mono_j (j' := 2 ^ m) (by omega) h1, metR_mono_j (j' := 2 ^ m) (by omega) h2, if_pos (by decide)]
      rw [e, e] at hih hend
      cases hw : w.testBit (i + 2 ^ s * j) with
      | true =>
        rw [hw] at hih hend
        cases hT : metR s m w a b true i j with
        | true =>
          rw [hT] at hih hc hend
          cases hF : metR s m w a b false i j with
          | true => rw [hF] at hc; cases hc
          | false =>
            rw [hF] at hih
            rw [if_neg (by rintro ⟨_, h⟩; exact h rfl)]
            exact hih rfl
        | false =>
          rw [hT] at hih hc hend
          cases hF : metR s m w a b false i j with
          | true =>
            rw [hF] at hend
            rw [if_pos ⟨by decide, by decide⟩]
            exact hend rfl rfl
          | false =>
            rw [hF] at hih
            rw [if_neg (by rintro ⟨h, _⟩; exact absurd h (by decide))]
            exact hih rfl
      | false =>
        rw [hw] at hih hend
        cases hT : metR s m w a b true i j with
        | true =>
          rw [hT] at hih hc hend
          rw [if_pos ⟨by unfold firstR; rw [if_pos rfl]; decide, by unfold firstR; rw [if_pos rfl]; decide⟩]
          exact hend rfl (by rw [show (false == false) = true from rfl, Bool.or_true])
        | false =>
          rw [hT] at hih hc hend
          cases hF : metR s m w a b false i j with
          | true =>
            rw [hF] at hih
            rw [if_neg (by rintro ⟨_, h⟩; exact h rfl)]
            exact hih rfl
          | false =>
            rw [hF] at hih
            rw [if_neg (by rintro ⟨h, _⟩; exact absurd h (by decide))]
            exact hih rfl
theorem spec_rect_l0 {s m w a b : Nat} (ht : Tab (s + m) w) (ha : a < 4294967296) (hb : b < 4294967296) : ∀ (d k i : Nat), i + d = 2 ^ s → d * 80 < k → (metR s m w a b true i 0 && metR s m w a b false i 0) = false →
    spec_IsRectangle.l0 k s a b (rowsV w s m (2 ^ s)) (firstR (metR s m w a b true i 0) (metR s m w a b false i 0)) i ((s + m : Nat) : Int) w = some (!(metR s m w a b true (2 ^ s) 0 && metR s m w a b false (2 ^ s) 0)) := by
  have hn := ht.1
  have hM := pow_le (n := s) (by omega)
  have hM2 := pow_le (n := m) (by omega)
  have hlen : (rowsV w s m (2 ^ s)).length = 2 ^ s := listN_length _ _
  intro d
  induction d with
  | zero =>
    intro k i hi hk hc
    obtain ⟨k, rfl⟩ : ∃ m, k = m + 1 := ⟨k - 1, by omega⟩
    obtain rfl : i = 2 ^ s := by omega
    simp only [spec_IsRectangle.l0]
    rw [if_neg (by rw [hlen]; omega), hc]
    rfl
  | succ d ih =>
    intro k i hi hk hc
    obtain ⟨k, rfl⟩ : ∃ m, k = m + 1 := ⟨k - 1, by omega⟩
    have h1 := spec_rect_l1 ht ha hb (i := i) (by omega) (2 ^ m) k 0 (by omega) (by omega) hc
    simp only [spec_IsRectangle.l0]
    rw [if_pos (by rw [hlen]; omega)]
    refine Eq.trans h1 ?_
    rw [metR_row, metR_row]
    cases hq : (metR s m w a b true (i + 1) 0 && metR s m w a b false (i + 1) 0) with
    | true =>
      rw [Bool.and_eq_true] at hq
      rw [if_pos rfl, metR_mono_i (i' := 2 ^ s) (by omega) hq.1, metR_mono_i (i' := 2 ^ s) (by omega) hq.2]
      rfl
    | false =>
      rw [if_neg (by decide)]
      exact ih _ (i + 1) (by omega) (by omega) hq
theorem met_all {s m w a b : Nat} (q : Bool) : metR s m w a b q (2 ^ s) 0 = exN (impl_IsRectangle.seen s w a b q) (2 ^ (s + m)) := by
  have hp := pow_pos s
  unfold metR
  rw [show exN (cellR s w a b q (2 ^ s)) 0 = false from rfl, Bool.or_false]
  apply Bool.eq_iff_iff.mpr
  rw [exN_iff, exN_iff]
  constructor
  · rintro ⟨i, hi, h⟩
    obtain ⟨j, hj, h⟩ := exN_iff.mp h
    refine ⟨i + 2 ^ s * j, at_lt hi hj, ?_⟩
    unfold impl_IsRectangle.seen impl_IsRectangle.hit
    rw [Nat.add_mul_mod_self_left, Nat.mod_eq_of_lt hi, Nat.add_mul_div_left _ _ hp, Nat.div_eq_of_lt hi, Nat.zero_add]
    exact h
  · rintro ⟨x, hx, h⟩
    refine ⟨x % 2 ^ s, Nat.mod_lt _ hp, exN_iff.mpr ⟨x / 2 ^ s, by rw [Nat.div_lt_iff_lt_mul hp, Nat.mul_comm, ← Nat.pow_add]; exact hx, ?_⟩⟩
    unfold cellR
    rw [Nat.mod_add_div]
    exact h
theorem rect_bad {m : Nat} (hm : m ≤ 5) (r : Int) : impl_IsRectangle.bad m r = !decide (1 ≤ r ∧ r ≤ ((2 ^ 2 ^ m : Nat) : Int) - 1) := by
  have hp := pow_pos (2 ^ m)
  unfold impl_IsRectangle.bad
  by_cases h : r ≤ 0
  · rw [decide_eq_true h, decide_eq_false (fun q => by omega)]; rfl
  · obtain ⟨r, rfl⟩ := Int.eq_ofNat_of_zero_le (show 0 ≤ r by omega)
    rw [decide_eq_false h, Bool.false_or, show (2 : Int) ^ 2 ^ m = ((2 ^ 2 ^ m : Nat) : Int) by simp]
    generalize 2 ^ 2 ^ m = F at hp
    by_cases hq : r < F
    · rw [decide_eq_true ⟨by omega, by omega⟩, show ((r : Int) / (F : Int)) = ((r / F : Nat) : Int) by simp, Nat.div_eq_of_lt hq]; rfl
    · rw [decide_eq_false (fun q => by omega), show ((r : Int) / (F : Int)) = ((r / F : Nat) : Int) by simp, Bool.not_false, bne_iff_ne]
      intro q
      have : r / F = 0 := by exact_mod_cast q
      rw [Nat.div_eq_zero_iff] at this
      omega
/-- What both say. -/
def rectI (n w s a b : Int) : Bool := splitI n w s && ((!impl_IsRectangle.bad s.toNat a && !impl_IsRectangle.bad (n - s).toNat b) && impl_IsRectangle.both n.toNat s.toNat w.toNat a.toNat b.toNat)
theorem impl_rect {n w : Int} (s a b : Int) (h0 : -9223372036854775808 ≤ w) (h1 : w ≤ 9223372036854775807) (ha : a ≤ 9223372036854775807) (hb : b ≤ 9223372036854775807) : impl_IsRectangle.f n w s a b = some (rectI n w s a b) := by
  unfold impl_IsRectangle.f rectI
  rw [impl_isSplit s h0 h1, Option.bind_some]
  cases hS : splitI n w s with
  | false => rw [if_neg (by decide), Bool.false_and]
  | true =>
    obtain ⟨t, m, v, rfl, rfl, rfl, ht⟩ := split_of hS
    have hn := ht.1
    have hv := ht.lt63
    rw [if_pos rfl, if_pos ⟨by omega, by omega, by omega, by omega⟩, Bool.true_and]
    cases impl_IsRectangle.bad ((t : Int)).toNat a with
    | true => rw [if_pos rfl]; rfl
    | false =>
      rw [if_neg (by decide)]
      cases impl_IsRectangle.bad (((t + m : Nat) : Int) - (t : Int)).toNat b with
      | true => rw [if_pos rfl]; rfl
      | false => rw [if_neg (by decide)]; rfl
theorem spec_rect (n w s a b : Int) {k : Nat} (hk : 5000 < k) : spec_IsRectangle.f k n w s a b = some (rectI n w s a b) := by
  obtain ⟨k, rfl⟩ : ∃ m, k = m + 1 := ⟨k - 1, by omega⟩
  have hj : ∀ l, spec_IsRectangle.j0 (k + 1) s a b l true n w = some false := by
    intro l
    simp only [spec_IsRectangle.j0]
    rw [if_pos trivial]
  unfold spec_IsRectangle.f rectI
  rw [spec_matrix n w s (by omega), Option.bind_some]
  cases hS : splitI n w s with
  | false =>
    have e : matI n w s = ([], false) := by unfold matI; rw [hS, if_neg (by decide)]
    rw [e, if_neg (by decide), hj, Bool.false_and]
  | true =>
    obtain ⟨t, m, v, rfl, rfl, rfl, ht⟩ := split_of hS
    have hn := ht.1
    have hM := pow_le (n := t) (by omega)
    have hM2 := pow_le (n := m) (by omega)
    have hF := full_le (n := t) (by omega)
    have hF2 := full_le (n := m) (by omega)
    have hp := pow_pos (2 ^ t)
    have hp2 := pow_pos (2 ^ m)
    have em : wrap64 (((t + m : Nat) : Int) - (t : Int)) = (m : Int) := by rw [wrap64_of (by omega) (by omega)]; omega
    have hlen : (rowsV v t m (2 ^ t)).length = 2 ^ t := listN_length _ _
    rw [matI_of ht, if_pos rfl, Bool.true_and]
    show ((spec_l1In.f a 1 (wrap64 ((shl .i64 1 ((rowsV v t m (2 ^ t)).length : Int)) - 1))).bind _) = _
    rw [hlen, shl1_of (by omega), wrap64_of (by omega) (by omega), l1In_some _ _ _ _ rfl, Option.bind_some, Int.toNat_natCast, Int.toNat_natCast, Int.toNat_natCast, show (((t + m : Nat) : Int) - (t : Int)).toNat = m by omega, rect_bad (by omega), rect_bad (by omega), Bool.not_not, Bool.not_not]
    by_cases h1 : 1 ≤ a ∧ a ≤ ((2 ^ 2 ^ t : Nat) : Int) - 1
    · rw [decide_eq_true h1, if_pos rfl, em, if_pos (Int.natCast_nonneg _), shlu1_of (by omega), shl1_of (by omega), wrap64_of (by omega) (by omega), l1In_some _ _ _ _ rfl, Option.bind_some, Bool.true_and]
      by_cases h2 : 1 ≤ b ∧ b ≤ ((2 ^ 2 ^ m : Nat) : Int) - 1
      · rw [decide_eq_true h2, Bool.not_true, Bool.true_and]
        obtain ⟨a, rfl⟩ := Int.eq_ofNat_of_zero_le (show 0 ≤ a by omega)
        obtain ⟨b, rfl⟩ := Int.eq_ofNat_of_zero_le (show 0 ≤ b by omega)
        simp only [spec_IsRectangle.j0]
        rw [if_neg (by decide), Int.toNat_natCast, Int.toNat_natCast]
        have h := spec_rect_l0 (a := a) (b := b) ht (by omega) (by omega) (2 ^ t) k 0 (by omega) (by omega) rfl
        rw [met_all, met_all] at h
        refine Eq.trans h ?_
        unfold impl_IsRectangle.both
        rw [Bool.not_and, Bool.or_comm]
      · rw [decide_eq_false h2, Bool.not_false, hj, Bool.false_and]
    · rw [decide_eq_false h1, if_neg (by decide), hj, Bool.false_and, Bool.false_and]
end Go.Proofs.Ytcgjlmgfmiacgaa.U
