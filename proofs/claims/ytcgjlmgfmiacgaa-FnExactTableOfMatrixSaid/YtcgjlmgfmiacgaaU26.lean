/- The table that rows tell: both ways. -/
import Derived.Test.YtcgjlmgfmiacgaaUG
import Derived.Test.YtcgjlmgfmiacgaaUI
import Derived.Test.YtcgjlmgfmiacgaaFimplTableOfMatrix
import Derived.Test.YtcgjlmgfmiacgaaFspecTableOfMatrix
namespace Go.Proofs.Ytcgjlmgfmiacgaa.U
open Go.RowKit Go.Proofs.YtcgjlmgfmiacgaaW.PrintWords Go.Proofs.YtcgjlmgfmiacgaaW.PrintLast Go.Proofs.YtcgjlmgfmiacgaaW.PrintMore Go.Proofs.Ytcgjlmgfmiacgaa.F Go.Proofs.Ytcgjlmgfmiacgaa.B
set_option linter.unusedVariables false
set_option linter.unusedSimpArgs false
set_option maxRecDepth 100000
theorem bad_eq {m : Nat} (hm : m ≤ 5) (r : Int) : impl_TableOfMatrix.bad m r = !decide (0 ≤ r ∧ r ≤ wrap64 (shl .i64 1 (shl .u64 1 (m : Int)) - 1)) := by
  have hM := pow_le hm
  have hF := full_le hm
  have hp := pow_pos (2 ^ m)
  rw [shlu1_of (by omega), shl1_of (by omega), wrap64_of (by omega) (by omega)]
  unfold impl_TableOfMatrix.bad
  by_cases h : r < 0
  · rw [decide_eq_true h, decide_eq_false (fun q => by omega)]; rfl
  · obtain ⟨r, rfl⟩ := Int.eq_ofNat_of_zero_le (show 0 ≤ r by omega)
    rw [decide_eq_false h, Bool.false_or, show (2 : Int) ^ 2 ^ m = ((2 ^ 2 ^ m : Nat) : Int) by simp]
    generalize 2 ^ 2 ^ m = F at hF hp
    by_cases hq : r < F
    · rw [decide_eq_true ⟨by omega, by omega⟩, show ((r : Int) / (F : Int)) = ((r / F : Nat) : Int) by simp, Nat.div_eq_of_lt hq]; rfl
    · rw [decide_eq_false (fun q => by omega), show ((r : Int) / (F : Int)) = ((r / F : Nat) : Int) by simp, Bool.not_false, bne_iff_ne]
      intro q
      have : r / F = 0 := by exact_mod_cast q
      rw [Nat.div_eq_zero_iff] at this
      omega
/-- The word when a rows and b places of the next one are done. -/
def wordT (l : List Int) (s m a b : Nat) : Nat := tabN (fun x => (decide (x % 2 ^ s < a) || (decide (x % 2 ^ s = a) && decide (x / 2 ^ s < b))) && (rd l ((x % 2 ^ s : Nat) : Int)).toNat.testBit (x / 2 ^ s)) (2 ^ (s + m))
theorem place_iff {s a b y : Nat} (ha : a < 2 ^ s) : y = a + 2 ^ s * b ↔ y % 2 ^ s = a ∧ y / 2 ^ s = b := by
  constructor
  · rintro rfl
    exact ⟨by rw [Nat.add_mul_mod_self_left, Nat.mod_eq_of_lt ha], by rw [Nat.add_mul_div_left _ _ (pow_pos s), Nat.div_eq_of_lt ha, Nat.zero_add]⟩
  · rintro ⟨rfl, rfl⟩
    exact (Nat.mod_add_div y (2 ^ s)).symm
theorem place_lt {s m a b : Nat} (ha : a < 2 ^ s) (hb : b < 2 ^ m) : a + 2 ^ s * b < 2 ^ (s + m) := by
  rw [Nat.pow_add]
  have : 2 ^ s * (b + 1) ≤ 2 ^ s * 2 ^ m := Nat.mul_le_mul_left _ hb
  rw [Nat.mul_add] at this
  omega
theorem place_or {s a b : Nat} (ha : a < 2 ^ s) : a ||| b <<< s = a + 2 ^ s * b := by
  rw [Nat.shiftLeft_eq, Nat.mul_comm b, Nat.or_comm, ← Nat.two_pow_add_eq_or_of_lt ha, Nat.add_comm]
theorem word_step {l : List Int} {s m a b : Nat} (ha : a < 2 ^ s) (hb : b < 2 ^ m) : wordT l s m a b ||| bitN (rd l a).toNat b <<< (a + 2 ^ s * b) = wordT l s m a (b + 1) := by
  refine word_ext (m := 2 ^ (s + m)) (Nat.or_lt_two_pow (tabN_lt _ _) (bitN_shl_lt (place_lt ha hb))) (tabN_lt _ _) fun y hy => ?_
  rw [Nat.testBit_or, wordT, wordT, testBit_tabN, testBit_tabN, testBit_bitN_shl, decide_eq_true hy, Bool.true_and, Bool.true_and]
  by_cases h : y = a + 2 ^ s * b
  · obtain ⟨h1, h2⟩ := (place_iff ha).mp h
    rw [decide_eq_true h, h1, h2, decide_eq_false (Nat.lt_irrefl a), decide_eq_false (Nat.lt_irrefl b), decide_eq_true rfl, decide_eq_true (Nat.lt_succ_self b)]
    simp
  · rw [decide_eq_false h, Bool.false_and, Bool.or_false]
    have hn : ¬ (y % 2 ^ s = a ∧ y / 2 ^ s = b) := fun q => h ((place_iff ha).mpr q)
    congr 2
    by_cases h1 : y % 2 ^ s = a
    · rw [decide_eq_true h1, Bool.true_and, Bool.true_and]
      exact decide_eq_decide.mpr (by omega)
    · rw [decide_eq_false h1, Bool.false_and, Bool.false_and]
theorem word_next {l : List Int} {s m a : Nat} : wordT l s m a (2 ^ m) = wordT l s m (a + 1) 0 := by
  refine tabN_congr fun y hy => ?_
  have hd : y / 2 ^ s < 2 ^ m := by rw [Nat.div_lt_iff_lt_mul (pow_pos s), Nat.mul_comm, ← Nat.pow_add]; exact hy
  rw [decide_eq_true hd, Bool.and_true, decide_eq_false (Nat.not_lt_zero (y / 2 ^ s)), Bool.and_false, Bool.or_false]
  congr 1
  apply Bool.eq_iff_iff.mpr
  simp
  omega
theorem word_zero {l : List Int} {s m : Nat} : wordT l s m 0 0 = 0 := by
  have h : wordT l s m 0 0 = tabN (fun _ => false) (2 ^ (s + m)) := tabN_congr fun y _ => by simp
  have z : ∀ q, tabN (fun _ => false) q = 0 := by intro q; induction q with
    | zero => rfl
    | succ q ih => rw [tabN_false rfl, ih]
  rw [h, z]
/-- What both say of numbers that fit. -/
def tomI (l : List Int) (s m : Nat) : Int × Int × Bool := if exN (fun i => impl_TableOfMatrix.bad m (rd l i)) l.length = true then (0, 0, false) else (((s + m : Nat) : Int), ((tabN (impl_TableOfMatrix.bit l s) (2 ^ (s + m)) : Nat) : Int), true)
theorem good_of {m : Nat} (hm : m ≤ 5) {r : Int} (h : impl_TableOfMatrix.bad m r = false) : ∃ v : Nat, r = v ∧ v < 2 ^ 2 ^ m := by
  have hM := pow_le hm
  have hF := full_le hm
  have hp := pow_pos (2 ^ m)
  rw [bad_eq hm, shlu1_of (by omega), shl1_of (by omega), wrap64_of (by omega) (by omega), Bool.not_eq_false'] at h
  have h := of_decide_eq_true h
  obtain ⟨v, rfl⟩ := Int.eq_ofNat_of_zero_le h.1
  exact ⟨v, rfl, by omega⟩
theorem word_all {l : List Int} {s m : Nat} (hm : m ≤ 5) (hl : l.length = 2 ^ s) (h : exN (fun i => impl_TableOfMatrix.bad m (rd l i)) l.length = false) : wordT l s m (2 ^ s) 0 = tabN (impl_TableOfMatrix.bit l s) (2 ^ (s + m)) := by
  refine tabN_congr fun y hy => ?_
  have hlt : y % 2 ^ s < 2 ^ s := Nat.mod_lt _ (pow_pos s)
  have hd : y / 2 ^ s < 2 ^ m := by rw [Nat.div_lt_iff_lt_mul (pow_pos s), Nat.mul_comm, ← Nat.pow_add]; exact hy
  rw [decide_eq_true hlt, Bool.true_or, Bool.true_and]
  have hb : impl_TableOfMatrix.bad m (rd l ((y % 2 ^ s : Nat) : Int)) = false := by
    cases hc : impl_TableOfMatrix.bad m (rd l ((y % 2 ^ s : Nat) : Int)) with
    | false => rfl
    | true => rw [exN_hit (p := fun i => impl_TableOfMatrix.bad m (rd l i)) (i := y % 2 ^ s) (by rw [hl]; exact hlt) hc] at h; cases h
  obtain ⟨v, hv, hvl⟩ := good_of hm hb
  have hM := pow_le hm
  have hF := full_le hm
  unfold impl_TableOfMatrix.bit
  rw [hv, Int.toNat_natCast, bit_cast (by omega) (by omega)]
  unfold bitN
  cases v.testBit (y / 2 ^ s) <;> rfl
theorem spec_tom_l1 {l : List Int} {s m a v : Nat} (hsm : s + m ≤ 5) (hl : l.length = 2 ^ s) (ha : a < 2 ^ s) (hv : rd l a = v) (hvl : v < 4294967296) : ∀ (d k b : Nat), b + d = 2 ^ m → d < k →
    spec_TableOfMatrix.l1 k l ((s + m : Nat) : Int) s ((wordT l s m a b : Nat) : Int) a b = spec_TableOfMatrix.l0 (k - d - 1) l ((s + m : Nat) : Int) s ((wordT l s m (a + 1) 0 : Nat) : Int) ((a + 1 : Nat) : Int) := by
  have hM := pow_le (n := s) (by omega)
  have hM2 := pow_le (n := m) (by omega)
  have hM3 := pow_le hsm
  have em : wrap64 (((s + m : Nat) : Int) - (s : Int)) = (m : Int) := by rw [wrap64_of (by omega) (by omega)]; omega
  intro d
  induction d with
  | zero =>
    intro k b hb hk
    obtain ⟨k, rfl⟩ : ∃ m, k = m + 1 := ⟨k - 1, by omega⟩
    obtain rfl : b = 2 ^ m := by omega
    simp only [spec_TableOfMatrix.l1]
    rw [em, if_pos (Int.natCast_nonneg _), shl1_of (by omega), if_neg (by omega), word_next, wrap64_succ (by omega)]
    rfl
  | succ d ih =>
    intro k b hb hk
    obtain ⟨k, rfl⟩ : ∃ m, k = m + 1 := ⟨k - 1, by omega⟩
    have hat := place_lt ha (show b < 2 ^ m by omega)
    have hor := place_or (b := b) ha
    have hsh : b <<< s ≤ a ||| b <<< s := Nat.right_le_or
    have hc := @bitN_shl_lt v b (a + 2 ^ s * b) 32 (by omega)
    have hT : wordT l s m a b < 9223372036854775808 := tabN_lt63 _ hM3
    have hw := word_step (l := l) ha (show b < 2 ^ m by omega)
    rw [hv, Int.toNat_natCast] at hw
    simp only [spec_TableOfMatrix.l1]
    rw [em, if_pos (Int.natCast_nonneg _), shl1_of (by omega), if_pos (by omega), if_pos (Int.natCast_nonneg _), if_pos (by omega), if_pos (Int.natCast_nonneg _), if_pos (Int.natCast_nonneg _), shl_cast (by omega) (by omega), or_cast (by omega) (by omega), hor, if_pos (Int.natCast_nonneg _), hv, bit_cast (by omega) (by omega), shl_cast (by omega) (by omega), or_cast hT (by omega), hw, wrap64_succ (by omega), show k + 1 - (d + 1) - 1 = k - d - 1 by omega]
    exact ih k (b + 1) (by omega) (by omega)
theorem spec_tom_l0 {l : List Int} {s m : Nat} (hsm : s + m ≤ 5) (hl : l.length = 2 ^ s) : ∀ (d k a : Nat), a + d = 2 ^ s → d * 40 + 1 < k → exN (fun i => impl_TableOfMatrix.bad m (rd l i)) a = false →
    spec_TableOfMatrix.l0 k l ((s + m : Nat) : Int) s ((wordT l s m a 0 : Nat) : Int) a = some (tomI l s m) := by
  have hM := pow_le (n := s) (by omega)
  have hM2 := pow_le (n := m) (by omega)
  have hF := full_le (n := m) (by omega)
  have em : wrap64 (((s + m : Nat) : Int) - (s : Int)) = (m : Int) := by rw [wrap64_of (by omega) (by omega)]; omega
  intro d
  induction d with
  | zero =>
    intro k a ha hk hx
    obtain ⟨k, rfl⟩ : ∃ m, k = m + 1 := ⟨k - 1, by omega⟩
    obtain rfl : a = 2 ^ s := by omega
    rw [← hl] at hx
    simp only [spec_TableOfMatrix.l0]
    rw [if_neg (by omega), tomI, hx, if_neg (by decide), word_all (by omega) hl hx]
  | succ d ih =>
    intro k a ha hk hx
    obtain ⟨k, rfl⟩ : ∃ m, k = m + 1 := ⟨k - 1, by omega⟩
    simp only [spec_TableOfMatrix.l0]
    rw [if_pos (by omega), if_pos (Int.natCast_nonneg _), em, if_pos (Int.natCast_nonneg _), l1In_some _ _ _ _ rfl, Option.bind_some, ← Bool.not_not (decide _), ← bad_eq (by omega)]
    cases hb : impl_TableOfMatrix.bad m (rd l a) with
    | true =>
      rw [Bool.not_true, if_neg (by decide), tomI, exN_hit (p := fun i => impl_TableOfMatrix.bad m (rd l i)) (i := a) (by omega) hb, if_pos rfl]
    | false =>
      obtain ⟨v, hv, hvl⟩ := good_of (by omega) hb
      rw [Bool.not_false, if_pos rfl]
      have h1 := spec_tom_l1 (l := l) hsm hl (show a < 2 ^ s by omega) hv (by omega) (2 ^ m) k 0 (by omega) (by omega)
      refine Eq.trans h1 ?_
      exact ih _ (a + 1) (by omega) (by omega) (exN_skip hx hb)
/-- What both say. -/
def tomA (l : List Int) (n s : Int) : Int × Int × Bool := if impl_TableOfMatrix.ok n s l.length = true then tomI l s.toNat (n - s).toNat else (0, 0, false)
theorem impl_tom (l : List Int) (n s : Int) (hl : l.length < 9223372036854775807) : impl_TableOfMatrix.f l n s = some (tomA l n s) := by
  unfold impl_TableOfMatrix.f tomA
  rw [if_pos hl]
  cases ho : impl_TableOfMatrix.ok n s l.length with
  | false => rw [if_neg (by decide), if_neg (by decide)]
  | true =>
    rw [if_pos rfl, if_pos rfl]
    have ho := of_decide_eq_true ho
    obtain ⟨n, rfl⟩ := Int.eq_ofNat_of_zero_le ho.1
    obtain ⟨s, rfl⟩ := Int.eq_ofNat_of_zero_le ho.2.2.1
    obtain ⟨m, rfl⟩ : ∃ m, n = s + m := ⟨n - s, by omega⟩
    rw [show (((s + m : Nat) : Int) - (s : Int)).toNat = m by omega, Int.toNat_natCast, Int.toNat_natCast]
    unfold tomI
    split <;> rfl
theorem spec_tom (l : List Int) (n s : Int) {k : Nat} (hk : 2000 < k) : spec_TableOfMatrix.f k l n s = some (tomA l n s) := by
  obtain ⟨k, rfl⟩ : ∃ m, k = m + 1 := ⟨k - 1, by omega⟩
  have hno : impl_TableOfMatrix.ok n s l.length = false → spec_TableOfMatrix.j0 (k + 1) l n s true = some (tomA l n s) := by
    intro h
    simp only [spec_TableOfMatrix.j0]
    rw [if_pos trivial, tomA, h, if_neg (by decide)]
  unfold spec_TableOfMatrix.f
  rw [l1In_some _ _ _ _ rfl, Option.bind_some]
  by_cases h1 : 0 ≤ n ∧ n ≤ 5
  · rw [if_pos (decide_eq_true h1), l1In_some _ _ _ _ rfl, Option.bind_some]
    by_cases h2 : 0 ≤ s ∧ s ≤ n
    · rw [if_pos (decide_eq_true h2), if_pos h2.1]
      obtain ⟨n, rfl⟩ := Int.eq_ofNat_of_zero_le h1.1
      obtain ⟨s, rfl⟩ := Int.eq_ofNat_of_zero_le h2.1
      obtain ⟨m, rfl⟩ : ∃ m, n = s + m := ⟨n - s, by omega⟩
      have hM := pow_le (n := s) (by omega)
      rw [shl1_of (by omega)]
      by_cases h3 : l.length = 2 ^ s
      · have ho : impl_TableOfMatrix.ok ((s + m : Nat) : Int) s l.length = true := decide_eq_true ⟨by omega, by omega, by omega, by omega, by rw [Int.toNat_natCast]; exact h3⟩
        rw [show (((l.length : Nat) : Int) != ((2 ^ s : Nat) : Int)) = false by rw [h3]; exact bne_self_eq_false _]
        simp only [spec_TableOfMatrix.j0]
        rw [if_neg (by decide), tomA, ho, if_pos rfl, Int.toNat_natCast, show (((s + m : Nat) : Int) - (s : Int)).toNat = m by omega]
        have h := spec_tom_l0 (l := l) (s := s) (m := m) (by omega) h3 (2 ^ s) k 0 (by omega) (by omega) rfl
        rw [word_zero] at h
        exact h
      · rw [show (((l.length : Nat) : Int) != ((2 ^ s : Nat) : Int)) = true from bne_iff_ne.mpr (fun q => h3 (by omega))]
        exact hno (decide_eq_false (fun q => h3 (by simpa using q.2.2.2.2)))
    · rw [if_neg (by simpa using h2)]
      exact hno (decide_eq_false (fun q => h2 ⟨q.2.2.1, q.2.2.2.1⟩))
  · rw [if_neg (by simpa using h1)]
    exact hno (decide_eq_false (fun q => h1 ⟨q.1, q.2.1⟩))
end Go.Proofs.Ytcgjlmgfmiacgaa.U
