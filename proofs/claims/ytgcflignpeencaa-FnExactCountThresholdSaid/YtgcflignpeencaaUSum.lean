/- The sum of the weights of the variables that are 1: both ways. -/
import Derived.Test.YtgcflignpeencaaUG
import Derived.Test.YtgcflignpeencaaFimplweightAt
import Derived.Test.YtgcflignpeencaaFspecl16Sum
namespace Go.Proofs.Ytgcflignpeencaa.U
open Go.RowKit Go.Proofs.YtgcflignpeencaaW.PrintWords Go.Proofs.YtgcflignpeencaaW.PrintLast Go.Proofs.YtgcflignpeencaaW.PrintMore Go.Proofs.Ytgcflignpeencaa.F Go.Proofs.Ytgcflignpeencaa.B
set_option linter.unusedVariables false
set_option linter.unusedSimpArgs false
/-- The sum of the first m weights at an input. -/
def sumW (l : List Int) (x : Nat) : Nat → Int
  | 0 => 0
  | m + 1 => sumW l x m + if x.testBit m = true then rd l m else 0
/-- Weights from -c to c. -/
def Light (c : Nat) (l : List Int) : Prop := ∀ i : Nat, i < l.length → -(c : Int) ≤ rd l i ∧ rd l i ≤ c
theorem sumW_le {c : Nat} {l : List Int} (h : Light c l) (x : Nat) : ∀ m, m ≤ l.length → -((c * m : Nat) : Int) ≤ sumW l x m ∧ sumW l x m ≤ ((c * m : Nat) : Int) := by
  intro m
  induction m with
  | zero => intro _; exact ⟨Int.le_refl _, Int.le_refl _⟩
  | succ m ih =>
    intro hm
    have h1 := ih (by omega)
    have h2 := h m (by omega)
    rw [sumW, Nat.mul_succ]
    split <;> omega
theorem small_prod {c m : Nat} (hc : c ≤ 1000) (hm : m ≤ 60) : c * m ≤ 60000 := Nat.mul_le_mul hc hm
theorem impl_weight_loop {c : Nat} {l : List Int} (h : Light c l) (hc : c ≤ 1000) (hl : l.length ≤ 60) {x : Nat} (hx : x < 9223372036854775808) : ∀ (d k i : Nat), i + d = l.length → d < k →
    impl_weightAt.l0 k x (sumW l x i) l (l.length : Int) i = some (sumW l x l.length) := by
  intro d
  induction d with
  | zero =>
    intro k i hi hk
    obtain ⟨k, rfl⟩ : ∃ m, k = m + 1 := ⟨k - 1, by omega⟩
    obtain rfl : i = l.length := by omega
    simp only [impl_weightAt.l0]
    rw [if_neg (by omega)]
  | succ d ih =>
    intro k i hi hk
    obtain ⟨k, rfl⟩ : ∃ m, k = m + 1 := ⟨k - 1, by omega⟩
    have h1 := sumW_le h x i (by omega)
    have h2 := h i (by omega)
    have h3 := small_prod hc (show i ≤ 60 by omega)
    have e : wrap64 (sumW l x i + wrap64 (rd l i * ((bitN x i : Nat) : Int))) = sumW l x (i + 1) := by
      rw [sumW]
      unfold bitN
      cases x.testBit i with
      | true => rw [if_pos rfl, Bool.toNat_true, show rd l i * ((1 : Nat) : Int) = rd l i by omega, wrap64_of (n := rd l i) (by omega) (by omega), wrap64_of (by omega) (by omega)]
      | false => rw [if_neg (by decide), Bool.toNat_false, show rd l i * ((0 : Nat) : Int) = 0 by omega, wrap64_of (n := 0) (by omega) (by omega), wrap64_of (by omega) (by omega)]
    simp only [impl_weightAt.l0]
    rw [if_pos (by omega), if_pos (Int.natCast_nonneg _), if_pos (by omega), bit_cast hx (by omega), e, wrap64_succ (by omega)]
    exact ih k (i + 1) (by omega) (by omega)
theorem impl_weight {c : Nat} {l : List Int} (h : Light c l) (hc : c ≤ 1000) (hl : l.length ≤ 60) {x k : Nat} (hx : x < 9223372036854775808) (hk : l.length < k) : impl_weightAt.f k l x = some (sumW l x l.length) :=
  impl_weight_loop h hc hl hx l.length k 0 (by omega) hk
theorem spec_weight_loop {c : Nat} {l : List Int} (h : Light c l) (hc : c ≤ 1000) (hl : l.length ≤ 60) {x : Nat} (hx : x < 9223372036854775808) : ∀ (d k i : Nat), i + d = l.length → d < k →
    spec_l16Sum.l0 k l x (sumW l x i) i = some (sumW l x l.length) := by
  intro d
  induction d with
  | zero =>
    intro k i hi hk
    obtain ⟨k, rfl⟩ : ∃ m, k = m + 1 := ⟨k - 1, by omega⟩
    obtain rfl : i = l.length := by omega
    simp only [spec_l16Sum.l0]
    rw [if_neg (by omega)]
  | succ d ih =>
    intro k i hi hk
    obtain ⟨k, rfl⟩ : ∃ m, k = m + 1 := ⟨k - 1, by omega⟩
    have h1 := sumW_le h x i (by omega)
    have h2 := h i (by omega)
    have h3 := small_prod hc (show i ≤ 60 by omega)
    simp only [spec_l16Sum.l0]
    rw [if_pos (by omega), if_pos (Int.natCast_nonneg _), bit_cast hx (by omega), wrap64_succ (by omega)]
    by_cases hb : x.testBit i = true
    · rw [if_pos (bito.mpr hb), wrap64_of (by omega) (by omega), show sumW l x i + rd l i = sumW l x (i + 1) by rw [sumW, if_pos hb]]
      exact ih k (i + 1) (by omega) (by omega)
    · rw [if_neg (fun q => hb (bito.mp q)), show sumW l x i = sumW l x (i + 1) by rw [sumW, if_neg hb]; omega]
      exact ih k (i + 1) (by omega) (by omega)
theorem spec_weight {c : Nat} {l : List Int} (h : Light c l) (hc : c ≤ 1000) (hl : l.length ≤ 60) {x k : Nat} (hx : x < 9223372036854775808) (hk : l.length < k) : spec_l16Sum.f k l x = some (sumW l x l.length) :=
  spec_weight_loop h hc hl hx l.length k 0 (by omega) hk
end Go.Proofs.Ytgcflignpeencaa.U
