/- Chow's numbers: both ways. -/
import Derived.Test.YtgcflignpeencaaUG
import Derived.Test.YtgcflignpeencaaUC
import Derived.Test.YtgcflignpeencaaFimplChowNumbers
import Derived.Test.YtgcflignpeencaaFspecChowNumbers
namespace Go.Proofs.Ytgcflignpeencaa.U
open Go.RowKit Go.Proofs.YtgcflignpeencaaW.PrintWords Go.Proofs.YtgcflignpeencaaW.PrintLast Go.Proofs.YtgcflignpeencaaW.PrintMore Go.Proofs.Ytgcflignpeencaa.F Go.Proofs.Ytgcflignpeencaa.B
set_option linter.unusedVariables false
set_option linter.unusedSimpArgs false
set_option maxRecDepth 100000
/-- The word of a variable. -/
def varC (n i : Nat) : Nat := tabN (fun x => x.testBit i) (2 ^ n)
theorem varC_lt {n : Nat} (hn : n ≤ 5) (i : Nat) : varC n i < 4294967296 := Nat.lt_of_lt_of_le (tabN_lt _ _) (full_le hn)
theorem impl_varC {n i : Nat} (hn : n ≤ 5) (hi : i ≤ 62) : impl_variable.f n i = some ((n : Int), ((varC n i : Nat) : Int)) := by
  unfold impl_variable.f
  rw [if_pos (by omega), Int.toNat_natCast, Int.toNat_natCast]
  rfl
theorem spec_varC_loop {n i : Nat} (hn : n ≤ 5) (hi : i ≤ 62) : ∀ (d k x : Nat), x + d = 2 ^ n → d < k →
    spec_l2Variable.l0 k n i ((tabN (fun x => x.testBit i) x : Nat) : Int) x = some ((varC n i : Nat) : Int) := by
  have hM := pow_le hn
  intro d
  induction d with
  | zero =>
    intro k x hx hk
    obtain ⟨k, rfl⟩ : ∃ m, k = m + 1 := ⟨k - 1, by omega⟩
    obtain rfl : x = 2 ^ n := by omega
    simp only [spec_l2Variable.l0]
    rw [if_pos (Int.natCast_nonneg _), shl1_of (by omega), if_neg (by omega)]
    rfl
  | succ d ih =>
    intro k x hx hk
    obtain ⟨k, rfl⟩ : ∃ m, k = m + 1 := ⟨k - 1, by omega⟩
    have hT := tabN_lt63 (fun x => x.testBit i) (show x ≤ 32 by omega)
    have hp := pow_le_pow (n := x) (m := 32) (by omega)
    simp only [spec_l2Variable.l0]
    rw [if_pos (Int.natCast_nonneg _), shl1_of (by omega), if_pos (by omega), if_pos (Int.natCast_nonneg _), bit_cast (by omega) (by omega), wrap64_succ (by omega)]
    by_cases h : x.testBit i = true
    · rw [if_pos (bito.mpr h), if_pos (Int.natCast_nonneg _), shl1_of (by omega), or_cast hT (by omega), ← tabN_true (p := fun x => x.testBit i) h]
      exact ih k (x + 1) (by omega) (by omega)
    · rw [if_neg (fun q => h (bito.mp q)), ← tabN_false (p := fun x => x.testBit i) (m := x) (by simpa using h)]
      exact ih k (x + 1) (by omega) (by omega)
theorem spec_varC {n i k : Nat} (hn : n ≤ 5) (hi : i ≤ 62) (hk : 40 < k) : spec_l2Variable.f k n i = some ((varC n i : Nat) : Int) := by
  have hM := pow_le hn
  exact spec_varC_loop hn hi (2 ^ n) k 0 (by omega) (by omega)
/-- A number for a variable: how many ones have it as 1. -/
def chowA (n w i : Nat) : Int := ((cnt (w &&& varC n i) : Nat) : Int)
theorem and_lt32 {w v : Nat} (hw : w < 4294967296) : w &&& v < 4294967296 := Nat.lt_of_le_of_lt Nat.and_le_left hw
theorem impl_chow_loop {n w : Nat} (ht : Tab n w) (c : Int) : ∀ (d k i : Nat), i + d = n → d < k →
    impl_ChowNumbers.l0 k ([c] ++ listN (chowA n w) i) n i n w = some ([c] ++ listN (chowA n w) n) := by
  have hn := ht.1
  have hl := ht.lt
  intro d
  induction d with
  | zero =>
    intro k i hi hk
    obtain ⟨k, rfl⟩ : ∃ m, k = m + 1 := ⟨k - 1, by omega⟩
    obtain rfl : i = n := by omega
    simp only [impl_ChowNumbers.l0]
    rw [if_neg (by omega)]
  | succ d ih =>
    intro k i hi hk
    obtain ⟨k, rfl⟩ : ∃ m, k = m + 1 := ⟨k - 1, by omega⟩
    have hv := varC_lt hn i
    simp only [impl_ChowNumbers.l0]
    rw [if_pos (by omega), impl_varC hn (by omega), Option.bind_some, and_cast (by omega) (by omega), cnt_ones (and_lt32 hl), Option.bind_some, if_pos (by rw [List.length_append, listN_length, List.length_singleton]; omega), wrap64_succ (by omega), List.append_assoc, show ((cnt (w &&& varC n i) : Nat) : Int) = chowA n w i from rfl, ← listN_succ]
    exact ih k (i + 1) (by omega) (by omega)
theorem spec_chow_loop {n w : Nat} (ht : Tab n w) (c : Int) : ∀ (d k i : Nat), i + d = n → d + 50 < k →
    spec_ChowNumbers.l0 k ([c] ++ listN (chowA n w) i) i n w = some ([c] ++ listN (chowA n w) n) := by
  have hn := ht.1
  have hl := ht.lt
  intro d
  induction d with
  | zero =>
    intro k i hi hk
    obtain ⟨k, rfl⟩ : ∃ m, k = m + 1 := ⟨k - 1, by omega⟩
    obtain rfl : i = n := by omega
    simp only [spec_ChowNumbers.l0]
    rw [if_neg (by omega)]
  | succ d ih =>
    intro k i hi hk
    obtain ⟨k, rfl⟩ : ∃ m, k = m + 1 := ⟨k - 1, by omega⟩
    have hv := varC_lt hn i
    simp only [spec_ChowNumbers.l0]
    rw [if_pos (by omega), spec_varC hn (by omega) (by omega), Option.bind_some, and_cast (by omega) (by omega), cnt_ref (and_lt32 hl) (by omega), Option.bind_some, if_pos (by rw [List.length_append, listN_length, List.length_singleton]; omega), wrap64_succ (by omega), List.append_assoc, show ((cnt (w &&& varC n i) : Nat) : Int) = chowA n w i from rfl, ← listN_succ]
    exact ih k (i + 1) (by omega) (by omega)
/-- What both say. -/
def chowI (a b : Int) : List Int := if isTab a b = true then [((cnt b.toNat : Nat) : Int)] ++ listN (chowA a.toNat b.toNat) a.toNat else []
theorem chowI_length (a b : Int) : (chowI a b).length ≤ 6 := by
  unfold chowI
  cases hT : isTab a b with
  | false => rw [if_neg (by decide)]; exact Nat.zero_le _
  | true =>
    obtain ⟨n, w, rfl, rfl, ht⟩ := tab_of hT
    have := ht.1
    rw [if_pos rfl, List.length_append, listN_length, List.length_singleton, Int.toNat_natCast]
    omega
theorem impl_chow {a b : Int} (h0 : -9223372036854775808 ≤ b) (h1 : b ≤ 9223372036854775807) {k : Nat} (hk : 10 < k) : impl_ChowNumbers.f k a b = some (chowI a b) := by
  unfold impl_ChowNumbers.f chowI
  rw [impl_isTable h0 h1, Option.bind_some]
  cases hT : isTab a b with
  | false => rw [if_neg (by decide), if_neg (by decide)]
  | true =>
    obtain ⟨n, w, rfl, rfl, ht⟩ := tab_of hT
    have hn := ht.1
    rw [if_pos rfl, if_pos rfl, cnt_ones ht.lt, Option.bind_some, Int.toNat_natCast, Int.toNat_natCast]
    exact impl_chow_loop ht _ n k 0 (by omega) (by omega)
theorem spec_chow (a b : Int) {k : Nat} (hk : 70 < k) : spec_ChowNumbers.f k a b = some (chowI a b) := by
  unfold spec_ChowNumbers.f chowI
  rw [Option.bind_some, spec_isTable, Option.bind_some]
  cases hT : isTab a b with
  | false => rw [if_neg (by decide), if_neg (by decide)]
  | true =>
    obtain ⟨n, w, rfl, rfl, ht⟩ := tab_of hT
    have hn := ht.1
    rw [if_pos rfl, if_pos rfl, cnt_ref ht.lt (by omega), Option.bind_some, if_pos (by decide), Int.toNat_natCast, Int.toNat_natCast]
    exact spec_chow_loop ht _ n k 0 (by omega) (by omega)
end Go.Proofs.Ytgcflignpeencaa.U
