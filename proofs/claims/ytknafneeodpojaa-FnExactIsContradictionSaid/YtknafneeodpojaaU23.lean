/- Four inputs that show that a table is no threshold: both ways. -/
import Derived.Test.YtknafneeodpojaaUa
import Derived.Test.YtknafneeodpojaaUI
import Derived.Test.YtknafneeodpojaaFimplIsContradiction
import Derived.Test.YtknafneeodpojaaFspecIsContradiction
namespace Go.Proofs.Ytknafneeodpojaa.U
open Go.RowKit Go.Proofs.YtknafneeodpojaaW.PrintWords Go.Proofs.YtknafneeodpojaaW.PrintLast Go.Proofs.YtknafneeodpojaaW.PrintMore Go.Proofs.Ytknafneeodpojaa.F Go.Proofs.Ytknafneeodpojaa.B
set_option linter.unusedVariables false
set_option linter.unusedSimpArgs false
/-- The value of an input, or -1. -/
def valI (a b x : Int) : Int := if (isTab a b && !noInp a.toNat x) = true then ((bitN b.toNat x.toNat : Nat) : Int) else -1
theorem impl_valueAt {a b : Int} (h0 : -9223372036854775808 ≤ b) (h1 : b ≤ 9223372036854775807) (x : Int) : impl_ValueAt.f a b x = some (valI a b x) := by
  unfold impl_ValueAt.f impl_hasInput.f valI
  rw [impl_isTable h0 h1]
  cases hT : isTab a b with
  | false => rfl
  | true =>
    obtain ⟨n, w, rfl, rfl, ht⟩ := tab_of hT
    have hM := pow_le ht.1
    rw [Option.bind_some, if_pos rfl, isInput_some ht.1, Option.bind_some, Option.bind_some, Bool.true_and, Int.toNat_natCast, Int.toNat_natCast]
    cases hb : noInp n x with
    | true => rfl
    | false =>
      have hb' := hb
      unfold noInp at hb'
      rw [Bool.not_eq_false'] at hb'
      have hb' := of_decide_eq_true hb'
      obtain ⟨x, rfl⟩ := Int.eq_ofNat_of_zero_le hb'.1
      rw [Bool.not_false, if_pos rfl, if_pos rfl, at_some' ht.lt63 (by omega), Option.bind_some, Int.toNat_natCast]
/-- The value that is asked of the i-th. -/
def askI (i : Nat) : Int := wrap64 (1 - wrap64 (Int.tdiv (i : Int) 2))
theorem askI_ge {i : Nat} (h : i < 4) : 0 ≤ askI i := by
  have : ∀ i : Fin 4, 0 ≤ askI i.val := by decide +kernel
  exact this ⟨i, h⟩
def okI (a b : Int) (l : List Int) (i : Nat) : Bool := valI a b (rd l i) == askI i
def sumsI (l : List Int) : Bool := if (Go.bits .and .i64 (rd l 0) (rd l 1)) = (Go.bits .and .i64 (rd l 2) (rd l 3)) then ((Go.bits .xor .i64 (rd l 0) (rd l 1)) == (Go.bits .xor .i64 (rd l 2) (rd l 3))) else false
theorem impl_contra_loop {a b : Int} (h0 : -9223372036854775808 ≤ b) (h1 : b ≤ 9223372036854775807) (l : List Int) (hl : l.length = 4) : ∀ (d k x : Nat), x + d = 4 → d < k → allN (okI a b l) x = true →
    impl_IsContradiction.l0 k l l 4 x a b = some (allN (okI a b l) 4 && sumsI l) := by
  intro d
  induction d with
  | zero =>
    intro k x hx hk ha
    obtain ⟨k, rfl⟩ : ∃ m, k = m + 1 := ⟨k - 1, by omega⟩
    obtain rfl : x = 4 := by omega
    simp only [impl_IsContradiction.l0]
    rw [if_neg (by omega), if_pos (by omega), if_pos (by omega), if_pos (by omega), if_pos (by omega), ha, Bool.true_and]
    unfold impl_isContradiction.f sumsI
    split <;> rfl
  | succ d ih =>
    intro k x hx hk ha
    obtain ⟨k, rfl⟩ : ∃ m, k = m + 1 := ⟨k - 1, by omega⟩
    simp only [impl_IsContradiction.l0]
    rw [if_pos (by omega), if_pos (by omega), if_pos (by omega), impl_valueAt h0 h1, Option.bind_some, wrap64_succ (by omega)]
    by_cases h : valI a b (rd l x) = askI x
    · rw [if_pos (show valI a b (rd l x) = wrap64 (1 - wrap64 (Int.tdiv (x : Int) 2)) from h)]
      exact ih k (x + 1) (by omega) (by omega) (allN_next ha (beq_iff_eq.mpr h))
    · rw [if_neg (show ¬ valI a b (rd l x) = wrap64 (1 - wrap64 (Int.tdiv (x : Int) 2)) from h), allN_miss (p := okI a b l) (i := x) (by omega) (beq_eq_false_iff_ne.mpr h)]
      rfl
/-- What both say. -/
def contraB (a b : Int) (l : List Int) : Bool := decide (l.length = 4) && (allN (okI a b l) 4 && sumsI l)
theorem impl_contra {a b : Int} (h0 : -9223372036854775808 ≤ b) (h1 : b ≤ 9223372036854775807) (l : List Int) {k : Nat} (hk : 10 < k) : impl_IsContradiction.f k a b l = some (contraB a b l) := by
  unfold impl_IsContradiction.f contraB
  by_cases hl : l.length = 4
  · rw [if_pos (by omega), decide_eq_true hl, Bool.true_and, hl]
    exact impl_contra_loop h0 h1 l hl 4 k 0 (by omega) (by omega) rfl
  · rw [if_neg (by omega), decide_eq_false hl]; rfl
theorem spec_contra_loop {n w : Nat} (ht : Tab n w) (l : List Int) (hl : l.length = 4) : ∀ (d k x : Nat), x + d = 4 → d < k → allN (okI n w l) x = true →
    spec_IsContradiction.l0 k l x n w = some (allN (okI n w l) 4 && sumsI l) := by
  have hM := pow_le ht.1
  have hn := ht.1
  have hp := pow_pos n
  intro d
  induction d with
  | zero =>
    intro k x hx hk ha
    obtain ⟨k, rfl⟩ : ∃ m, k = m + 1 := ⟨k - 1, by omega⟩
    obtain rfl : x = 4 := by omega
    simp only [spec_IsContradiction.l0]
    rw [if_neg (by omega), if_pos (by omega), if_pos (by omega), if_pos (by omega), if_pos (by omega), ha, Bool.true_and]
    unfold sumsI
    split <;> rfl
  | succ d ih =>
    intro k x hx hk ha
    obtain ⟨k, rfl⟩ : ∃ m, k = m + 1 := ⟨k - 1, by omega⟩
    have hg := askI_ge (i := x) (by omega)
    have hin : spec_l1In.f (rd l x) 0 (wrap64 (((2 ^ n : Nat) : Int) - 1)) = some (!noInp n (rd l x)) := by
      rw [wrap64_of (by omega) (by omega)]
      exact l1In_some _ _ _ _ (by unfold noInp; rw [Bool.not_not]; exact decide_eq_decide.mpr (by omega))
    simp only [spec_IsContradiction.l0]
    rw [if_pos (by omega), if_pos (by omega), if_pos (by omega), if_pos (Int.natCast_nonneg _), shl1_of (by omega), hin, Option.bind_some, wrap64_succ (by omega)]
    cases hb : noInp n (rd l x) with
    | true =>
      have hv : valI n w (rd l x) = -1 := by unfold valI; rw [Int.toNat_natCast, hb, Bool.not_true, Bool.and_false, if_neg (by decide)]
      rw [Bool.not_true, if_neg (by decide), allN_miss (p := okI n w l) (i := x) (by omega) (beq_eq_false_iff_ne.mpr (by rw [hv]; omega))]
      rfl
    | false =>
      have hb' := hb
      unfold noInp at hb'
      rw [Bool.not_eq_false'] at hb'
      have hb' := of_decide_eq_true hb'
      have hv : valI n w (rd l x) = ((bitN w (rd l x).toNat : Nat) : Int) := by unfold valI; rw [Int.toNat_natCast, hb, isTab_of ht, Int.toNat_natCast]; rfl
      rw [Bool.not_false, if_pos rfl, if_pos hb'.1]
      have hy : ∃ y : Nat, rd l x = (y : Int) := Int.eq_ofNat_of_zero_le hb'.1
      obtain ⟨y, hy⟩ := hy
      have hbit : Go.bits .and .i64 (shr .i64 (w : Int) (rd l x)) 1 = valI n w (rd l x) := by
        rw [hv, hy, Int.toNat_natCast, bit_cast ht.lt63 (by omega)]
      rw [hbit]
      by_cases h : valI n w (rd l x) = askI x
      · rw [if_pos (show valI n w (rd l x) = wrap64 (1 - wrap64 (Int.tdiv (x : Int) 2)) from h)]
        exact ih k (x + 1) (by omega) (by omega) (allN_next ha (beq_iff_eq.mpr h))
      · rw [if_neg (show ¬ valI n w (rd l x) = wrap64 (1 - wrap64 (Int.tdiv (x : Int) 2)) from h), allN_miss (p := okI n w l) (i := x) (by omega) (beq_eq_false_iff_ne.mpr h)]
        rfl
theorem spec_contra (a b : Int) (l : List Int) {k : Nat} (hk : 10 < k) : spec_IsContradiction.f k a b l = some (contraB a b l) := by
  obtain ⟨k, rfl⟩ : ∃ m, k = m + 1 := ⟨k - 1, by omega⟩
  unfold spec_IsContradiction.f contraB
  rw [spec_isTable, Option.bind_some]
  cases hT : isTab a b with
  | false =>
    have hv : okI a b l 0 = false := by
      unfold okI valI
      rw [hT, Bool.false_and, if_neg (by decide)]
      decide +kernel
    rw [if_neg (by decide), spec_IsContradiction.j0, if_pos rfl, allN_miss (i := 0) (by omega) hv, Bool.false_and, Bool.and_false]
  | true =>
    obtain ⟨n, w, rfl, rfl, ht⟩ := tab_of hT
    rw [if_pos rfl, spec_IsContradiction.j0]
    by_cases hl : l.length = 4
    · rw [if_neg (by rw [hl]; decide), decide_eq_true hl, Bool.true_and]
      exact spec_contra_loop ht l hl 4 k 0 (by omega) (by omega) rfl
    · rw [if_pos (by rw [bne_iff_ne]; omega), decide_eq_false hl]; rfl
end Go.Proofs.Ytknafneeodpojaa.U
