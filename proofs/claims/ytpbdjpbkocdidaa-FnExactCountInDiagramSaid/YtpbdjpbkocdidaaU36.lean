/- The value in a diagram: both ways. -/
import Derived.Test.YtpbdjpbkocdidaaUN
import Derived.Test.YtpbdjpbkocdidaaFimplValueInDiagram
import Derived.Test.YtpbdjpbkocdidaaFspecValueInDiagram
namespace Go.Proofs.Ytpbdjpbkocdidaa.U
open Go.RowKit Go.Proofs.YtpbdjpbkocdidaaW.PrintWords Go.Proofs.YtpbdjpbkocdidaaW.PrintLast Go.Proofs.YtpbdjpbkocdidaaW.PrintMore Go.Proofs.Ytpbdjpbkocdidaa.F Go.Proofs.Ytpbdjpbkocdidaa.B
set_option linter.unusedVariables false
set_option linter.unusedSimpArgs false
def dnext (n : S49) (x : Nat) : Int := if x.testBit n.f0.toNat = true then n.f2 else n.f1
/-- What a diagram says from a node on. -/
def dval (l : List S49) (x : Nat) : Nat → Nat → Int
  | 0, _ => -1
  | m + 1, at_ => if (rd_T49 l at_).f0 < 0 ∨ 4 < (rd_T49 l at_).f0 then -1 else
      if dnext (rd_T49 l at_) x < -2 ∨ (at_ : Int) ≤ dnext (rd_T49 l at_) x then -1 else
      if dnext (rd_T49 l at_) x < 0 then dnext (rd_T49 l at_) x + 2 else dval l x m (dnext (rd_T49 l at_) x).toNat
theorem and_shr {x : Nat} {v : Int} (hx : x < 32) (h0 : 0 ≤ v) (h1 : v ≤ 4) : (Go.bits .and .i64 (shr .i64 (x : Int) v) 1 = 1) ↔ x.testBit v.toNat = true := by
  obtain ⟨n, rfl⟩ := Int.eq_ofNat_of_zero_le h0
  rw [bit_cast (by omega) (by omega), Int.toNat_natCast]
  unfold bitN
  cases x.testBit n <;> decide
theorem impl_val (l : List S49) (hl : l.length ≤ 31) (x : Nat) (hx : x < 32) : ∀ (m k at_ : Nat), at_ < m → at_ < l.length → 2 * m + 3 < k →
    impl_ValueInDiagram.l0 k l x at_ = some (dval l x m at_) := by
  intro m
  induction m with
  | zero => intro k at_ h; omega
  | succ m ih =>
    intro k at_ hm ha hk
    obtain ⟨k, rfl⟩ : ∃ m, k = m + 2 := ⟨k - 2, by omega⟩
    rw [impl_ValueInDiagram.l0, dval, if_pos (by omega), if_pos (by omega), if_pos (by omega)]
    generalize hn : rd_T49 l at_ = n
    have hend : ∀ v : Int, (if v < -2 then some (-1) else if v ≥ (at_ : Int) then some (-1) else impl_ValueInDiagram.l0 k l x v) = some (if v < -2 ∨ (at_ : Int) ≤ v then -1 else if v < 0 then v + 2 else dval l x m v.toNat) := by
      intro v
      by_cases h1 : v < -2
      · rw [if_pos h1, if_pos (.inl h1)]
      · rw [if_neg h1]
        by_cases h2 : v ≥ (at_ : Int)
        · rw [if_pos h2, if_pos (.inr h2)]
        · rw [if_neg h2, if_neg (by omega)]
          by_cases h3 : v < 0
          · rw [if_pos h3]
            obtain ⟨k, rfl⟩ : ∃ m, k = m + 1 := ⟨k - 1, by omega⟩
            rw [impl_ValueInDiagram.l0, if_neg (by omega), wrap64_of (by omega) (by omega), show v - -2 = v + 2 by omega]
          · rw [if_neg h3]
            obtain ⟨u, rfl⟩ := Int.eq_ofNat_of_zero_le (show 0 ≤ v by omega)
            rw [Int.toNat_natCast]
            exact ih k u (by omega) (by omega) (by omega)
    by_cases h0 : n.f0 < 0
    · rw [if_pos h0, if_pos (.inl h0), impl_ValueInDiagram.j2, if_pos rfl]
    · rw [if_neg h0]
      by_cases h4 : 4 < n.f0
      · rw [if_pos (.inr h4), decide_eq_true (by omega), impl_ValueInDiagram.j2, if_pos rfl]
      · rw [if_neg (by omega), decide_eq_false (by omega), impl_ValueInDiagram.j2, if_neg (by decide), if_pos (by omega)]
        unfold dnext
        by_cases hb : x.testBit n.f0.toNat = true
        · rw [if_pos ((and_shr hx (by omega) (by omega)).mpr hb), if_pos hb]
          exact hend _
        · rw [if_neg (fun q => hb ((and_shr hx (by omega) (by omega)).mp q)), if_neg hb]
          exact hend _
theorem spec_val (l : List S49) (hl : l.length ≤ 31) (x : Nat) (hx : x < 32) : ∀ (m k at_ : Nat), at_ < m → at_ < l.length → 2 * m + 3 < k →
    spec_ValueInDiagram.l0 k l x at_ = some (dval l x m at_) := by
  intro m
  induction m with
  | zero => intro k at_ h; omega
  | succ m ih =>
    intro k at_ hm ha hk
    obtain ⟨k, rfl⟩ : ∃ m, k = m + 2 := ⟨k - 2, by omega⟩
    rw [spec_ValueInDiagram.l0, dval, if_pos (by omega), if_pos (by omega), if_pos (by omega)]
    generalize hn : rd_T49 l at_ = n
    have hend : ∀ v : Int, spec_ValueInDiagram.j2 (k + 1) l x at_ v = some (if v < -2 ∨ (at_ : Int) ≤ v then -1 else if v < 0 then v + 2 else dval l x m v.toNat) := by
      intro v
      rw [spec_ValueInDiagram.j2, l1In_some _ _ _ _ rfl, Option.bind_some]
      by_cases h1 : -2 ≤ v ∧ v ≤ -1
      · rw [if_pos (decide_eq_true h1), if_neg (by omega), if_pos (by omega), wrap64_of (by omega) (by omega)]
      · rw [if_neg (fun q => h1 (of_decide_eq_true q)), l1In_some _ _ _ _ rfl, Option.bind_some, wrap64_of (by omega) (by omega)]
        by_cases h2 : 0 ≤ v ∧ v ≤ (at_ : Int) - 1
        · rw [if_pos (decide_eq_true h2), if_neg (by omega), if_neg (by omega)]
          obtain ⟨u, rfl⟩ := Int.eq_ofNat_of_zero_le h2.1
          rw [Int.toNat_natCast]
          exact ih k u (by omega) (by omega) (by omega)
        · rw [if_neg (fun q => h2 (of_decide_eq_true q)), if_pos (by omega)]
    rw [l1In_some _ _ _ _ rfl, Option.bind_some]
    by_cases h0 : 0 ≤ n.f0 ∧ n.f0 ≤ 4
    · rw [if_pos (decide_eq_true h0), if_pos h0.1, if_neg (show ¬ (n.f0 < 0 ∨ 4 < n.f0) by omega)]
      unfold dnext
      by_cases hb : x.testBit n.f0.toNat = true
      · rw [if_pos ((and_shr hx (by omega) (by omega)).mpr hb), if_pos hb]
        exact hend _
      · rw [if_neg (fun q => hb ((and_shr hx (by omega) (by omega)).mp q)), if_neg hb]
        exact hend _
    · rw [if_neg (fun q => h0 (of_decide_eq_true q)), if_pos (by omega)]
/-- What both say. -/
def dvalI (l : List S49) (x : Int) : Int := if l.length < 1 ∨ 31 < l.length ∨ x < 0 ∨ 31 < x then -1 else dval l x.toNat l.length (l.length - 1)
theorem isInput5 (x : Int) : impl_isInput.f 5 x = some (decide (0 ≤ x ∧ x ≤ 31)) := by
  unfold impl_isInput.f
  by_cases h : x ≥ 0
  · rw [if_pos h, if_pos (by decide), show shl .i64 1 5 = 32 by decide]; congr 1; exact decide_eq_decide.mpr (by omega)
  · rw [if_neg h]; congr 1; symm; exact decide_eq_false (by omega)
theorem impl_dval (l : List S49) (x : Int) {k : Nat} (hl : l.length ≤ 9223372036854775807) (hk : 100 < k) : impl_ValueInDiagram.f k l x = some (dvalI l x) := by
  obtain ⟨k, rfl⟩ : ∃ m, k = m + 1 := ⟨k - 1, by omega⟩
  unfold impl_ValueInDiagram.f dvalI
  by_cases h1 : (l.length : Int) < 1
  · rw [if_pos h1, if_pos (.inl (by omega)), impl_ValueInDiagram.j0, if_pos rfl]
  · rw [if_neg h1]
    by_cases h2 : (l.length : Int) > 31
    · rw [if_pos h2, if_pos (.inr (.inl (by omega))), impl_ValueInDiagram.j0, if_pos rfl]
    · rw [if_neg h2, isInput5, Option.bind_some, impl_ValueInDiagram.j0]
      by_cases h3 : 0 ≤ x ∧ x ≤ 31
      · obtain ⟨y, rfl⟩ := Int.eq_ofNat_of_zero_le h3.1
        rw [decide_eq_true h3, if_neg (by decide), if_neg (by omega), wrap64_of (by omega) (by omega), Int.toNat_natCast, show ((l.length : Int) - 1) = ((l.length - 1 : Nat) : Int) by omega]
        exact impl_val l (by omega) y (by omega) l.length k (l.length - 1) (by omega) (by omega) (by omega)
      · rw [decide_eq_false h3, if_pos (by decide), if_pos (by omega)]
theorem spec_dval (l : List S49) (x : Int) {k : Nat} (hl : l.length ≤ 9223372036854775807) (hk : 100 < k) : spec_ValueInDiagram.f k l x = some (dvalI l x) := by
  obtain ⟨k, rfl⟩ : ∃ m, k = m + 1 := ⟨k - 1, by omega⟩
  unfold spec_ValueInDiagram.f dvalI
  by_cases h2 : (l.length : Int) > 31
  · rw [if_pos h2, if_pos (.inr (.inl (by omega))), spec_ValueInDiagram.j0, if_pos rfl]
  · rw [if_neg h2, l1In_some _ _ _ _ rfl, Option.bind_some, spec_ValueInDiagram.j0]
    by_cases h3 : 0 ≤ x ∧ x ≤ 31
    · obtain ⟨y, rfl⟩ := Int.eq_ofNat_of_zero_le h3.1
      rw [decide_eq_true h3, if_neg (by decide), wrap64_of (by omega) (by omega), Int.toNat_natCast]
      by_cases h1 : l.length < 1
      · rw [if_pos (.inl h1)]
        obtain ⟨k, rfl⟩ : ∃ m, k = m + 1 := ⟨k - 1, by omega⟩
        rw [spec_ValueInDiagram.l0, if_neg (by omega)]
      · rw [if_neg (by omega), show ((l.length : Int) - 1) = ((l.length - 1 : Nat) : Int) by omega]
        exact spec_val l (by omega) y (by omega) l.length k (l.length - 1) (by omega) (by omega) (by omega)
    · rw [decide_eq_false h3, if_pos (by decide), if_pos (by omega)]
end Go.Proofs.Ytpbdjpbkocdidaa.U
