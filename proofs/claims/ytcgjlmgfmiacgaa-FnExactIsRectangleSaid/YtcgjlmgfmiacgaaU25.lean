/- The rows of a table as a matrix: both ways. -/
import Derived.Test.YtcgjlmgfmiacgaaUG
import Derived.Test.YtcgjlmgfmiacgaaFimplMatrixOf
import Derived.Test.YtcgjlmgfmiacgaaFspecMatrixOf
namespace Go.Proofs.Ytcgjlmgfmiacgaa.U
open Go.RowKit Go.Proofs.YtcgjlmgfmiacgaaW.PrintWords Go.Proofs.YtcgjlmgfmiacgaaW.PrintLast Go.Proofs.YtcgjlmgfmiacgaaW.PrintMore Go.Proofs.Ytcgjlmgfmiacgaa.F Go.Proofs.Ytcgjlmgfmiacgaa.B
set_option linter.unusedVariables false
set_option linter.unusedSimpArgs false
set_option maxRecDepth 100000
/-- A row: the values for one value of the first variables. -/
def rowV (w s m a : Nat) : Nat := tabN (fun b => w.testBit (a + 2 ^ s * b)) (2 ^ m)
def rowsV (w s m : Nat) (n : Nat) : List Int := listN (fun a => ((rowV w s m a : Nat) : Int)) n
theorem at_lt {s m a b : Nat} (ha : a < 2 ^ s) (hb : b < 2 ^ m) : a + 2 ^ s * b < 2 ^ (s + m) := by
  rw [Nat.pow_add]
  have : 2 ^ s * (b + 1) ≤ 2 ^ s * 2 ^ m := Nat.mul_le_mul_left _ hb
  rw [Nat.mul_add] at this
  omega
theorem or_at {s a b : Nat} (ha : a < 2 ^ s) : a ||| b <<< s = a + 2 ^ s * b := by
  rw [Nat.shiftLeft_eq, Nat.mul_comm b, Nat.or_comm, ← Nat.two_pow_add_eq_or_of_lt ha, Nat.add_comm]
theorem tab_step (w : Nat) (p : Nat → Nat) (b : Nat) : tabN (fun i => w.testBit (p i)) b ||| bitN w (p b) <<< b = tabN (fun i => w.testBit (p i)) (b + 1) := rfl
theorem spec_mat_l1 {w s m a : Nat} (ht : Tab (s + m) w) (ha : a < 2 ^ s) (L : List Int) (hL : L.length < 1000) : ∀ (d k b : Nat), b + d = 2 ^ m → d < k →
    spec_MatrixOf.l1 k s L a ((tabN (fun i => w.testBit (a + 2 ^ s * i)) b : Nat) : Int) b ((s + m : Nat) : Int) w = spec_MatrixOf.l0 (k - d - 1) s (L ++ [((rowV w s m a : Nat) : Int)]) ((a + 1 : Nat) : Int) ((s + m : Nat) : Int) w := by
  have hn := ht.1
  have hM := pow_le (n := s) (by omega)
  have hM2 := pow_le (n := m) (by omega)
  have hM3 := pow_le hn
  have em : wrap64 (((s + m : Nat) : Int) - (s : Int)) = (m : Int) := by rw [wrap64_of (by omega) (by omega)]; omega
  intro d
  induction d with
  | zero =>
    intro k b hb hk
    obtain ⟨k, rfl⟩ : ∃ m, k = m + 1 := ⟨k - 1, by omega⟩
    obtain rfl : b = 2 ^ m := by omega
    simp only [spec_MatrixOf.l1]
    rw [em, if_pos (Int.natCast_nonneg _), shl1_of (by omega), if_neg (by omega), if_pos (by omega), wrap64_succ (by omega)]
    rfl
  | succ d ih =>
    intro k b hb hk
    obtain ⟨k, rfl⟩ : ∃ m, k = m + 1 := ⟨k - 1, by omega⟩
    have hat := at_lt ha (show b < 2 ^ m by omega)
    have hor := or_at (b := b) ha
    have hsh : b <<< s ≤ a ||| b <<< s := Nat.right_le_or
    have hc := @bitN_shl_lt w (a + 2 ^ s * b) b 32 (by omega)
    have hT := tabN_lt63 (fun i => w.testBit (a + 2 ^ s * i)) (show b ≤ 32 by omega)
    simp only [spec_MatrixOf.l1]
    rw [em, if_pos (Int.natCast_nonneg _), shl1_of (by omega), if_pos (by omega), if_pos (Int.natCast_nonneg _), shl_cast (by omega) (by omega), or_cast (by omega) (by omega), hor, if_pos (Int.natCast_nonneg _), if_pos (Int.natCast_nonneg _), bit_cast ht.lt63 (by omega), shl_cast (by omega) (by omega), or_cast hT (by omega), tab_step w (fun i => a + 2 ^ s * i) b, wrap64_succ (by omega), show k + 1 - (d + 1) - 1 = k - d - 1 by omega]
    exact ih k (b + 1) (by omega) (by omega)
theorem spec_mat_l0 {w s m : Nat} (ht : Tab (s + m) w) : ∀ (d k a : Nat), a + d = 2 ^ s → d * 40 + 1 < k →
    spec_MatrixOf.l0 k s (rowsV w s m a) a ((s + m : Nat) : Int) w = some (rowsV w s m (2 ^ s), true) := by
  have hn := ht.1
  have hM := pow_le (n := s) (by omega)
  have hM2 := pow_le (n := m) (by omega)
  intro d
  induction d with
  | zero =>
    intro k a ha hk
    obtain ⟨k, rfl⟩ : ∃ m, k = m + 1 := ⟨k - 1, by omega⟩
    obtain rfl : a = 2 ^ s := by omega
    simp only [spec_MatrixOf.l0]
    rw [if_pos (Int.natCast_nonneg _), shl1_of (by omega), if_neg (by omega)]
  | succ d ih =>
    intro k a ha hk
    obtain ⟨k, rfl⟩ : ∃ m, k = m + 1 := ⟨k - 1, by omega⟩
    have h1 := spec_mat_l1 ht (show a < 2 ^ s by omega) (rowsV w s m a) (by rw [rowsV, listN_length]; omega) (2 ^ m) k 0 (by omega) (by omega)
    simp only [spec_MatrixOf.l0]
    rw [if_pos (Int.natCast_nonneg _), shl1_of (by omega), if_pos (by omega)]
    refine Eq.trans h1 ?_
    rw [rowsV, ← listN_succ]
    exact ih (k - 2 ^ m - 1) (a + 1) (by omega) (by omega)
/-- A split: s first variables of n. -/
def splitI (a b s : Int) : Bool := isTab a b && decide (0 ≤ s ∧ s ≤ a)
theorem impl_isSplit {a b : Int} (s : Int) (h0 : -9223372036854775808 ≤ b) (h1 : b ≤ 9223372036854775807) : impl_isSplit.f a b s = some (splitI a b s) := by
  unfold impl_isSplit.f splitI
  rw [impl_isTable h0 h1, Option.bind_some]
  cases hT : isTab a b with
  | false => rfl
  | true =>
    rw [if_pos rfl, Bool.true_and]
    by_cases h : s ≥ 0
    · rw [if_pos h]; congr 1; exact decide_eq_decide.mpr (by omega)
    · rw [if_neg h]; congr 1; symm; exact decide_eq_false (by omega)
theorem split_of {a b s : Int} (h : splitI a b s = true) : ∃ t m w : Nat, a = ((t + m : Nat) : Int) ∧ b = w ∧ s = t ∧ Tab (t + m) w := by
  unfold splitI at h
  rw [Bool.and_eq_true] at h
  obtain ⟨n, w, rfl, rfl, ht⟩ := tab_of h.1
  have h2 := of_decide_eq_true h.2
  obtain ⟨t, rfl⟩ := Int.eq_ofNat_of_zero_le h2.1
  obtain ⟨m, rfl⟩ : ∃ m, n = t + m := ⟨n - t, by omega⟩
  exact ⟨t, m, w, rfl, rfl, rfl, ht⟩
/-- What both say. -/
def matI (a b s : Int) : List Int × Bool := if splitI a b s = true then (rowsV b.toNat s.toNat (a - s).toNat (2 ^ s.toNat), true) else ([], false)
theorem matI_of {w s m : Nat} (ht : Tab (s + m) w) : matI ((s + m : Nat) : Int) w s = (rowsV w s m (2 ^ s), true) := by
  unfold matI
  rw [if_pos (by unfold splitI; rw [isTab_of ht, Bool.true_and]; exact decide_eq_true ⟨by omega, by omega⟩), Int.toNat_natCast, Int.toNat_natCast, show (((s + m : Nat) : Int) - (s : Int)).toNat = m by omega]
theorem spec_matrix (a b s : Int) {k : Nat} (hk : 2000 < k) : spec_MatrixOf.f k a b s = some (matI a b s) := by
  obtain ⟨k, rfl⟩ : ∃ m, k = m + 1 := ⟨k - 1, by omega⟩
  have hj : ∀ x20 : Bool, x20 = !(splitI a b s) → spec_MatrixOf.j0 (k + 1) s [] x20 a b = some (matI a b s) := by
    intro x20 hx
    simp only [spec_MatrixOf.j0]
    cases hS : splitI a b s with
    | false => rw [hx, hS, Bool.not_false, if_pos rfl]; unfold matI; rw [hS, if_neg (by decide)]
    | true =>
      rw [hx, hS, Bool.not_true, if_neg (by decide)]
      obtain ⟨t, m, w, rfl, rfl, rfl, ht⟩ := split_of hS
      rw [matI_of ht]
      have := pow_le (n := t) (by have := ht.1; omega)
      exact spec_mat_l0 ht (2 ^ t) k 0 (by omega) (by omega)
  unfold spec_MatrixOf.f
  rw [Option.bind_some, spec_isTable, Option.bind_some]
  cases hT : isTab a b with
  | false => rw [if_neg (by decide)]; exact hj _ (by unfold splitI; rw [hT]; rfl)
  | true =>
    rw [if_pos rfl, l1In_some _ _ _ _ rfl, Option.bind_some]
    exact hj _ (by unfold splitI; rw [hT, Bool.true_and])
/-- What the program's list holds when x inputs are done. -/
def partV (w s m x a : Nat) : Nat := tabN (fun b => decide (a + 2 ^ s * b < x) && w.testBit (a + 2 ^ s * b)) (2 ^ m)
theorem partV_lt63 {w s m x a : Nat} (h : m ≤ 5) : partV w s m x a < 9223372036854775808 := tabN_lt63 _ (pow_le h)
theorem part_step {w s m x : Nat} (hx : x < 2 ^ (s + m)) : partV w s m x (x % 2 ^ s) ||| bitN w x <<< (x / 2 ^ s) = partV w s m (x + 1) (x % 2 ^ s) := by
  have hp := pow_pos s
  have hd : x / 2 ^ s < 2 ^ m := by rw [Nat.div_lt_iff_lt_mul hp, Nat.mul_comm, ← Nat.pow_add]; exact hx
  have e : x % 2 ^ s + 2 ^ s * (x / 2 ^ s) = x := Nat.mod_add_div x (2 ^ s)
  refine word_ext (m := 2 ^ m) (Nat.or_lt_two_pow (tabN_lt _ _) (bitN_shl_lt hd)) (tabN_lt _ _) fun y hy => ?_
  rw [Nat.testBit_or, partV, partV, testBit_tabN, testBit_tabN, testBit_bitN_shl, decide_eq_true hy, Bool.true_and, Bool.true_and]
  by_cases h : y = x / 2 ^ s
  · subst h
    rw [e, decide_eq_false (Nat.lt_irrefl x), decide_eq_true (Nat.lt_succ_self x), Bool.false_and, Bool.false_or, decide_eq_true rfl]
  · rw [decide_eq_false h, Bool.false_and, Bool.or_false]
    have hne : x % 2 ^ s + 2 ^ s * y ≠ x := by
      intro q
      rw [← e] at q
      have q2 : 2 ^ s * y = 2 ^ s * (x / 2 ^ s) := by
        have := congrArg (fun z => z) q
        rw [Nat.add_mod, Nat.mul_mod_right, Nat.mod_mod, Nat.add_zero, Nat.mod_mod] at q
        omega
      exact h (Nat.eq_of_mul_eq_mul_left hp q2)
    congr 1
    exact decide_eq_decide.mpr (by omega)
theorem part_other {w s m x a : Nat} (ha : a < 2 ^ s) (h : a ≠ x % 2 ^ s) : partV w s m (x + 1) a = partV w s m x a := by
  refine tabN_congr fun y _ => ?_
  congr 1
  have hne : a + 2 ^ s * y ≠ x := by
    intro q
    apply h
    rw [← q, Nat.add_mul_mod_self_left, Nat.mod_eq_of_lt ha]
  exact decide_eq_decide.mpr (by omega)
def partsV (w s m x : Nat) : List Int := listN (fun a => ((partV w s m x a : Nat) : Int)) (2 ^ s)
theorem parts_step {w s m x : Nat} (hx : x < 2 ^ (s + m)) : (partsV w s m x).set (x % 2 ^ s) ((partV w s m (x + 1) (x % 2 ^ s) : Nat) : Int) = partsV w s m (x + 1) := by
  unfold partsV
  apply List.ext_getElem
  · rw [List.length_set, listN_length, listN_length]
  · intro j h1 h2
    rw [listN_length] at h2
    rw [List.getElem_set]
    by_cases e : x % 2 ^ s = j
    · subst e; rw [if_pos rfl]; simp [listN]
    · rw [if_neg e]; simp only [listN, List.getElem_map, List.getElem_range]; rw [part_other h2 (Ne.symm e)]
theorem impl_mat_l0 {w s m : Nat} (ht : Tab (s + m) w) : ∀ (d k x : Nat), x + d = 2 ^ (s + m) → d < k →
    impl_Table_rows.l0 k s (partsV w s m x) ((2 ^ (s + m) : Nat) : Int) x ((s + m : Nat) : Int) w = some (partsV w s m (2 ^ (s + m))) := by
  have hn := ht.1
  have hM := pow_le (n := s) (by omega)
  have hM2 := pow_le (n := m) (by omega)
  have hM3 := pow_le hn
  have hp := pow_pos s
  intro d
  induction d with
  | zero =>
    intro k x hx hk
    obtain ⟨k, rfl⟩ : ∃ m, k = m + 1 := ⟨k - 1, by omega⟩
    obtain rfl : x = 2 ^ (s + m) := by omega
    simp only [impl_Table_rows.l0]
    rw [if_neg (by omega)]
  | succ d ih =>
    intro k x hx hk
    obtain ⟨k, rfl⟩ : ∃ m, k = m + 1 := ⟨k - 1, by omega⟩
    have hxl : x < 2 ^ (s + m) := by omega
    have hmod : x % 2 ^ s < 2 ^ s := Nat.mod_lt _ hp
    have hdiv : x / 2 ^ s ≤ x := Nat.div_le_self _ _
    have hdl : x / 2 ^ s < 32 := by omega
    have hc := @bitN_shl_lt w x (x / 2 ^ s) 32 hdl
    have eand : Go.bits .and .i64 (x : Int) (wrap64 (shl .i64 1 (s : Int) - 1)) = ((x % 2 ^ s : Nat) : Int) := by
      rw [shl1_of (by omega), show wrap64 (((2 ^ s : Nat) : Int) - 1) = ((2 ^ s - 1 : Nat) : Int) by rw [wrap64_of (by omega) (by omega)]; omega, and_cast (by omega) (by omega), Nat.and_two_pow_sub_one_eq_mod]
    have eshr : shr .i64 (x : Int) (s : Int) = ((x / 2 ^ s : Nat) : Int) := by rw [shr_cast _ _ (by omega), Nat.shiftRight_eq_div_pow]
    have hr : rd (partsV w s m x) ((x % 2 ^ s : Nat) : Int) = ((partV w s m x (x % 2 ^ s) : Nat) : Int) := listN_get hmod
    simp only [impl_Table_rows.l0]
    rw [if_pos (by omega), if_pos (Int.natCast_nonneg _), eand, if_pos (Int.natCast_nonneg _), if_pos (by rw [partsV, listN_length]; omega), at_some' ht.lt63 (by omega), Option.bind_some, eshr, if_pos (Int.natCast_nonneg _), shl_cast (by omega) (by omega), hr, or_cast (partV_lt63 (by omega)) (by omega), part_step hxl, Int.toNat_natCast, parts_step hxl, wrap64_succ (by omega)]
    exact ih k (x + 1) (by omega) (by omega)
theorem impl_rows {w s m k : Nat} (ht : Tab (s + m) w) (hk : 40 < k) : impl_Table_rows.f k ((s + m : Nat) : Int) w s = some (rowsV w s m (2 ^ s)) := by
  have hn := ht.1
  have hM := pow_le (n := s) (by omega)
  have hM3 := pow_le hn
  unfold impl_Table_rows.f
  rw [if_pos (Int.natCast_nonneg _), shl1_of (by omega), if_pos (Int.natCast_nonneg _), Int.toNat_natCast, if_pos (by omega), size_some _ (by omega), Option.bind_some]
  have e0 : List.replicate (2 ^ s) (0 : Int) = partsV w s m 0 := by
    rw [listN_const]
    refine listN_congr fun a _ => ?_
    have : partV w s m 0 a = tabN (fun _ => false) (2 ^ m) := tabN_congr fun _ _ => by simp
    have z : ∀ q, tabN (fun _ => false) q = 0 := by intro q; induction q with
      | zero => rfl
      | succ q ih => rw [tabN_false rfl, ih]
    rw [this, z]; rfl
  have e1 : partsV w s m (2 ^ (s + m)) = rowsV w s m (2 ^ s) := by
    unfold partsV rowsV
    refine listN_congr fun a ha => ?_
    congr 1
    refine tabN_congr fun b hb => ?_
    rw [decide_eq_true (at_lt ha hb), Bool.true_and]
  rw [e0, ← e1]
  exact impl_mat_l0 ht (2 ^ (s + m)) k 0 (by omega) (by omega)
theorem impl_matrix {a b : Int} (s : Int) (h0 : -9223372036854775808 ≤ b) (h1 : b ≤ 9223372036854775807) {k : Nat} (hk : 40 < k) : impl_MatrixOf.f k a b s = some (matI a b s) := by
  unfold impl_MatrixOf.f
  rw [impl_isSplit s h0 h1, Option.bind_some]
  cases hS : splitI a b s with
  | false => rw [if_neg (by decide)]; unfold matI; rw [hS, if_neg (by decide)]
  | true =>
    obtain ⟨t, m, w, rfl, rfl, rfl, ht⟩ := split_of hS
    rw [if_pos rfl, impl_rows ht hk, Option.bind_some, matI_of ht]
theorem matI_length (a b s : Int) : (matI a b s).1.length ≤ 32 := by
  cases hS : splitI a b s with
  | false => unfold matI; rw [hS, if_neg (by decide)]; exact Nat.zero_le _
  | true =>
    obtain ⟨t, m, w, rfl, rfl, rfl, ht⟩ := split_of hS
    rw [matI_of ht]
    show (rowsV w t m (2 ^ t)).length ≤ 32
    rw [rowsV, listN_length]
    exact pow_le (by have := ht.1; omega)
end Go.Proofs.Ytcgjlmgfmiacgaa.U
