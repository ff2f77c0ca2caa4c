/- The largest fooling set: the reference's search is the plain search. -/
import Derived.Test.YticfnpfagadcoaaU31
import Derived.Test.YticfnpfagadcoaaU41
import Derived.Test.YticfnpfagadcoaaFspecLargestFooling
namespace Go.Proofs.Yticfnpfagadcoaa.U
open Go.RowKit Go.Proofs.YticfnpfagadcoaaW.PrintWords Go.Proofs.YticfnpfagadcoaaW.PrintLast Go.Proofs.YticfnpfagadcoaaW.PrintMore Go.Proofs.Yticfnpfagadcoaa.F Go.Proofs.Yticfnpfagadcoaa.B
set_option linter.unusedVariables false
set_option linter.unusedSimpArgs false
/-- The list with one number more is still a fooling set. -/
def okL (n w : Nat) (s v : Int) (l : List Int) (x : Nat) : Bool := foolI n w s v (l ++ [(x : Int)])
theorem spec_grow {n w : Nat} (hn : n ≤ 4) (s v : Int) : ∀ (d k x : Nat) (l acc : List Int), x + d = 2 ^ n → l.length ≤ x → 2 * d + 500 < k →
    spec_l20Fooling.l0 k s v l acc x n w = some (allF (okL n w s v) d x l acc) := by
  have hp : 2 ^ n ≤ 2 ^ 4 := Nat.pow_le_pow_right (by decide) hn
  intro d
  induction d with
  | zero =>
    intro k x l acc hx hl hk
    obtain ⟨k, rfl⟩ : ∃ m, k = m + 1 := ⟨k - 1, by omega⟩
    rw [spec_l20Fooling.l0, if_pos (Int.natCast_nonneg _), shl1_of (by omega), if_neg (by omega), allF]
  | succ d ih =>
    intro k x l acc hx hl hk
    obtain ⟨k, rfl⟩ : ∃ m, k = m + 2 := ⟨k - 2, by omega⟩
    have hlen : (l ++ [(x : Int)]).length = l.length + 1 := by rw [List.length_append]; rfl
    have hmul : (l ++ [(x : Int)]).length * ((l ++ [(x : Int)]).length + 5) + 2 < k + 1 := by
      rw [hlen]
      have : (l.length + 1) * (l.length + 1 + 5) ≤ 17 * 22 := Nat.mul_le_mul (by omega) (by omega)
      omega
    rw [spec_l20Fooling.l0, if_pos (Int.natCast_nonneg _), shl1_of (by omega), if_pos (by omega), Option.bind_some, if_pos (by rw [List.length_nil]; omega), Option.bind_some, List.nil_append, if_pos (by omega), Option.bind_some, spec_fooling _ _ _ _ _ (by omega) hmul, Option.bind_some, wrap64_succ (by omega), allF]
    have hc : foolI n w s v (l ++ [(x : Int)]) = okL n w s v l x := rfl
    rw [hc]
    cases okL n w s v l x with
    | false =>
      rw [if_neg (by decide), if_neg (by decide)]
      exact ih (k + 1) (x + 1) l acc (by omega) (by omega) (by omega)
    | true =>
      rw [if_pos rfl, if_pos rfl, spec_l20Fooling.f, ih k (x + 1) (l ++ [(x : Int)]) _ (by omega) (by omega) (by omega), Option.bind_some]
      unfold pick
      generalize allF (okL n w s v) d (x + 1) (l ++ [(x : Int)]) (l ++ [(x : Int)]) = y
      by_cases h : acc.length < y.length
      · rw [if_pos (show (y.length : Int) > (acc.length : Int) by omega), if_pos h]
        exact ih (k + 1) (x + 1) l y (by omega) (by omega) (by omega)
      · rw [if_neg (show ¬ (y.length : Int) > (acc.length : Int) by omega), if_neg h]
        exact ih (k + 1) (x + 1) l acc (by omega) (by omega) (by omega)
/-- What both say. -/
def largeI (a b s v : Int) : List Int × Bool := if ((isTab a b && decide (a ≤ 4)) && decide (0 ≤ s ∧ s ≤ a)) && decide (0 ≤ v ∧ v ≤ 1) then (allF (okL a.toNat b.toNat s v) (2 ^ a.toNat) 0 [] [], true) else ([], false)
theorem spec_large (a b s v : Int) {k : Nat} (hk : 1000 < k) : spec_LargestFooling.f k a b s v = some (largeI a b s v) := by
  unfold spec_LargestFooling.f largeI
  rw [spec_isTable, Option.bind_some]
  cases hT : isTab a b with
  | false => rw [if_neg (by decide), Bool.false_and, Bool.false_and, Bool.false_and, if_neg (by decide)]
  | true =>
    obtain ⟨n, w, rfl, rfl, ht⟩ := tab_of hT
    rw [if_pos rfl, Bool.true_and]
    by_cases h4 : (n : Int) > 4
    · rw [if_pos h4, decide_eq_false (show ¬ (n : Int) ≤ 4 by omega), Bool.false_and, Bool.false_and, if_neg (by decide)]
    · rw [if_neg h4, decide_eq_true (show (n : Int) ≤ 4 by omega), Bool.true_and, l1In_some _ _ _ _ rfl, Option.bind_some]
      by_cases h5 : 0 ≤ s ∧ s ≤ (n : Int)
      · rw [if_pos (decide_eq_true h5), decide_eq_true h5, Bool.true_and, l1In_some _ _ _ _ rfl, Option.bind_some]
        by_cases h6 : 0 ≤ v ∧ v ≤ 1
        · obtain ⟨k, rfl⟩ : ∃ m, k = m + 1 := ⟨k - 1, by omega⟩
          have hp : 2 ^ n ≤ 2 ^ 4 := Nat.pow_le_pow_right (by decide) (show n ≤ 4 by omega)
          have h := spec_grow (w := w) (show n ≤ 4 by omega) s v (2 ^ n) k 0 [] [] (by omega) (Nat.le_refl _) (by omega)
          have h' : spec_l20Fooling.l0 k s v [] [] 0 n w = some _ := h
          rw [if_pos (decide_eq_true h6), if_pos (decide_eq_true h6), spec_l20Fooling.f, h', Option.bind_some, Int.toNat_natCast, Int.toNat_natCast]
        · rw [if_neg (fun q => h6 (of_decide_eq_true q)), if_neg (fun q => h6 (of_decide_eq_true q))]
      · rw [if_neg (fun q => h5 (of_decide_eq_true q)), decide_eq_false h5, Bool.false_and, if_neg (by decide)]
end Go.Proofs.Yticfnpfagadcoaa.U
