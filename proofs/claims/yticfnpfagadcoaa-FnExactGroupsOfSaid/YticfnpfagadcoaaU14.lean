/- Variables that can be exchanged: both ways. -/
import Derived.Test.YticfnpfagadcoaaUb
import Derived.Test.YticfnpfagadcoaaFimplTablepermute
import Derived.Test.YticfnpfagadcoaaFimplAreExchangeable
import Derived.Test.YticfnpfagadcoaaFspecAreExchangeable
namespace Go.Proofs.Yticfnpfagadcoaa.U
open Go.RowKit Go.Proofs.YticfnpfagadcoaaW.PrintWords Go.Proofs.YticfnpfagadcoaaW.PrintLast Go.Proofs.YticfnpfagadcoaaW.PrintMore Go.Proofs.Yticfnpfagadcoaa.F Go.Proofs.Yticfnpfagadcoaa.B
set_option linter.unusedVariables false
set_option linter.unusedSimpArgs false
/-- The input with the bits i and k exchanged. -/
def swp (x i k : Nat) : Nat := if x.testBit i = x.testBit k then x else x ^^^ (2 ^ i ||| 2 ^ k)
/-- The list that exchanges i and k. -/
def swapL (n i k : Nat) : List Int := (((List.range n).map fun j => ((j : Nat) : Int)).set i (k : Int)).set k (i : Int)
theorem moved_swap10 : ∀ n : Fin 6, ∀ i : Fin 5, i.val < n.val → ∀ k : Fin 5, k.val < n.val → ∀ x : Fin 32, x.val < 2 ^ n.val → impl_moved.f 10 (x.val : Int) (swapL n.val i.val k.val) = some ((swp x.val i.val k.val : Nat) : Int) := by decide +kernel
theorem moved_swap {n i k x K : Nat} (hn : n ≤ 5) (hi : i < n) (hk : k < n) (hx : x < 2 ^ n) (hK : 10 ≤ K) : impl_moved.f K x (swapL n i k) = some ((swp x i k : Nat) : Int) := by
  have := pow_le hn
  exact at_rounds (g := fun K => impl_moved.f K x (swapL n i k)) (fun K => impl_moved.mono _ _ K) hK (moved_swap10 ⟨n, by omega⟩ ⟨i, by omega⟩ hi ⟨k, by omega⟩ hk ⟨x, by omega⟩ hx)
theorem swp_lt {n i k x : Nat} (hx : x < 2 ^ n) (hi : i < n) (hk : k < n) : swp x i k < 2 ^ n := by
  unfold swp
  split
  · exact hx
  · exact Nat.xor_lt_two_pow hx (Nat.or_lt_two_pow (pow_lt hi) (pow_lt hk))
theorem swp_swp {i k x : Nat} (hx : x < 32) (hi : i < 5) (hk : k < 5) : swp (swp x i k) i k = x := by
  have h : ∀ x : Fin 32, ∀ i : Fin 5, ∀ k : Fin 5, swp (swp x i k) i k = x := by decide +kernel
  exact h ⟨x, hx⟩ ⟨i, hi⟩ ⟨k, hk⟩
/-- The exchange of two variables changes no value. -/
def exch (n w i k : Nat) : Bool := allN (fun x => w.testBit x == w.testBit (swp x i k)) (2 ^ n)
theorem permute_loop {n w i j : Nat} (ht : Tab n w) (hi : i < n) (hj : j < n) : ∀ (d k x : Nat), x + d = 2 ^ n → d + 15 < k →
    impl_Table_permute.l0 k (swapL n i j) ((2 ^ n : Nat) : Int) x n w n ((orN (fun x => bitN w x <<< swp x i j) x : Nat) : Int) = some ((n : Int), ((orN (fun x => bitN w x <<< swp x i j) (2 ^ n) : Nat) : Int)) := by
  have hM := pow_le ht.1
  have hn := ht.1
  intro d
  induction d with
  | zero =>
    intro k x hx hk
    obtain ⟨k, rfl⟩ : ∃ m, k = m + 1 := ⟨k - 1, by omega⟩
    obtain rfl : x = 2 ^ n := by omega
    simp only [impl_Table_permute.l0]
    rw [if_neg (by omega)]
  | succ d ih =>
    intro k x hx hk
    obtain ⟨k, rfl⟩ : ∃ m, k = m + 1 := ⟨k - 1, by omega⟩
    have hlt : x < 2 ^ n := by omega
    have hq := swp_lt hlt hi hj
    have hb := @bitN_shl_lt w x (swp x i j) 32 (by omega)
    have ho : orN (fun x => bitN w x <<< swp x i j) x < 2 ^ 32 := orN_lt fun y hy => bitN_shl_lt (by have := swp_lt (show y < 2 ^ n by omega) hi hj; omega)
    simp only [impl_Table_permute.l0]
    rw [if_pos (by exact_mod_cast hlt), at_some' ht.lt63 (by omega)]
    simp only [Option.bind_some]
    rw [moved_swap hn hi hj hlt (by omega)]
    simp only [Option.bind_some]
    rw [if_pos (Int.natCast_nonneg _), shl_cast (by omega) (by omega), or_cast (by omega) (by omega), wrap64_succ (by omega)]
    exact ih k (x + 1) (by omega) (by omega)
theorem permute_swap {n w i j k : Nat} (ht : Tab n w) (hi : i < n) (hj : j < n) (hk : 50 < k) :
    impl_Table_permute.f k n w (swapL n i j) = some ((n : Int), ((tabN (fun x => w.testBit (swp x i j)) (2 ^ n) : Nat) : Int)) := by
  have hM := pow_le ht.1
  have hn := ht.1
  unfold impl_Table_permute.f
  rw [size_some _ (by omega)]
  simp only [Option.bind_some]
  have h := permute_loop ht hi hj (2 ^ n) k 0 (by omega) (by omega)
  rw [orN_perm w (2 ^ n) (fun x => swp x i j) (fun x => swp x i j) (fun x hx => swp_lt hx hi hj) (fun x hx => swp_lt hx hi hj) (fun x hx => swp_swp (by omega) (by omega) (by omega)) (fun x hx => swp_swp (by omega) (by omega) (by omega))] at h
  exact h
theorem swap_eq {n w i j : Nat} (ht : Tab n w) : (tabN (fun x => w.testBit (swp x i j)) (2 ^ n) == w) = exch n w i j := by
  apply Bool.eq_iff_iff.mpr
  unfold exch
  rw [beq_iff_eq, allN_iff]
  constructor
  · intro h x hx
    have := testBit_tabN (fun x => w.testBit (swp x i j)) (2 ^ n) x
    rw [h] at this
    rw [this]
    simp [hx]
  · intro h
    refine word_ext (tabN_lt _ _) ht.2 fun x hx => ?_
    rw [testBit_tabN]
    have := h x hx
    rw [beq_iff_eq] at this
    rw [this]
    simp [hx]
theorem ids_step (n x : Nat) (h : x < n) : (((List.range x).map fun j => ((j : Nat) : Int)) ++ List.replicate (n - x) 0).set x ((x : Nat) : Int) = ((List.range (x + 1)).map fun j => ((j : Nat) : Int)) ++ List.replicate (n - (x + 1)) 0 := by
  obtain ⟨d, hd⟩ : ∃ d, n - x = d + 1 := ⟨n - x - 1, by omega⟩
  rw [hd, show n - (x + 1) = d by omega, List.replicate_succ, List.set_append, if_neg (by simp)]
  simp [List.range_succ]
theorem exch_loop {n w i j : Nat} (ht : Tab n w) (hi : i < n) (hj : j < n) : ∀ (d k x : Nat), x + d = n → d + 60 < k →
    impl_AreExchangeable.l0 k i j (((List.range x).map fun j => ((j : Nat) : Int)) ++ List.replicate (n - x) 0) ((n : Nat) : Int) x n w = some (exch n w i j) := by
  have hn := ht.1
  intro d
  induction d with
  | zero =>
    intro k x hx hk
    obtain ⟨k, rfl⟩ : ∃ m, k = m + 1 := ⟨k - 1, by omega⟩
    obtain rfl : x = n := by omega
    simp only [impl_AreExchangeable.l0, Nat.sub_self, List.replicate_zero, List.append_nil, List.length_map, List.length_range, Int.toNat_natCast]
    rw [if_neg (by omega), if_pos (by omega), if_pos (by omega), if_pos (by omega), if_pos (by omega)]
    have e := permute_swap ht hi hj (k := k) (by omega)
    unfold swapL at e
    rw [e]
    simp only [Option.bind_some]
    congr 1
    rw [← swap_eq ht]
    generalize tabN (fun x => w.testBit (swp x i j)) (2 ^ x) = v
    rw [beq_self_eq_true, Bool.true_and]
    apply Bool.eq_iff_iff.mpr
    rw [beq_iff_eq, beq_iff_eq]
    omega
  | succ d ih =>
    intro k x hx hk
    obtain ⟨k, rfl⟩ : ∃ m, k = m + 1 := ⟨k - 1, by omega⟩
    simp only [impl_AreExchangeable.l0, List.length_append, List.length_map, List.length_range, List.length_replicate, Int.toNat_natCast]
    rw [if_pos (by omega), if_pos (by omega), if_pos (by omega), wrap64_succ (by omega), ids_step n x (by omega)]
    exact ih k (x + 1) (by omega) (by omega)
theorem hasVar {a b : Int} (h0 : -9223372036854775808 ≤ b) (h1 : b ≤ 9223372036854775807) (i : Int) : impl_hasVariable.f a b i = some (isTab a b && decide (0 ≤ i ∧ i < a)) := by
  unfold impl_hasVariable.f
  rw [impl_isTable h0 h1]
  simp only [Option.bind_some]
  cases isTab a b with
  | false => rfl
  | true =>
    rw [if_pos rfl, Bool.true_and]
    by_cases h : i ≥ 0
    · rw [if_pos h]; congr 1; exact decide_eq_decide.mpr (by omega)
    · rw [if_neg h]; congr 1; symm; exact decide_eq_false (by omega)
/-- What both say. -/
def exchB (a b i j : Int) : Bool := isTab a b && (decide (0 ≤ i ∧ i < a) && (decide (0 ≤ j ∧ j < a) && exch a.toNat b.toNat i.toNat j.toNat))
theorem impl_exch {a b : Int} (h0 : -9223372036854775808 ≤ b) (h1 : b ≤ 9223372036854775807) (i j : Int) {k : Nat} (hk : 80 < k) : impl_AreExchangeable.f k a b i j = some (exchB a b i j) := by
  obtain ⟨k, rfl⟩ : ∃ m, k = m + 1 := ⟨k - 1, by omega⟩
  unfold impl_AreExchangeable.f exchB
  rw [hasVar h0 h1 i, hasVar h0 h1 j]
  simp only [Option.bind_some]
  cases hT : isTab a b with
  | false => simp only [Bool.false_and, if_neg (show ¬ (false = true) by decide), impl_AreExchangeable.j0, if_true]
  | true =>
    simp only [Bool.true_and]
    by_cases hi : 0 ≤ i ∧ i < a
    · rw [decide_eq_true hi, if_pos rfl]
      by_cases hj : 0 ≤ j ∧ j < a
      · obtain ⟨n, w, rfl, rfl, ht⟩ := tab_of hT
        obtain ⟨i, rfl⟩ := Int.eq_ofNat_of_zero_le hi.1
        obtain ⟨j, rfl⟩ := Int.eq_ofNat_of_zero_le hj.1
        have := ht.1
        simp only [decide_eq_true hj, impl_AreExchangeable.j0, Bool.not_true, if_neg (show ¬ (false = true) by decide), Int.toNat_natCast, Bool.true_and]
        rw [if_pos (by omega), if_pos (by omega)]
        simp only [Option.bind_some, List.length_replicate]
        exact exch_loop ht (by omega) (by omega) n k 0 (by omega) (by omega)
      · simp only [decide_eq_false hj, impl_AreExchangeable.j0, Bool.not_false, if_true, Bool.false_and, Bool.and_false]
    · simp only [decide_eq_false hi, if_neg (show ¬ (false = true) by decide), impl_AreExchangeable.j0, if_true, Bool.false_and]
theorem spec_exch_loop {n w i j : Nat} (ht : Tab n w) (hi : i < n) (hj : j < n) : ∀ (d k x : Nat), x + d = 2 ^ n → d < k → allN (fun x => w.testBit x == w.testBit (swp x i j)) x = true →
    spec_AreExchangeable.l0 k i j x n w = some (exch n w i j) := by
  have hM := pow_le ht.1
  have hn := ht.1
  intro d
  induction d with
  | zero =>
    intro k x hx hk ha
    obtain ⟨k, rfl⟩ : ∃ m, k = m + 1 := ⟨k - 1, by omega⟩
    obtain rfl : x = 2 ^ n := by omega
    simp only [spec_AreExchangeable.l0]
    rw [if_pos (by omega), shl1_of (by omega), if_neg (by omega), exch, ha]
  | succ d ih =>
    intro k x hx hk ha
    obtain ⟨k, rfl⟩ : ∃ m, k = m + 1 := ⟨k - 1, by omega⟩
    have hlt : x < 2 ^ n := by omega
    have hq := swp_lt hlt hi hj
    have hpi := pow_le_pow (show i ≤ 4 by omega)
    have hpj := pow_le_pow (show j ≤ 4 by omega)
    have hor : 2 ^ i ||| 2 ^ j < 2 ^ 5 := Nat.or_lt_two_pow (pow_lt (by omega)) (pow_lt (by omega))
    simp only [spec_AreExchangeable.l0]
    rw [if_pos (by omega), shl1_of (by omega), if_pos (by exact_mod_cast hlt), if_pos (by omega), if_pos (by omega), bit_cast (by omega) (by omega), bit_cast (by omega) (by omega), wrap64_succ (by omega)]
    have hbit : ((((bitN x i : Nat) : Int)) = ((bitN x j : Nat) : Int)) ↔ x.testBit i = x.testBit j := by
      unfold bitN
      cases x.testBit i <;> cases x.testBit j <;> simp
    by_cases hs : x.testBit i = x.testBit j
    · have e : swp x i j = x := by unfold swp; rw [if_pos hs]
      rw [if_pos (hbit.mpr hs), if_pos (by omega), if_pos trivial]
      exact ih k (x + 1) (by omega) (by omega) (allN_next ha (by simp [e]))
    · have e : swp x i j = x ^^^ (2 ^ i ||| 2 ^ j) := by unfold swp; rw [if_neg hs]
      rw [if_neg (fun h => hs (hbit.mp h)), if_pos (by omega), shl1_of (by omega), shl1_of (by omega), or_cast (by omega) (by omega), xor_cast (by omega) (by omega), if_pos (Int.natCast_nonneg _), ← e, bit_cast ht.lt63 (by omega), bit_cast ht.lt63 (by omega)]
      by_cases hv : w.testBit x = w.testBit (swp x i j)
      · rw [if_pos (by unfold bitN; rw [hv])]
        exact ih k (x + 1) (by omega) (by omega) (allN_next ha (by simp [hv]))
      · rw [if_neg (by intro h; apply hv; unfold bitN at h; revert h; cases w.testBit x <;> cases w.testBit (swp x i j) <;> simp), exch, allN_miss (i := x) hlt (by simpa using hv)]
theorem l1In_var (i : Int) {n : Nat} (hn : n ≤ 5) : spec_l1In.f i 0 (wrap64 ((n : Int) - 1)) = some (decide (0 ≤ i ∧ i < n)) := by
  rw [wrap64_of (by omega) (by omega)]
  exact l1In_some _ _ _ _ (decide_eq_decide.mpr (by omega))
theorem spec_exch (a b i j : Int) {k : Nat} (hk : 80 < k) : spec_AreExchangeable.f k a b i j = some (exchB a b i j) := by
  obtain ⟨k, rfl⟩ : ∃ m, k = m + 1 := ⟨k - 1, by omega⟩
  unfold spec_AreExchangeable.f exchB
  rw [spec_isTable]
  simp only [Option.bind_some]
  cases hT : isTab a b with
  | false => simp only [Bool.false_and, if_neg (show ¬ (false = true) by decide), spec_AreExchangeable.j0, if_true]
  | true =>
    obtain ⟨n, w, rfl, rfl, ht⟩ := tab_of hT
    have hn := ht.1
    have hM := pow_le ht.1
    simp only [if_true, Bool.true_and]
    rw [l1In_var i hn, l1In_var j hn]
    simp only [Option.bind_some]
    by_cases hi : 0 ≤ i ∧ i < (n : Int)
    · rw [decide_eq_true hi, if_pos rfl]
      by_cases hj : 0 ≤ j ∧ j < (n : Int)
      · obtain ⟨i, rfl⟩ := Int.eq_ofNat_of_zero_le hi.1
        obtain ⟨j, rfl⟩ := Int.eq_ofNat_of_zero_le hj.1
        simp only [decide_eq_true hj, spec_AreExchangeable.j0, Bool.not_true, if_neg (show ¬ (false = true) by decide), Int.toNat_natCast, Bool.true_and]
        exact spec_exch_loop ht (by omega) (by omega) (2 ^ n) k 0 (by omega) (by omega) rfl
      · simp only [decide_eq_false hj, spec_AreExchangeable.j0, Bool.not_false, if_true, Bool.false_and, Bool.and_false]
    · simp only [decide_eq_false hi, if_neg (show ¬ (false = true) by decide), spec_AreExchangeable.j0, if_true, Bool.false_and]
end Go.Proofs.Yticfnpfagadcoaa.U
