/- The first least weights of a table: both ways. -/
import Derived.Test.YtgcflignpeencaaUG
import Derived.Test.YtgcflignpeencaaUSum
import Derived.Test.YtgcflignpeencaaFimplWeightsFor
import Derived.Test.YtgcflignpeencaaFspecWeightsFor
namespace Go.Proofs.Ytgcflignpeencaa.U
open Go.RowKit Go.Proofs.YtgcflignpeencaaW.PrintWords Go.Proofs.YtgcflignpeencaaW.PrintLast Go.Proofs.YtgcflignpeencaaW.PrintMore Go.Proofs.Ytgcflignpeencaa.F Go.Proofs.Ytgcflignpeencaa.B
set_option linter.unusedVariables false
set_option linter.unusedSimpArgs false
set_option maxRecDepth 100000
/-! ### The threshold -/
/-- The least sum of a one (100: none) and the greatest of a zero (-100: none), of the first inputs. -/
def fitS (L : List Int) (w : Nat) : Nat → Int × Int
  | 0 => (100, -100)
  | x + 1 => if w.testBit x = true then (min (fitS L w x).1 (sumW L x L.length), (fitS L w x).2) else ((fitS L w x).1, max (fitS L w x).2 (sumW L x L.length))
def fitR (L : List Int) (w M : Nat) : Int × Bool := if (fitS L w M).1 = 100 then ((fitS L w M).2 + 1, true) else ((fitS L w M).1, decide ((fitS L w M).2 < (fitS L w M).1))
theorem sum_small {L : List Int} (h : Light 3 L) (hl : L.length ≤ 4) (x : Nat) : -12 ≤ sumW L x L.length ∧ sumW L x L.length ≤ 12 := by
  have := sumW_le h x L.length (Nat.le_refl _)
  omega
theorem fitS_inv {L : List Int} (h : Light 3 L) (hl : L.length ≤ 4) (w : Nat) : ∀ x, ((fitS L w x).1 = 100 ∨ (-12 ≤ (fitS L w x).1 ∧ (fitS L w x).1 ≤ 12)) ∧ ((fitS L w x).2 = -100 ∨ (-12 ≤ (fitS L w x).2 ∧ (fitS L w x).2 ≤ 12)) ∧ ((fitS L w x).1 = 100 → (fitS L w x).2 = -100 → x = 0)
  | 0 => ⟨.inl rfl, .inl rfl, fun _ _ => rfl⟩
  | x + 1 => by
    have ih := fitS_inv h hl w x
    have hs := sum_small h hl x
    rw [fitS]
    split
    · refine ⟨.inr ?_, ih.2.1, fun q => ?_⟩ <;> simp only [] at * <;> omega
    · refine ⟨ih.1, .inr ?_, fun _ q => ?_⟩ <;> simp only [] at * <;> omega
theorem mn_eq (a b : Int) : mn a b = min a b := by unfold mn; split <;> omega
theorem mx_eq (a b : Int) : mx a b = max a b := by unfold mx; split <;> omega
theorem spec_fits_loop {n w : Nat} {L : List Int} (ht : Tab n w) (h : Light 3 L) (hl : L.length ≤ 4) : ∀ (d k x : Nat), x + d = 2 ^ n → d + 10 < k →
    spec_l16Fits.l0 k L (fitS L w x).1 (fitS L w x).2 x n w = some (fitR L w (2 ^ n)) := by
  have hM := pow_le ht.1
  have hn := ht.1
  intro d
  induction d with
  | zero =>
    intro k x hx hk
    obtain ⟨k, rfl⟩ : ∃ m, k = m + 1 := ⟨k - 1, by omega⟩
    obtain rfl : x = 2 ^ n := by omega
    have hi := fitS_inv h hl w (2 ^ n)
    simp only [spec_l16Fits.l0]
    rw [if_pos (Int.natCast_nonneg _), shl1_of (by omega), if_neg (by omega)]
    unfold fitR
    by_cases hq : (fitS L w (2 ^ n)).1 = 100
    · rw [if_pos hq, if_pos hq, wrap64_of (by omega) (by omega)]
    · rw [if_neg hq, if_neg hq]
  | succ d ih =>
    intro k x hx hk
    obtain ⟨k, rfl⟩ : ∃ m, k = m + 1 := ⟨k - 1, by omega⟩
    have hnext := ih k (x + 1) (by omega) (by omega)
    simp only [spec_l16Fits.l0]
    rw [if_pos (Int.natCast_nonneg _), shl1_of (by omega), if_pos (by omega), spec_weight (c := 3) h (by omega) (by omega) (by omega) (by omega), Option.bind_some, if_pos (Int.natCast_nonneg _), bit_cast ht.lt63 (by omega), wrap64_succ (by omega), mn_eq, mx_eq]
    rw [fitS] at hnext
    by_cases hb : w.testBit x = true
    · rw [if_pos (bito.mpr hb)]
      rw [if_pos hb] at hnext
      exact hnext
    · rw [if_neg (fun q => hb (bito.mp q))]
      rw [if_neg hb] at hnext
      exact hnext
theorem spec_fits {n w k : Nat} {L : List Int} (ht : Tab n w) (h : Light 3 L) (hl : L.length ≤ 4) (hk : 60 < k) : spec_l16Fits.f k n w L = some (fitR L w (2 ^ n)) := by
  have hM := pow_le ht.1
  exact spec_fits_loop ht h hl (2 ^ n) k 0 (by omega) (by omega)
/-- What the program holds. -/
def loI (p : Int × Int) : Int := if p.1 = 100 then 0 else p.1
def hiI (p : Int × Int) : Int := if p.2 = -100 then 0 else p.2
theorem impl_thr_loop {n w : Nat} {L : List Int} (ht : Tab n w) (h : Light 3 L) (hl : L.length ≤ 4) : ∀ (d k x : Nat), x + d = 2 ^ n → 2 * d + 10 < k →
    impl_Table_threshold.l0 k L (loI (fitS L w x)) (hiI (fitS L w x)) (!decide ((fitS L w x).1 = 100)) (decide ((fitS L w x).2 = -100)) ((2 ^ n : Nat) : Int) x n w = some (fitR L w (2 ^ n)) := by
  have hM := pow_le ht.1
  have hn := ht.1
  have hp := pow_pos n
  intro d
  induction d with
  | zero =>
    intro k x hx hk
    obtain ⟨k, rfl⟩ : ∃ m, k = m + 1 := ⟨k - 1, by omega⟩
    obtain rfl : x = 2 ^ n := by omega
    have hi := fitS_inv h hl w (2 ^ n)
    simp only [impl_Table_threshold.l0]
    rw [if_neg (by omega)]
    unfold fitR loI hiI
    by_cases hq : (fitS L w (2 ^ n)).1 = 100
    · have h2 : ¬ (fitS L w (2 ^ n)).2 = -100 := fun q => by have := hi.2.2 hq q; omega
      rw [decide_eq_true hq, Bool.not_true, if_neg (by decide), if_pos hq, if_neg h2, wrap64_of (by omega) (by omega)]
    · rw [decide_eq_false hq, Bool.not_false, if_pos rfl, if_neg hq, if_neg hq]
      by_cases h2 : (fitS L w (2 ^ n)).2 = -100
      · rw [decide_eq_true h2, if_pos rfl, decide_eq_true (show (fitS L w (2 ^ n)).2 < (fitS L w (2 ^ n)).1 by omega)]
      · rw [decide_eq_false h2, if_neg (by decide), if_neg h2]
  | succ d ih =>
    intro k x hx hk
    obtain ⟨k, rfl⟩ : ∃ m, k = m + 2 := ⟨k - 2, by omega⟩
    have hnext := ih k (x + 1) (by omega) (by omega)
    have hi := fitS_inv h hl w x
    have hs := sum_small h hl x
    have hat : impl_Table_at.f n w x = some ((bitN w x : Nat) : Int) := at_some' ht.lt63 (by omega)
    simp only [impl_Table_threshold.l0]
    rw [if_pos (by omega), impl_weight (c := 3) h (by omega) (by omega) (by omega) (by omega), Option.bind_some, hat, Option.bind_some]
    rw [fitS] at hnext
    generalize fitS L w x = p at hnext hi ⊢
    obtain ⟨lo, hh⟩ := p
    generalize sumW L x L.length = s at hnext hs ⊢
    simp only [loI, hiI] at hi hnext ⊢
    by_cases hb : w.testBit x = true
    · have e1 : ((bitN w x : Nat) : Int) = 1 := bito.mpr hb
      rw [if_pos hb] at hnext
      rw [e1, if_pos rfl]
      have hend : impl_Table_threshold.l0 k L s (if hh = -100 then 0 else hh) true (decide (hh = -100)) ((2 ^ n : Nat) : Int) (wrap64 ((x : Int) + 1)) n w = some (fitR L w (2 ^ n)) → min lo s = s → impl_Table_threshold.j1 (k + 1) L (if lo = 100 then 0 else lo) (if hh = -100 then 0 else hh) (!decide (lo = 100)) (decide (hh = -100)) x s ((2 ^ n : Nat) : Int) x true n w = some (fitR L w (2 ^ n)) := by
        intro hz _
        simp only [impl_Table_threshold.j1]
        rw [if_pos trivial, hat, Option.bind_some, e1, if_neg (by decide)]
        exact hz
      by_cases hq : lo = 100
      · rw [decide_eq_true hq, Bool.not_true, if_neg (by decide)]
        have hm : min lo s = s := by omega
        rw [hm, decide_eq_false (show ¬ s = 100 by omega), if_neg (show ¬ s = 100 by omega)] at hnext
        have := hend (by rw [wrap64_succ (by omega)]; exact hnext) hm
        rw [decide_eq_true hq, Bool.not_true] at this
        exact this
      · rw [decide_eq_false hq, Bool.not_false, if_pos rfl, if_neg hq]
        by_cases hlt : s < lo
        · have hm : min lo s = s := by omega
          rw [hm, decide_eq_false (show ¬ s = 100 by omega), if_neg (show ¬ s = 100 by omega)] at hnext
          have := hend (by rw [wrap64_succ (by omega)]; exact hnext) hm
          rw [decide_eq_false hq, Bool.not_false, if_neg hq] at this
          rw [decide_eq_true hlt]
          exact this
        · have hm : min lo s = lo := by omega
          rw [hm, decide_eq_false hq, if_neg hq] at hnext
          rw [decide_eq_false hlt]
          simp only [impl_Table_threshold.j1]
          rw [if_neg (by decide), hat, Option.bind_some, e1, if_neg (by decide), wrap64_succ (by omega)]
          exact hnext
    · have e1 : ((bitN w x : Nat) : Int) = 0 := bitz.mpr (by simpa using hb)
      rw [if_neg hb] at hnext
      rw [e1, if_neg (by decide)]
      simp only [impl_Table_threshold.j1]
      rw [if_neg (by decide), hat, Option.bind_some, e1, if_pos rfl, wrap64_succ (by omega)]
      by_cases hq : hh = -100
      · have hm : max hh s = s := by omega
        rw [hm, decide_eq_false (show ¬ s = -100 by omega), if_neg (show ¬ s = -100 by omega)] at hnext
        rw [decide_eq_true hq, if_pos rfl]
        exact hnext
      · rw [decide_eq_false hq, if_neg (by decide), if_neg hq]
        by_cases hgt : s > hh
        · have hm : max hh s = s := by omega
          rw [hm, decide_eq_false (show ¬ s = -100 by omega), if_neg (show ¬ s = -100 by omega)] at hnext
          rw [if_pos hgt]
          exact hnext
        · have hm : max hh s = hh := by omega
          rw [hm, decide_eq_false hq, if_neg hq] at hnext
          rw [if_neg hgt]
          exact hnext
theorem impl_thr {n w k : Nat} {L : List Int} (ht : Tab n w) (h : Light 3 L) (hl : L.length ≤ 4) (hk : 80 < k) : impl_Table_threshold.f k n w L = some (fitR L w (2 ^ n)) := by
  have hM := pow_le ht.1
  have hn := ht.1
  unfold impl_Table_threshold.f
  rw [size_some _ (by omega), Option.bind_some]
  exact impl_thr_loop ht h hl (2 ^ n) k 0 (by omega) (by omega)
/-! ### Sizes -/
def absI (a : Int) : Int := max a (-a)
def sizeW (L : List Int) : Nat → Int
  | 0 => 0
  | m + 1 => sizeW L m + absI (rd L m)
theorem sizeW_le {L : List Int} (h : Light 3 L) : ∀ m, m ≤ L.length → 0 ≤ sizeW L m ∧ sizeW L m ≤ ((3 * m : Nat) : Int)
  | 0, _ => ⟨Int.le_refl _, Int.le_refl _⟩
  | m + 1, hm => by
    have ih := sizeW_le h m (by omega)
    have h2 := h m (by omega)
    rw [sizeW]
    unfold absI
    omega
theorem abs_some {a : Int} (h : -3 ≤ a ∧ a ≤ 3) : mx a (wrap64 (-a)) = absI a := by rw [wrap64_of (by omega) (by omega), mx_eq]; rfl
theorem impl_sizes_loop {L : List Int} (h : Light 3 L) (hl : L.length ≤ 4) : ∀ (d k i : Nat), i + d = L.length → d < k → impl_sumOfSizes.l0 k (sizeW L i) L (L.length : Int) i = some (sizeW L L.length) := by
  intro d
  induction d with
  | zero =>
    intro k i hi hk
    obtain ⟨k, rfl⟩ : ∃ m, k = m + 1 := ⟨k - 1, by omega⟩
    obtain rfl : i = L.length := by omega
    simp only [impl_sumOfSizes.l0]
    rw [if_neg (by omega)]
  | succ d ih =>
    intro k i hi hk
    obtain ⟨k, rfl⟩ : ∃ m, k = m + 1 := ⟨k - 1, by omega⟩
    have h1 := sizeW_le h i (by omega)
    have h2 := h i (by omega)
    have h3 := sizeW_le h (i + 1) (by omega)
    have hs : impl_size1.f (rd L i) = some (absI (rd L i)) := by unfold impl_size1.f; rw [abs_some (by omega)]
    simp only [impl_sumOfSizes.l0]
    rw [if_pos (by omega), if_pos (Int.natCast_nonneg _), if_pos (by omega), hs, Option.bind_some, wrap64_succ (by omega), show wrap64 (sizeW L i + absI (rd L i)) = sizeW L (i + 1) by rw [sizeW] at h3 ⊢; exact wrap64_of (by omega) (by omega)]
    exact ih k (i + 1) (by omega) (by omega)
theorem impl_sizes {L : List Int} (h : Light 3 L) (hl : L.length ≤ 4) {k : Nat} (hk : 10 < k) : impl_sumOfSizes.f k L = some (sizeW L L.length) := impl_sizes_loop h hl L.length k 0 (by omega) (by omega)
/-! ### The weights in order -/
/-- The weights with a number. -/
def wOf (n code : Nat) : List Int := listN (fun i => (((code / 7 ^ (n - 1 - i)) % 7 : Nat) : Int) - 3) n
theorem wOf_length (n code : Nat) : (wOf n code).length = n := listN_length _ _
theorem wOf_rd {n code i : Nat} (h : i < n) : rd (wOf n code) i = (((code / 7 ^ (n - 1 - i)) % 7 : Nat) : Int) - 3 := listN_get h
theorem wOf_light (n code : Nat) : Light 3 (wOf n code) := by
  intro i hi
  rw [wOf_length] at hi
  rw [wOf_rd hi]
  omega
/-- The next weights, as the program counts. -/
def odo : Nat → List Int → Int → Option (List Int)
  | 0, _, _ => none
  | k + 1, L, i => if i < 0 then none else if rd L i = 3 then odo k (L.set i.toNat (-3)) (i - 1) else some (L.set i.toNat (rd L i + 1))
theorem odo_next {n code : Nat} (hn : n ≤ 4) (hc : code < 7 ^ n) : odo 6 (wOf n code) ((n : Int) - 1) = if code + 1 < 7 ^ n then some (wOf n (code + 1)) else none := by
  have hp : 7 ^ n ≤ 7 ^ 4 := Nat.pow_le_pow_right (by decide) hn
  have h0 : ∀ n : Fin 5, ∀ a : Fin 49, ∀ b : Fin 49, 49 * a.val + b.val < 7 ^ n.val → odo 6 (wOf n.val (49 * a.val + b.val)) (((n.val : Nat) : Int) - 1) = if 49 * a.val + b.val + 1 < 7 ^ n.val then some (wOf n.val (49 * a.val + b.val + 1)) else none := by decide +kernel
  have h1 := h0 ⟨n, by omega⟩ ⟨code / 49, by omega⟩ ⟨code % 49, by omega⟩
  simp only [Nat.div_add_mod] at h1
  exact h1 hc
theorem impl_odo {n w : Nat} (B : List Int) (t : Int) (f : Bool) : ∀ (fuel k : Nat) (L : List Int) (i : Int), -1 ≤ i → i < (L.length : Int) → i + 1 < fuel → Light 3 L → L.length ≤ 4 → fuel < k → ∃ k', k ≤ k' + fuel + 1 ∧
    impl_WeightsFor.l1 k L B t f i n w = match odo fuel L i with
      | none => some (B, t, f)
      | some L' => impl_WeightsFor.l0 k' L' B t f n w := by
  intro fuel
  induction fuel with
  | zero => intro k L i h1 h2 h3; omega
  | succ fuel ih =>
    intro k L i h1 h2 h3 hL hl hk
    obtain ⟨k, rfl⟩ : ∃ m, k = m + 1 := ⟨k - 1, by omega⟩
    rw [odo]
    by_cases h0 : i < 0
    · refine ⟨k, by omega, ?_⟩
      rw [if_pos h0]
      simp only [impl_WeightsFor.l1]
      rw [if_neg (by omega), if_pos h0]
    · obtain ⟨j, rfl⟩ := Int.eq_ofNat_of_zero_le (show 0 ≤ i by omega)
      have hj : j < L.length := by omega
      have hlt := hL j hj
      rw [if_neg h0]
      by_cases h4 : rd L j = 3
      · have hL' : Light 3 (L.set j (-3)) := by
          intro q hq
          rw [List.length_set] at hq
          unfold rd
          rw [Int.toNat_natCast, List.getD_eq_getElem?_getD, List.getElem?_set]
          by_cases e : j = q
          · subst e; simp [hj]
          · rw [if_neg e]; have := hL q hq; unfold rd at this; rw [Int.toNat_natCast, List.getD_eq_getElem?_getD] at this; exact this
        obtain ⟨k', hk', e⟩ := ih k (L.set j (-3)) ((j : Int) - 1) (by omega) (by rw [List.length_set]; omega) (by omega) hL' (by rw [List.length_set]; exact hl) (by omega)
        refine ⟨k', by omega, ?_⟩
        rw [if_pos h4]
        simp only [impl_WeightsFor.l1]
        rw [if_pos (by omega), if_pos (by omega), if_pos h2, if_pos h4, Int.toNat_natCast, wrap64_of (by omega) (by omega)]
        exact e
      · refine ⟨k, by omega, ?_⟩
        rw [if_neg h4]
        simp only [impl_WeightsFor.l1]
        rw [if_pos (by omega), if_pos (by omega), if_pos h2, if_neg h4, if_neg h0, wrap64_of (by omega) (by omega)]
/-- What is found: weights, their size (100: nothing), the threshold. -/
def stepW (n w code : Nat) (S : List Int × Int × Int) : List Int × Int × Int :=
  if sizeW (wOf n code) n < S.2.1 ∧ (fitR (wOf n code) w (2 ^ n)).2 = true then (wOf n code, sizeW (wOf n code) n, (fitR (wOf n code) w (2 ^ n)).1) else S
def iterW (n w : Nat) : Nat → Nat → List Int × Int × Int → List Int × Int × Int
  | 0, _, S => S
  | d + 1, code, S => iterW n w d (code + 1) (stepW n w code S)
/-- What holds of what is found. -/
def okW (n : Nat) (S : List Int × Int × Int) : Prop := S.2.1 = 100 ∨ (S.2.1 ≤ 12 ∧ S.1.length = n ∧ Light 3 S.1 ∧ S.2.1 = sizeW S.1 n)
theorem okW_step {n w code : Nat} {S : List Int × Int × Int} (hn : n ≤ 4) (h : okW n S) : okW n (stepW n w code S) := by
  unfold stepW
  split
  · have := sizeW_le (wOf_light n code) n (by rw [wOf_length]; exact Nat.le_refl _)
    exact .inr ⟨by show sizeW (wOf n code) n ≤ 12; omega, wOf_length _ _, wOf_light _ _, rfl⟩
  · exact h
/-- One round of the program, up to its count. -/
theorem impl_wei_step {n w code : Nat} (ht : Tab n w) (hn : n ≤ 4) {k : Nat} (hk : 100 < k) {S : List Int × Int × Int} (ho : okW n S) :
    impl_WeightsFor.l0 (k + 3) (wOf n code) S.1 S.2.2 (decide (S.2.1 < 100)) n w = impl_WeightsFor.l1 k (wOf n code) (stepW n w code S).1 (stepW n w code S).2.2 (decide ((stepW n w code S).2.1 < 100)) ((n : Int) - 1) n w := by
  have hL := wOf_light n code
  have hlen := wOf_length n code
  have hz := sizeW_le hL n (by rw [hlen]; exact Nat.le_refl _)
  have hj2 : ∀ B t f, impl_WeightsFor.j2 (k + 1) (wOf n code) B t f n w = impl_WeightsFor.l1 k (wOf n code) B t f ((n : Int) - 1) n w := by
    intro B t f
    simp only [impl_WeightsFor.j2]
    rw [wrap64_of (by omega) (by omega)]
  have hno : impl_WeightsFor.j1 (k + 2) (wOf n code) S.1 S.2.2 (decide (S.2.1 < 100)) (fitR (wOf n code) w (2 ^ n)).1 false n w = impl_WeightsFor.l1 k (wOf n code) S.1 S.2.2 (decide (S.2.1 < 100)) ((n : Int) - 1) n w := by
    simp only [impl_WeightsFor.j1]
    rw [if_neg (by decide), hj2]
  have hyes : impl_WeightsFor.j1 (k + 2) (wOf n code) S.1 S.2.2 (decide (S.2.1 < 100)) (fitR (wOf n code) w (2 ^ n)).1 true n w = impl_WeightsFor.l1 k (wOf n code) (wOf n code) (fitR (wOf n code) w (2 ^ n)).1 true ((n : Int) - 1) n w := by
    simp only [impl_WeightsFor.j1]
    rw [if_pos trivial]
    unfold slices_Clone_int_int.f
    rw [if_pos (by rw [hlen]; omega), Option.bind_some, hj2]
  simp only [impl_WeightsFor.l0]
  rw [impl_thr ht hL (by omega) (by omega), Option.bind_some]
  cases hf : (fitR (wOf n code) w (2 ^ n)).2 with
  | false =>
    rw [if_neg (by decide), hno]
    unfold stepW
    rw [if_neg (fun q => by rw [hf] at q; cases q.2)]
  | true =>
    rw [if_pos rfl]
    rcases ho with h | ⟨h1, h2, h3, h4⟩
    · rw [decide_eq_false (show ¬ S.2.1 < 100 by omega), if_neg (by decide)] at *
      rw [hyes]
      unfold stepW
      rw [if_pos ⟨by omega, hf⟩, decide_eq_true (show sizeW (wOf n code) n < 100 by omega)]
    · have h100 : decide (S.2.1 < 100) = true := decide_eq_true (by omega)
      have e1 := impl_sizes hL (by omega) (k := k + 2) (by omega)
      have e2 := impl_sizes h3 (by omega) (k := k + 2) (by omega)
      rw [hlen] at e1
      rw [h2, ← h4] at e2
      rw [h100] at hyes hno ⊢
      rw [if_pos rfl, e1, Option.bind_some, e2, Option.bind_some]
      by_cases hlt : sizeW (wOf n code) n < S.2.1
      · rw [decide_eq_true hlt, hyes]
        unfold stepW
        rw [if_pos ⟨hlt, hf⟩, decide_eq_true (show sizeW (wOf n code) n < 100 by omega)]
      · rw [decide_eq_false hlt, hno]
        unfold stepW
        rw [if_neg (fun q => hlt q.1), h100]
theorem impl_wei_loop {n w : Nat} (ht : Tab n w) (hn : n ≤ 4) : ∀ (d k code : Nat) (S : List Int × Int × Int), code + d + 1 = 7 ^ n → d * 20 + 120 < k → okW n S →
    impl_WeightsFor.l0 k (wOf n code) S.1 S.2.2 (decide (S.2.1 < 100)) n w = some ((iterW n w (d + 1) code S).1, (iterW n w (d + 1) code S).2.2, decide ((iterW n w (d + 1) code S).2.1 < 100)) := by
  have hp : 7 ^ n ≤ 7 ^ 4 := Nat.pow_le_pow_right (by decide) hn
  intro d
  induction d with
  | zero =>
    intro k code S hd hk ho
    obtain ⟨k, rfl⟩ : ∃ m, k = m + 3 := ⟨k - 3, by omega⟩
    obtain ⟨k', hk', e⟩ := impl_odo (n := n) (w := w) (stepW n w code S).1 (stepW n w code S).2.2 (decide ((stepW n w code S).2.1 < 100)) 6 k (wOf n code) ((n : Int) - 1) (by omega) (by rw [wOf_length]; omega) (by omega) (wOf_light n code) (by rw [wOf_length]; omega) (by omega)
    rw [impl_wei_step ht hn (by omega) ho, e, odo_next hn (by omega), if_neg (by omega)]
    rfl
  | succ d ih =>
    intro k code S hd hk ho
    obtain ⟨k, rfl⟩ : ∃ m, k = m + 3 := ⟨k - 3, by omega⟩
    obtain ⟨k', hk', e⟩ := impl_odo (n := n) (w := w) (stepW n w code S).1 (stepW n w code S).2.2 (decide ((stepW n w code S).2.1 < 100)) 6 k (wOf n code) ((n : Int) - 1) (by omega) (by rw [wOf_length]; omega) (by omega) (wOf_light n code) (by rw [wOf_length]; omega) (by omega)
    rw [impl_wei_step ht hn (by omega) ho, e, odo_next hn (by omega), if_pos (by omega)]
    exact ih k' (code + 1) (stepW n w code S) (by omega) (by omega) (okW_step hn ho)
/-- What both say. -/
def weiI (a b : Int) : List Int × Int × Bool := if (isTab a b && decide (a ≤ 4)) = true then ((iterW a.toNat b.toNat (7 ^ a.toNat) 0 ([], 100, 0)).1, (iterW a.toNat b.toNat (7 ^ a.toNat) 0 ([], 100, 0)).2.2, decide ((iterW a.toNat b.toNat (7 ^ a.toNat) 0 ([], 100, 0)).2.1 < 100)) else ([], 0, false)
theorem wOf_zero {n : Nat} (hn : n ≤ 4) : List.replicate n (-3 : Int) = wOf n 0 := by
  have h : ∀ n : Fin 5, List.replicate n.val (-3 : Int) = wOf n.val 0 := by decide +kernel
  exact h ⟨n, by omega⟩
theorem impl_wei {a b : Int} (h0 : -9223372036854775808 ≤ b) (h1 : b ≤ 9223372036854775807) {k : Nat} (hk : 50000 < k) : impl_WeightsFor.f k a b = some (weiI a b) := by
  unfold impl_WeightsFor.f impl_isSmall.f weiI
  rw [impl_isTable h0 h1, Option.bind_some]
  cases hT : isTab a b with
  | false => rw [if_neg (by decide), Option.bind_some, if_neg (by decide), Bool.false_and, if_neg (by decide)]
  | true =>
    obtain ⟨n, w, rfl, rfl, ht⟩ := tab_of hT
    rw [if_pos rfl, Option.bind_some, Bool.true_and]
    by_cases hn : (n : Int) ≤ 4
    · have hn4 : n ≤ 4 := by omega
      have hp : 7 ^ n ≤ 7 ^ 4 := Nat.pow_le_pow_right (by decide) hn4
      have hpp : 0 < 7 ^ n := Nat.pow_pos (by decide)
      obtain ⟨d, hd⟩ : ∃ d, 7 ^ n = d + 1 := ⟨7 ^ n - 1, by omega⟩
      rw [decide_eq_true hn, if_pos rfl, if_pos rfl]
      unfold slices_Repeat_int_int.f
      rw [if_pos ⟨rfl, by omega, by omega⟩, Option.bind_some, Int.toNat_natCast, Int.toNat_natCast, show rd [(-3 : Int)] 0 = -3 from rfl, wOf_zero hn4, hd]
      exact impl_wei_loop ht hn4 d k 0 ([], 100, 0) (by omega) (by omega) (.inl rfl)
    · rw [decide_eq_false hn, if_neg (by decide), if_neg (by decide)]
/-! ### The reference -/
/-- The sum of the sizes from i on. -/
def sufW (L : List Int) (n : Nat) : Nat → Int
  | 0 => 0
  | t + 1 => sufW L n t + absI (rd L ((n - 1 - t : Nat) : Int))
theorem suf_all {n : Nat} (hn : n ≤ 4) (L : List Int) : sufW L n n = sizeW L n := by
  rcases (show n = 0 ∨ n = 1 ∨ n = 2 ∨ n = 3 ∨ n = 4 by omega) with rfl | rfl | rfl | rfl | rfl
  · rfl
  · rfl
  · show 0 + absI (rd L ((1 : Nat) : Int)) + absI (rd L ((0 : Nat) : Int)) = 0 + absI (rd L ((0 : Nat) : Int)) + absI (rd L ((1 : Nat) : Int)); omega
  · show 0 + absI (rd L ((2 : Nat) : Int)) + absI (rd L ((1 : Nat) : Int)) + absI (rd L ((0 : Nat) : Int)) = 0 + absI (rd L ((0 : Nat) : Int)) + absI (rd L ((1 : Nat) : Int)) + absI (rd L ((2 : Nat) : Int)); omega
  · show 0 + absI (rd L ((3 : Nat) : Int)) + absI (rd L ((2 : Nat) : Int)) + absI (rd L ((1 : Nat) : Int)) + absI (rd L ((0 : Nat) : Int)) = 0 + absI (rd L ((0 : Nat) : Int)) + absI (rd L ((1 : Nat) : Int)) + absI (rd L ((2 : Nat) : Int)) + absI (rd L ((3 : Nat) : Int)); omega
/-- The list when the last t weights are set. -/
def partL (n code t : Nat) : List Int := listN (fun i => if n - t ≤ i then (((code / 7 ^ (n - 1 - i)) % 7 : Nat) : Int) - 3 else 0) n
theorem partL_step {n code t : Nat} (h : t < n) : (partL n code t).set (n - 1 - t) ((((code / 7 ^ t) % 7 : Nat) : Int) - 3) = partL n code (t + 1) := by
  unfold partL
  refine listN_set ?_ fun j hj => ?_
  · rw [if_pos (by omega), show n - 1 - (n - 1 - t) = t by omega]
  · by_cases hq : n - t ≤ j
    · rw [if_pos hq, if_pos (by omega)]
    · rw [if_neg hq, if_neg (by omega)]
theorem partL_all (n code : Nat) : partL n code n = wOf n code := by
  refine listN_congr fun i hi => ?_
  rw [if_pos (by omega)]
theorem partL_zero (n code : Nat) : List.replicate n (0 : Int) = partL n code 0 := by
  rw [listN_const]
  exact listN_congr fun i hi => by rw [if_neg (by omega)]
theorem spec_wei_l2 {n w code N : Nat} (ht : Tab n w) (hn : n ≤ 4) (hc : code < 7 ^ n) (S : List Int × Int × Int) : ∀ (d k t : Nat), t + d = n → d + 100 < k →
    spec_WeightsFor.l2 k (N : Nat) S.1 S.2.1 S.2.2 code (partL n code t) ((code / 7 ^ t : Nat) : Int) (sufW (wOf n code) n t) ((n : Int) - 1 - (t : Int)) n w = spec_WeightsFor.l1 (k - d - 1) N (stepW n w code S).1 (stepW n w code S).2.1 (stepW n w code S).2.2 ((code + 1 : Nat) : Int) n w := by
  have hp : 7 ^ n ≤ 7 ^ 4 := Nat.pow_le_pow_right (by decide) hn
  have hL := wOf_light n code
  have hlen := wOf_length n code
  have hz := sizeW_le hL n (by rw [hlen]; exact Nat.le_refl _)
  intro d
  induction d with
  | zero =>
    intro k t hd hk
    obtain ⟨k, rfl⟩ : ∃ m, k = m + 1 := ⟨k - 1, by omega⟩
    obtain rfl : t = n := by omega
    simp only [spec_WeightsFor.l2]
    rw [if_neg (by omega), suf_all hn, partL_all]
    unfold stepW
    by_cases h1 : sizeW (wOf t code) t ≥ S.2.1
    · rw [if_pos h1, if_neg (fun q => by omega), wrap64_succ (by omega)]
      rfl
    · rw [if_neg h1, spec_fits ht hL (by omega) (by omega), Option.bind_some]
      by_cases h2 : (fitR (wOf t code) w (2 ^ t)).2 = true
      · rw [if_pos h2, if_pos ⟨by omega, h2⟩, wrap64_succ (by omega)]
        rfl
      · rw [if_neg h2, if_neg (fun q => h2 q.2), wrap64_succ (by omega)]
        rfl
  | succ d ih =>
    intro k t hd hk
    obtain ⟨k, rfl⟩ : ∃ m, k = m + 1 := ⟨k - 1, by omega⟩
    have hi : ((n : Int) - 1 - (t : Int)) = ((n - 1 - t : Nat) : Int) := by omega
    have hle : code / 7 ^ t ≤ code := Nat.div_le_self _ _
    have hlt : code < 7 ^ 4 := by omega
    have hdig : wrap64 (Int.tmod ((code / 7 ^ t : Nat) : Int) 7 - 3) = (((code / 7 ^ t) % 7 : Nat) : Int) - 3 := by
      generalize code / 7 ^ t = q at hle ⊢
      rw [Int.tmod_eq_emod_of_nonneg (Int.natCast_nonneg _), show ((q : Int) % 7) = ((q % 7 : Nat) : Int) by omega, wrap64_of (by omega) (by omega)]
    have hdiv : wrap64 (Int.tdiv ((code / 7 ^ t : Nat) : Int) 7) = ((code / 7 ^ (t + 1) : Nat) : Int) := by
      rw [show code / 7 ^ (t + 1) = code / 7 ^ t / 7 by rw [Nat.div_div_eq_div_mul, ← Nat.pow_succ]]
      generalize code / 7 ^ t = q at hle ⊢
      rw [Int.tdiv_eq_ediv_of_nonneg (Int.natCast_nonneg _), show ((q : Int) / 7) = ((q / 7 : Nat) : Int) by omega, wrap64_of (by omega) (by omega)]
    have hrd : rd (partL n code (t + 1)) ((n - 1 - t : Nat) : Int) = (((code / 7 ^ t) % 7 : Nat) : Int) - 3 := by
      unfold partL
      rw [listN_get (by omega), if_pos (by omega), show n - 1 - (n - 1 - t) = t by omega]
    have hrw : rd (wOf n code) ((n - 1 - t : Nat) : Int) = (((code / 7 ^ t) % 7 : Nat) : Int) - 3 := by
      rw [wOf_rd (by omega), show n - 1 - (n - 1 - t) = t by omega]
    have hsuf : ∀ u, u ≤ n → 0 ≤ sufW (wOf n code) n u ∧ sufW (wOf n code) n u ≤ 3 * (u : Int) := by
      intro u
      induction u with
      | zero => intro _; exact ⟨Int.le_refl _, Int.le_refl _⟩
      | succ u ihu =>
        intro hu
        have h1 := ihu (by omega)
        have h2 := hL (n - 1 - u) (by rw [hlen]; omega)
        rw [sufW]
        unfold absI
        omega
    have hs1 := hsuf t (by omega)
    have hs2 := hsuf (t + 1) (by omega)
    rw [sufW, hrw] at hs2
    simp only [spec_WeightsFor.l2]
    rw [hi, if_pos (by omega), if_pos (by omega), if_pos (by unfold partL; rw [listN_length]; omega), Int.toNat_natCast, hdig, partL_step (by omega), Option.bind_some, hrd, hdiv, abs_some (by omega), show wrap64 (sufW (wOf n code) n t + absI ((((code / 7 ^ t) % 7 : Nat) : Int) - 3)) = sufW (wOf n code) n (t + 1) by rw [sufW, hrw]; exact wrap64_of (by omega) (by omega), show wrap64 (((n - 1 - t : Nat) : Int) - 1) = (n : Int) - 1 - ((t + 1 : Nat) : Int) by rw [wrap64_of (by omega) (by omega)]; omega, show k + 1 - (d + 1) - 1 = k - d - 1 by omega]
    exact ih k (t + 1) (by omega) (by omega)
theorem spec_wei_l1 {n w : Nat} (ht : Tab n w) (hn : n ≤ 4) : ∀ (d k code : Nat) (S : List Int × Int × Int), code + d = 7 ^ n → d * 20 + 200 < k →
    spec_WeightsFor.l1 k ((7 ^ n : Nat) : Int) S.1 S.2.1 S.2.2 code n w = some ((iterW n w d code S).1, (iterW n w d code S).2.2, decide ((iterW n w d code S).2.1 < 100)) := by
  have hp : 7 ^ n ≤ 7 ^ 4 := Nat.pow_le_pow_right (by decide) hn
  intro d
  induction d with
  | zero =>
    intro k code S hd hk
    obtain ⟨k, rfl⟩ : ∃ m, k = m + 1 := ⟨k - 1, by omega⟩
    simp only [spec_WeightsFor.l1]
    rw [if_neg (by omega)]
    rfl
  | succ d ih =>
    intro k code S hd hk
    obtain ⟨k, rfl⟩ : ∃ m, k = m + 1 := ⟨k - 1, by omega⟩
    have h2 := spec_wei_l2 (N := 7 ^ n) ht hn (show code < 7 ^ n by omega) S n k 0 (by omega) (by omega)
    rw [Nat.pow_zero, Nat.div_one, ← partL_zero] at h2
    simp only [spec_WeightsFor.l1]
    rw [if_pos (by omega), if_pos (Int.natCast_nonneg _), if_pos (by omega), Int.toNat_natCast, wrap64_of (by omega) (by omega)]
    refine Eq.trans (Eq.trans ?_ h2) ?_
    · rw [show ((n : Int) - 1 - ((0 : Nat) : Int)) = (n : Int) - 1 by omega]; rfl
    · exact ih _ (code + 1) (stepW n w code S) (by omega) (by omega)
theorem spec_wei_l0 {n w : Nat} (ht : Tab n w) (hn : n ≤ 4) : ∀ (d k i : Nat), i + d = n → d < k →
    spec_WeightsFor.l0 k ((7 ^ i : Nat) : Int) i n w = spec_WeightsFor.l1 (k - d - 1) ((7 ^ n : Nat) : Int) [] 100 0 0 n w := by
  intro d
  induction d with
  | zero =>
    intro k i hi hk
    obtain ⟨k, rfl⟩ : ∃ m, k = m + 1 := ⟨k - 1, by omega⟩
    obtain rfl : i = n := by omega
    simp only [spec_WeightsFor.l0]
    rw [if_neg (by omega)]
    rfl
  | succ d ih =>
    intro k i hi hk
    obtain ⟨k, rfl⟩ : ∃ m, k = m + 1 := ⟨k - 1, by omega⟩
    have hp : 7 ^ (i + 1) ≤ 7 ^ 4 := Nat.pow_le_pow_right (by decide) (by omega)
    simp only [spec_WeightsFor.l0]
    have hm : wrap64 (((7 ^ i : Nat) : Int) * 7) = ((7 ^ (i + 1) : Nat) : Int) := by
      rw [Nat.pow_succ] at hp ⊢
      generalize 7 ^ i = q at hp ⊢
      rw [wrap64_of (by omega) (by omega)]
      omega
    rw [if_pos (by omega), wrap64_succ (by omega), hm, show k + 1 - (d + 1) - 1 = k - d - 1 by omega]
    exact ih k (i + 1) (by omega) (by omega)
theorem spec_wei (a b : Int) {k : Nat} (hk : 50000 < k) : spec_WeightsFor.f k a b = some (weiI a b) := by
  obtain ⟨k, rfl⟩ : ∃ m, k = m + 1 := ⟨k - 1, by omega⟩
  have hj : spec_WeightsFor.j0 (k + 1) true a b = some ([], 0, false) := by
    simp only [spec_WeightsFor.j0]
    rw [if_pos trivial]
  unfold spec_WeightsFor.f weiI
  rw [spec_isTable, Option.bind_some]
  cases hT : isTab a b with
  | false => rw [if_neg (by decide), hj, Bool.false_and, if_neg (by decide)]
  | true =>
    obtain ⟨n, w, rfl, rfl, ht⟩ := tab_of hT
    rw [if_pos rfl, Bool.true_and]
    by_cases hn : (n : Int) ≤ 4
    · have hn4 : n ≤ 4 := by omega
      have hp : 7 ^ n ≤ 7 ^ 4 := Nat.pow_le_pow_right (by decide) hn4
      rw [decide_eq_true hn, if_pos rfl, decide_eq_false (by omega), Int.toNat_natCast, Int.toNat_natCast]
      simp only [spec_WeightsFor.j0]
      rw [if_neg (by decide)]
      refine Eq.trans (spec_wei_l0 ht hn4 n k 0 (by omega) (by omega)) ?_
      exact spec_wei_l1 ht hn4 (7 ^ n) _ 0 ([], 100, 0) (by omega) (by omega)
    · rw [decide_eq_false hn, if_neg (by decide), decide_eq_true (by omega), hj]
theorem weiI_length (a b : Int) : (weiI a b).1.length ≤ 4 := by
  unfold weiI
  split
  next h =>
    rw [Bool.and_eq_true, decide_eq_true_eq] at h
    have : ∀ (n w d code : Nat) (S : List Int × Int × Int), n ≤ 4 → S.1.length ≤ 4 → (iterW n w d code S).1.length ≤ 4 := by
      intro n w d
      induction d with
      | zero => intro code S _ h; exact h
      | succ d ih =>
        intro code S hn h
        refine ih (code + 1) _ hn ?_
        unfold stepW
        split
        · show (wOf n code).length ≤ 4; rw [wOf_length]; exact hn
        · exact h
    exact this _ _ _ _ _ (by omega) (Nat.zero_le _)
  next => exact Nat.zero_le _
end Go.Proofs.Ytgcflignpeencaa.U

