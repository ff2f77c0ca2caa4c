/- Shapley's numbers: both ways. -/
import Derived.Test.YtnkkkabdpbonaaaU20
import Derived.Test.YtnkkkabdpbonaaaFimplShapleyNumbers
import Derived.Test.YtnkkkabdpbonaaaFspecShapleyNumbers
namespace Go.Proofs.Ytnkkkabdpbonaaa.U
open Go.RowKit Go.Proofs.YtnkkkabdpbonaaaW.PrintWords Go.Proofs.YtnkkkabdpbonaaaW.PrintLast Go.Proofs.YtnkkkabdpbonaaaW.PrintMore Go.Proofs.Ytnkkkabdpbonaaa.F Go.Proofs.Ytnkkkabdpbonaaa.B
set_option linter.unusedVariables false
set_option linter.unusedSimpArgs false
def facts : List Int := [1, 1, 2, 6, 24, 120]
/-- The orders of all of n players in which p given ones stand ahead of a given one, and the others behind. -/
def cwS (n p : Nat) : Nat := if p < n ∧ n ≤ 5 then (rd facts p * rd facts ((n - 1 - p : Nat) : Int)).toNat else 0
theorem cwS_le (n p : Nat) : cwS n p ≤ 1000 := by
  unfold cwS
  split
  next h =>
    have hh : ∀ n : Fin 6, ∀ p : Fin 5, p.val < n.val → (rd facts p.val * rd facts ((n.val - 1 - p.val : Nat) : Int)).toNat ≤ 1000 := by decide +kernel
    exact hh ⟨n, by omega⟩ ⟨p, by omega⟩ h.1
  next => omega
theorem cwS_impl {n p : Nat} (hn : n ≤ 5) (hp : p < n) : impl_BanzhafNumbers_1.f (p : Nat) (n : Nat) = some ((cwS n p : Nat) : Int) := by
  have hh : ∀ n : Fin 6, ∀ p : Fin 5, p.val < n.val → impl_BanzhafNumbers_1.f ((p.val : Nat) : Int) ((n.val : Nat) : Int) = some ((cwS n.val p.val : Nat) : Int) := by decide +kernel
  exact hh ⟨n, by omega⟩ ⟨p, by omega⟩ hp
theorem cwS_spec {n p : Nat} (hn : n ≤ 5) (hp : p < n) : 0 ≤ wrap64 (wrap64 ((n : Int) - 1) - (p : Int)) ∧ wrap64 (wrap64 ((n : Int) - 1) - (p : Int)) < 6 ∧ wrap64 (rd facts p * rd facts (wrap64 (wrap64 ((n : Int) - 1) - (p : Int)))) = ((cwS n p : Nat) : Int) := by
  have hh : ∀ n : Fin 6, ∀ p : Fin 5, p.val < n.val → 0 ≤ wrap64 (wrap64 (((n.val : Nat) : Int) - 1) - ((p.val : Nat) : Int)) ∧ wrap64 (wrap64 (((n.val : Nat) : Int) - 1) - ((p.val : Nat) : Int)) < 6 ∧ wrap64 (rd facts p.val * rd facts (wrap64 (wrap64 (((n.val : Nat) : Int) - 1) - ((p.val : Nat) : Int)))) = ((cwS n.val p.val : Nat) : Int) := by decide +kernel
  exact hh ⟨n, by omega⟩ ⟨p, by omega⟩ hp
theorem count_small {x k : Nat} (hx : x < 32) (hk : 10 ≤ k) : spec_l2Count.f k x = some ((pop x : Nat) : Int) := by
  have hh : ∀ x : Fin 32, spec_l2Count.f 10 ((x.val : Nat) : Int) = some ((pop x.val : Nat) : Int) := by decide +kernel
  exact at_rounds (g := fun K => spec_l2Count.f K x) (fun K => spec_l2Count.mono _ K) hk (hh ⟨x, hx⟩)
theorem or_flip {x i : Nat} (hx : x < 32) (hi : i < 5) (hb : x.testBit i = false) : x ||| 2 ^ i = x ^^^ 2 ^ i ∧ ins (del x i) i 0 = x ∧ ins (del x i) i 1 = x ^^^ 2 ^ i := by
  have hh : ∀ x : Fin 32, ∀ i : Fin 5, x.val.testBit i.val = false → x.val ||| 2 ^ i.val = x.val ^^^ 2 ^ i.val ∧ ins (del x.val i.val) i.val 0 = x.val ∧ ins (del x.val i.val) i.val 1 = x.val ^^^ 2 ^ i.val := by decide +kernel
  exact hh ⟨x, hx⟩ ⟨i, hi⟩ hb
theorem mono_flip {n w i x : Nat} (ht : Tab n w) (hm : mono n w = true) (hi : i < n) (hx : x < 2 ^ n) (hb : x.testBit i = false) (hw : w.testBit x = true) : w.testBit (x ^^^ 2 ^ i) = true := by
  obtain ⟨m, rfl⟩ : ∃ m, n = m + 1 := ⟨n - 1, by omega⟩
  have hn := ht.1
  have hM := pow_le ht.1
  obtain ⟨_, e0, e1⟩ := or_flip (x := x) (i := i) (by omega) (by omega) hb
  have h := allN_iff.mp hm i hi
  unfold monoAt at h
  rw [beq_iff_eq, Nat.add_sub_cancel] at h
  have hd := del_lt (show m ≤ 4 by omega) hx hi
  have h2 := (ldiff_zero_iff _ _).mp h (del x i) (by rw [testBit_resW hd, e0]; exact hw)
  rw [testBit_resW hd, e1] at h2
  exact h2
theorem shap_inner {n w i : Nat} (ht : Tab n w) (hm : mono n w = true) (hi : i < n) : ∀ (d k x : Nat), 10 ≤ k → x + d = 2 ^ n →
    spec_ShapleyNumbers.l1 (k + d + 1) (powL (cwS n) n w i) facts i ((sumN (powQ (cwS n) w i) x : Nat) : Int) x n w = spec_ShapleyNumbers.l0 k (powL (cwS n) n w (i + 1)) facts ((i + 1 : Nat) : Int) n w := by
  have hM := pow_le ht.1
  have hn := ht.1
  have hq : ∀ x, powQ (cwS n) w i x ≤ 1000 := fun x => by unfold powQ; split <;> first | exact cwS_le _ _ | omega
  have hpi := pow_le_pow (show i ≤ 4 by omega)
  intro d
  induction d with
  | zero =>
    intro k x hk hx
    obtain rfl : x = 2 ^ n := by omega
    simp only [spec_ShapleyNumbers.l1, Nat.add_zero]
    rw [if_pos (Int.natCast_nonneg _), shl1_of (by omega), if_neg (by omega), if_pos (by rw [powL_length]; omega), wrap64_succ (by omega)]
    rfl
  | succ d ih =>
    intro k x hk hx
    have hlt : x < 2 ^ n := by omega
    have hs := sumN_le hq x
    have hqx := hq x
    have hi' := ih k (x + 1) hk (by omega)
    rw [sumN] at hi'
    have hcnt := count_small (x := x) (k := k + d + 1) (by omega) (by omega)
    have hf := flip_lt hlt hi
    rw [show k + (d + 1) + 1 = (k + d + 1) + 1 by omega]
    rw [spec_ShapleyNumbers.l1, hcnt]
    rw [if_pos (Int.natCast_nonneg _), shl1_of (by omega), if_pos (by exact_mod_cast hlt), if_pos (Int.natCast_nonneg _), bit_cast (by omega) (by omega), wrap64_succ (by omega)]
    by_cases h1 : x.testBit i = true
    · rw [if_neg (fun h => by rw [bit_eq_zero, h1] at h; cases h)]
      have e : powQ (cwS n) w i x = 0 := by unfold powQ; rw [if_neg (fun h => by rw [h1] at h; cases h.1)]
      rw [e, Nat.add_zero] at hi'
      exact hi'
    · have h1 := Bool.eq_false_iff.mpr h1
      obtain ⟨eo, _, _⟩ := or_flip (x := x) (i := i) (by omega) (by omega) h1
      rw [if_pos (bit_eq_zero.mpr h1), if_pos (Int.natCast_nonneg _), bit_cast ht.lt63 (by omega)]
      by_cases h2 : w.testBit x = true
      · rw [if_neg (fun h => by rw [bit_eq_zero, h2] at h; cases h)]
        have e : powQ (cwS n) w i x = 0 := by unfold powQ; rw [h2, mono_flip ht hm hi hlt h1 h2]; simp
        rw [e, Nat.add_zero] at hi'
        exact hi'
      · have h2 := Bool.eq_false_iff.mpr h2
        rw [if_pos (bit_eq_zero.mpr h2), shl1_of (by omega), or_cast (by omega) (by omega), if_pos (Int.natCast_nonneg _), eo, bit_cast ht.lt63 (by omega)]
        by_cases h3 : w.testBit (x ^^^ 2 ^ i) = true
        · rw [if_pos (bit_eq_one.mpr h3)]
          have hpl := pop_lt hn hi hlt h1
          have e : powQ (cwS n) w i x = cwS n (pop x) := by unfold powQ; rw [h1, h2, h3]; rfl
          rw [e] at hi' hqx
          generalize pop x = p at hi' hqx hpl
          obtain ⟨c0, c1, c2⟩ := cwS_spec hn hpl
          rw [Option.bind_some, if_pos (Int.natCast_nonneg _), if_pos (show ((p : Nat) : Int) < ((facts.length : Nat) : Int) by show (p : Int) < 6; omega), if_pos c0, if_pos (show _ < ((facts.length : Nat) : Int) from c1), c2, wrap64_of (by omega) (by omega)]
          exact hi'
        · rw [if_neg (fun h => h3 (bit_eq_one.mp h))]
          have e : powQ (cwS n) w i x = 0 := by unfold powQ; rw [h2, Bool.eq_false_iff.mpr h3]; simp
          rw [e, Nat.add_zero] at hi'
          exact hi'
theorem shap_outer {n w : Nat} (ht : Tab n w) (hm : mono n w = true) : ∀ (d k i : Nat), i + d = n →
    spec_ShapleyNumbers.l0 (k + 10 + d * (2 ^ n + 2) + 1) (powL (cwS n) n w i) facts i n w = some (powL (cwS n) n w n) := by
  have hn := ht.1
  intro d
  induction d with
  | zero =>
    intro k i hi
    obtain rfl : i = n := by omega
    rw [Nat.zero_mul, Nat.add_zero, spec_ShapleyNumbers.l0, if_neg (by omega)]
  | succ d ih =>
    intro k i hi
    rw [show k + 10 + (d + 1) * (2 ^ n + 2) + 1 = (k + 10 + d * (2 ^ n + 2) + 1) + 2 ^ n + 1 + 1 by rw [Nat.succ_mul]; omega, spec_ShapleyNumbers.l0, if_pos (by omega)]
    have h := shap_inner ht hm (show i < n by omega) (2 ^ n) (k + 10 + d * (2 ^ n + 2) + 1) 0 (by omega) (by omega)
    rw [show ((sumN (powQ (cwS n) w i) 0 : Nat) : Int) = 0 from rfl] at h
    exact h.trans (ih k (i + 1) (by omega))
theorem spec_shap (a b : Int) : spec_ShapleyNumbers.f 600 a b = some (if (isTab a b && game a.toNat b.toNat) = true then powL (cwS a.toNat) a.toNat b.toNat a.toNat else []) := by
  unfold spec_ShapleyNumbers.f
  rw [spec_isGame a b (by decide)]
  simp only [Option.bind_some]
  by_cases h : (isTab a b && game a.toNat b.toNat) = true
  · rw [if_pos h, if_pos h]
    rw [Bool.and_eq_true] at h
    obtain ⟨n, w, rfl, rfl, ht⟩ := tab_of h.1
    have hn := ht.1
    have hM := pow_le ht.1
    have hg := h.2
    simp only [Int.toNat_natCast] at hg ⊢
    unfold game at hg
    rw [Bool.and_eq_true] at hg
    have hf : n * (2 ^ n + 2) ≤ 5 * 34 := Nat.mul_le_mul hn (by omega)
    have e := shap_outer ht hg.1 n (589 - n * (2 ^ n + 2)) 0 (by omega)
    rw [show 589 - n * (2 ^ n + 2) + 10 + n * (2 ^ n + 2) + 1 = 600 by omega] at e
    exact e
  · rw [if_neg h, if_neg h]
theorem impl_shap {a b : Int} (h0 : -9223372036854775808 ≤ b) (h1 : b ≤ 9223372036854775807) : impl_ShapleyNumbers.f a b = some (if (isTab a b && game a.toNat b.toNat) = true then powL (cwS a.toNat) a.toNat b.toNat a.toNat else []) := by
  unfold impl_ShapleyNumbers.f
  by_cases ha : a < 0
  · have hf : isTab a b = false := by
      apply Bool.eq_false_iff.mpr
      intro h
      obtain ⟨n, w, rfl, rfl, ht⟩ := tab_of h
      omega
    rw [if_pos ha, impl_isGame h0 h1 (by decide), hf, Bool.false_and, if_pos rfl, if_neg (by decide)]
  · rw [if_neg ha]
    exact impl_powers h0 h1 (fun n w e _ ht p hp => by rw [e, Int.toNat_natCast]; exact cwS_impl ht.1 hp) (fun p => cwS_le _ p)
end Go.Proofs.Ytnkkkabdpbonaaa.U
