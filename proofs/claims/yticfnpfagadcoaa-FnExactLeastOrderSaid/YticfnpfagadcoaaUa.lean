/- What the small functions on tables come to, over natural numbers. Full tables, and the other values. Shifts of inputs, and dual tables. -/
import Derived.Test.YticfnpfagadcoaaBase
import Derived.Test.YticfnpfagadcoaaFGa
namespace Go.Proofs.Yticfnpfagadcoaa.U
open Go.RowKit Go.Proofs.YticfnpfagadcoaaW.PrintWords Go.Proofs.YticfnpfagadcoaaW.PrintLast Go.Proofs.YticfnpfagadcoaaW.PrintMore Go.Proofs.Yticfnpfagadcoaa.F Go.Proofs.Yticfnpfagadcoaa.B
set_option linter.unusedVariables false
set_option linter.unusedSimpArgs false

/-- Is it a table? -/
def isTab (a b : Int) : Bool := decide (0 ≤ a ∧ a ≤ 5 ∧ 0 ≤ b ∧ b < 2 ^ 2 ^ a.toNat)
theorem isTab_of {n w : Nat} (h : Tab n w) : isTab n w = true := by
  unfold isTab
  have h2 : (w : Int) < 2 ^ 2 ^ n := by exact_mod_cast h.2
  exact decide_eq_true ⟨by omega, by have := h.1; omega, by omega, by simpa using h2⟩
theorem tab_of {a b : Int} (h : isTab a b = true) : ∃ n w : Nat, a = n ∧ b = w ∧ Tab n w := by
  have h := of_decide_eq_true h
  obtain ⟨n, rfl⟩ := Int.eq_ofNat_of_zero_le h.1
  obtain ⟨w, rfl⟩ := Int.eq_ofNat_of_zero_le h.2.2.1
  refine ⟨n, w, rfl, rfl, by omega, ?_⟩
  have h2 := h.2.2.2
  rw [Int.toNat_natCast] at h2
  exact_mod_cast h2
theorem spec_isTable (a b : Int) : spec_IsTable.f a b = some (isTab a b) := rfl
theorem size_some {n : Nat} (v : Int) (hn : n ≤ 62) : impl_Table_size.f n v = some ((2 ^ n : Nat) : Int) := by
  unfold impl_Table_size.f
  rw [if_pos (by omega), shl1_of (by omega)]
theorem at_some' {n : Int} {w x : Nat} (hw : w < 9223372036854775808) (hx : x ≤ 64) : impl_Table_at.f n w x = some ((bitN w x : Nat) : Int) := by
  unfold impl_Table_at.f
  rw [if_pos (by omega), bit_cast hw hx]
theorem shr_zero_iff {w m : Nat} : w >>> m = 0 ↔ w < 2 ^ m := by
  rw [Nat.shiftRight_eq_div_pow, Nat.div_eq_zero_iff]
  have := pow_pos m
  omega
theorem impl_isTable {a b : Int} (h0 : -9223372036854775808 ≤ b) (h1 : b ≤ 9223372036854775807) : impl_IsTable.f a b = some (isTab a b) := by
  have hb : impl_isBits.f a = some (decide (0 ≤ a ∧ a ≤ 5)) := by
    unfold impl_isBits.f
    by_cases h : a ≥ 0
    · rw [if_pos h]; congr 1; exact decide_eq_decide.mpr (by omega)
    · rw [if_neg h]; congr 1; symm; exact decide_eq_false (by omega)
  unfold impl_IsTable.f
  rw [hb]
  simp only [Option.bind_some, decide_eq_true_eq]
  by_cases h : 0 ≤ a ∧ a ≤ 5
  · rw [if_pos h]
    by_cases hb0 : b ≥ 0
    · rw [if_pos hb0]
      obtain ⟨n, rfl⟩ := Int.eq_ofNat_of_zero_le h.1
      obtain ⟨w, rfl⟩ := Int.eq_ofNat_of_zero_le hb0
      have hM := pow_le (n := n) (by omega)
      rw [size_some _ (by omega)]
      simp only [Option.bind_some]
      rw [if_pos (Int.natCast_nonneg _), shr_cast w _ (by omega)]
      congr 1
      unfold isTab
      apply Bool.eq_iff_iff.mpr
      rw [beq_iff_eq, decide_eq_true_eq, Int.toNat_natCast]
      have e := @shr_zero_iff w (2 ^ n)
      constructor
      · intro hz
        have hz : w >>> 2 ^ n = 0 := by exact_mod_cast hz
        have := e.mp hz
        exact ⟨h.1, h.2, hb0, by exact_mod_cast this⟩
      · intro hh
        have hh := hh.2.2.2
        have := e.mpr (by exact_mod_cast hh)
        exact_mod_cast this
    · rw [if_neg hb0]
      congr 1; symm
      exact decide_eq_false (by omega)
  · rw [if_neg h]
    congr 1; symm
    exact decide_eq_false (by omega)
theorem toTable_some (a b : Int) : laws_toTable.f a b = some (a, b) := rfl
theorem wf_i64 {a : Int} (h : (Lit.int .i64 a).wf = true) : -9223372036854775808 ≤ a ∧ a ≤ 9223372036854775807 := by
  simp [Lit.wf, IntKind.min, IntKind.max, IntKind.bits, IntKind.signed] at h
  omega
end Go.Proofs.Yticfnpfagadcoaa.U

namespace Go.Proofs.Yticfnpfagadcoaa.U
open Go.RowKit Go.Proofs.YticfnpfagadcoaaW.PrintWords Go.Proofs.YticfnpfagadcoaaW.PrintLast Go.Proofs.YticfnpfagadcoaaW.PrintMore Go.Proofs.Yticfnpfagadcoaa.F Go.Proofs.Yticfnpfagadcoaa.B
set_option linter.unusedVariables false
set_option linter.unusedSimpArgs false
theorem full_some {n : Nat} (hn : n ≤ 5) : spec_l2Full.f n = some (((2 ^ 2 ^ n - 1 : Nat)) : Int) := by
  unfold spec_l2Full.f
  rw [if_pos (by omega), Int.toNat_natCast]
  congr 1
  have := pow_pos (2 ^ n)
  rw [Int.natCast_sub (by omega)]
  simp
/-- The other values. -/
def notW (n w : Nat) : Nat := 2 ^ 2 ^ n - 1 - w
theorem notW_lt (n w : Nat) : notW n w < 2 ^ 2 ^ n := by unfold notW; have := pow_pos (2 ^ n); omega
theorem testBit_notW {n w : Nat} (h : w < 2 ^ 2 ^ n) (x : Nat) : (notW n w).testBit x = (decide (x < 2 ^ n) && !w.testBit x) := by
  unfold notW
  rw [Nat.sub_sub, Nat.add_comm 1 w, Nat.testBit_two_pow_sub_succ h]
theorem xor_full {n w : Nat} (h : w < 2 ^ 2 ^ n) : w ^^^ (2 ^ 2 ^ n - 1) = notW n w := by
  have h2 := pow_pos (2 ^ n)
  refine word_ext (m := 2 ^ n) (Nat.xor_lt_two_pow h (by omega)) (notW_lt n w) fun i hi => ?_
  rw [Nat.testBit_xor, testBit_notW h, Nat.testBit_two_pow_sub_one]
  cases w.testBit i <;> simp [hi]
theorem not_some {n w : Nat} (h : Tab n w) : impl_Table_not.f n w = some ((n : Int), ((notW n w : Nat) : Int)) := by
  have hM := pow_le h.1
  have hF := full_le h.1
  have h2 := pow_pos (2 ^ n)
  unfold impl_Table_not.f
  rw [size_some _ (by have := h.1; omega)]
  simp only [Option.bind_some]
  rw [if_pos (Int.natCast_nonneg _), shl1_of (by omega)]
  have e : wrap64 (((2 ^ 2 ^ n : Nat) : Int) - 1) = ((2 ^ 2 ^ n - 1 : Nat) : Int) := by rw [wrap64_of (by omega) (by omega)]; omega
  rw [e, xor_cast h.lt63 (by omega), xor_full h.2]
end Go.Proofs.Yticfnpfagadcoaa.U

namespace Go.Proofs.Yticfnpfagadcoaa.U
open Go.RowKit Go.Proofs.YticfnpfagadcoaaW.PrintWords Go.Proofs.YticfnpfagadcoaaW.PrintLast Go.Proofs.YticfnpfagadcoaaW.PrintMore Go.Proofs.Yticfnpfagadcoaa.F Go.Proofs.Yticfnpfagadcoaa.B
set_option linter.unusedVariables false
set_option linter.unusedSimpArgs false

theorem xor_lt {n x s : Nat} (hx : x < 2 ^ n) (hs : s < 2 ^ n) : x ^^^ s < 2 ^ n := Nat.xor_lt_two_pow hx hs
theorem xor_xor (x s : Nat) : x ^^^ s ^^^ s = x := by rw [Nat.xor_assoc, Nat.xor_self, Nat.xor_zero]
/-- The word of a table with its inputs shifted. -/
def shiftW (n w s : Nat) : Nat := tabN (fun x => w.testBit (x ^^^ s)) (2 ^ n)
theorem shiftW_lt (n w s : Nat) : shiftW n w s < 2 ^ 2 ^ n := tabN_lt _ _
theorem shiftW_tab {n w s : Nat} (hn : n ≤ 5) : Tab n (shiftW n w s) := ⟨hn, shiftW_lt n w s⟩
theorem testBit_shiftW {n w s x : Nat} (hx : x < 2 ^ n) : (shiftW n w s).testBit x = w.testBit (x ^^^ s) := by unfold shiftW; rw [testBit_tabN]; simp [hx]
theorem l3Shift_loop {n w s : Nat} (ht : Tab n w) (hs : s < 2 ^ n) : ∀ d k x, x + d = 2 ^ n → d < k →
    spec_l3Shift.l0 k s ((orN (fun i => bitN w i <<< (i ^^^ s)) x : Nat) : Int) x n w = some ((n : Int), ((orN (fun i => bitN w i <<< (i ^^^ s)) (2 ^ n) : Nat) : Int)) := by
  have hM := pow_le ht.1
  have hn5 := ht.1
  intro d
  induction d with
  | zero =>
    intro k x hx hk
    obtain ⟨k, rfl⟩ : ∃ m, k = m + 1 := ⟨k - 1, by omega⟩
    obtain rfl : x = 2 ^ n := by omega
    simp only [spec_l3Shift.l0]
    rw [if_pos (by omega), shl1_of (by omega), if_neg (by omega)]
  | succ d ih =>
    intro k x hx hk
    obtain ⟨k, rfl⟩ : ∃ m, k = m + 1 := ⟨k - 1, by omega⟩
    have hlt : x < 2 ^ n := by omega
    have hq := xor_lt hlt hs
    have hb := @bitN_shl_lt w x (x ^^^ s) 32 (by omega)
    have ho : orN (fun i => bitN w i <<< (i ^^^ s)) x < 2 ^ 32 := orN_lt fun i hi => bitN_shl_lt (by have := xor_lt (show i < 2 ^ n by omega) hs; omega)
    simp only [spec_l3Shift.l0]
    rw [if_pos (by omega), shl1_of (by omega), if_pos (by exact_mod_cast hlt), if_pos (by omega), xor_cast (by omega) (by omega), if_pos (Int.natCast_nonneg _), bit_cast ht.lt63 (by omega), shl_cast (by omega) (by omega), or_cast (by omega) (by omega), wrap64_succ (by omega)]
    exact ih k (x + 1) (by omega) (by omega)
theorem l3Shift_some {n w s k : Nat} (ht : Tab n w) (hs : s < 2 ^ n) (hk : 32 < k) : spec_l3Shift.f k n w s = some ((n : Int), ((shiftW n w s : Nat) : Int)) := by
  have hM := pow_le ht.1
  have h := l3Shift_loop ht hs (2 ^ n) k 0 (by omega) (by omega)
  rw [orN_perm w (2 ^ n) (fun i => i ^^^ s) (fun i => i ^^^ s) (fun i hi => xor_lt hi hs) (fun i hi => xor_lt hi hs) (fun i _ => xor_xor i s) (fun i _ => xor_xor i s)] at h
  exact h
theorem shift_some {n w s : Nat} (ht : Tab n w) (hs : s < 32) : impl_Table_shift.f n w s = some ((n : Int), ((shiftW n w s : Nat) : Int)) := by
  unfold impl_Table_shift.f
  have := ht.lt
  have := ht.1
  rw [if_pos (by omega)]
  simp [shiftW]
/-- The dual table's word. -/
def dualW (n w : Nat) : Nat := notW n (shiftW n w (2 ^ n - 1))
theorem dualW_lt (n w : Nat) : dualW n w < 2 ^ 2 ^ n := notW_lt _ _
end Go.Proofs.Yticfnpfagadcoaa.U
