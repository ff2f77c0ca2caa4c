/- What the small functions on tables come to, over natural numbers. Full tables, and the other values. Shifts of inputs, and dual tables. -/
import Derived.Test.YtflacbjpeecjcacDoorBase
import Derived.Test.YtflacbjpeecjcacDoorF0
namespace Go.Proofs.YtflacbjpeecjcacDoor.U
open Go.RowKit Go.Proofs.YtflacbjpeecjcacDoorW.PrintWords Go.Proofs.YtflacbjpeecjcacDoorW.PrintLast Go.Proofs.YtflacbjpeecjcacDoorW.PrintMore Go.Proofs.YtflacbjpeecjcacDoor.F Go.Proofs.YtflacbjpeecjcacDoor.B
set_option linter.unusedVariables false
set_option linter.unusedSimpArgs false

/-- Is it a table? -/
def isTab (a b : Int) : Bool := decide (0 ≤ a ∧ a ≤ 5 ∧ 0 ≤ b ∧ b < 2 ^ 2 ^ a.toNat)
theorem isTab_of {n w : Nat} (h : Tab n w) : isTab n w = true := by
  unfold isTab
  have h2 : (w : Int) < 2 ^ 2 ^ n := by exact_mod_cast h.2
  exact decide_eq_true ⟨by omega, by have := h.1; omega, by omega, by simpa using h2⟩
theorem tab_of {a b : Int} (h : isTab a b = true) : ∃ n w : Nat, a = n ∧ b = w ∧ Tab n w := by
  have h := of_decide_eq_true h
  obtain ⟨n, rfl⟩ := Int.eq_ofNat_of_zero_le h.1
  obtain ⟨w, rfl⟩ := Int.eq_ofNat_of_zero_le h.2.2.1
  refine ⟨n, w, rfl, rfl, by omega, ?_⟩
  have h2 := h.2.2.2
  rw [Int.toNat_natCast] at h2
  exact_mod_cast h2
theorem shr_zero_iff {w m : Nat} : w >>> m = 0 ↔ w < 2 ^ m := by
  rw [Nat.shiftRight_eq_div_pow, Nat.div_eq_zero_iff]
  have := pow_pos m
  omega
theorem wf_i64 {a : Int} (h : (Lit.int .i64 a).wf = true) : -9223372036854775808 ≤ a ∧ a ≤ 9223372036854775807 := by
  simp [Lit.wf, IntKind.min, IntKind.max, IntKind.bits, IntKind.signed] at h
  omega
end Go.Proofs.YtflacbjpeecjcacDoor.U

namespace Go.Proofs.YtflacbjpeecjcacDoor.U
open Go.RowKit Go.Proofs.YtflacbjpeecjcacDoorW.PrintWords Go.Proofs.YtflacbjpeecjcacDoorW.PrintLast Go.Proofs.YtflacbjpeecjcacDoorW.PrintMore Go.Proofs.YtflacbjpeecjcacDoor.F Go.Proofs.YtflacbjpeecjcacDoor.B
set_option linter.unusedVariables false
set_option linter.unusedSimpArgs false
/-- The other values. -/
def notW (n w : Nat) : Nat := 2 ^ 2 ^ n - 1 - w
theorem notW_lt (n w : Nat) : notW n w < 2 ^ 2 ^ n := by unfold notW; have := pow_pos (2 ^ n); omega
theorem testBit_notW {n w : Nat} (h : w < 2 ^ 2 ^ n) (x : Nat) : (notW n w).testBit x = (decide (x < 2 ^ n) && !w.testBit x) := by
  unfold notW
  rw [Nat.sub_sub, Nat.add_comm 1 w, Nat.testBit_two_pow_sub_succ h]
theorem xor_full {n w : Nat} (h : w < 2 ^ 2 ^ n) : w ^^^ (2 ^ 2 ^ n - 1) = notW n w := by
  have h2 := pow_pos (2 ^ n)
  refine word_ext (m := 2 ^ n) (Nat.xor_lt_two_pow h (by omega)) (notW_lt n w) fun i hi => ?_
  rw [Nat.testBit_xor, testBit_notW h, Nat.testBit_two_pow_sub_one]
  cases w.testBit i <;> simp [hi]
end Go.Proofs.YtflacbjpeecjcacDoor.U

namespace Go.Proofs.YtflacbjpeecjcacDoor.U
open Go.RowKit Go.Proofs.YtflacbjpeecjcacDoorW.PrintWords Go.Proofs.YtflacbjpeecjcacDoorW.PrintLast Go.Proofs.YtflacbjpeecjcacDoorW.PrintMore Go.Proofs.YtflacbjpeecjcacDoor.F Go.Proofs.YtflacbjpeecjcacDoor.B
set_option linter.unusedVariables false
set_option linter.unusedSimpArgs false

theorem xor_lt {n x s : Nat} (hx : x < 2 ^ n) (hs : s < 2 ^ n) : x ^^^ s < 2 ^ n := Nat.xor_lt_two_pow hx hs
theorem xor_xor (x s : Nat) : x ^^^ s ^^^ s = x := by rw [Nat.xor_assoc, Nat.xor_self, Nat.xor_zero]
/-- The word of a table with its inputs shifted. -/
def shiftW (n w s : Nat) : Nat := tabN (fun x => w.testBit (x ^^^ s)) (2 ^ n)
theorem shiftW_lt (n w s : Nat) : shiftW n w s < 2 ^ 2 ^ n := tabN_lt _ _
theorem shiftW_tab {n w s : Nat} (hn : n ≤ 5) : Tab n (shiftW n w s) := ⟨hn, shiftW_lt n w s⟩
theorem testBit_shiftW {n w s x : Nat} (hx : x < 2 ^ n) : (shiftW n w s).testBit x = w.testBit (x ^^^ s) := by unfold shiftW; rw [testBit_tabN]; simp [hx]
/-- The dual table's word. -/
def dualW (n w : Nat) : Nat := notW n (shiftW n w (2 ^ n - 1))
theorem dualW_lt (n w : Nat) : dualW n w < 2 ^ 2 ^ n := notW_lt _ _
end Go.Proofs.YtflacbjpeecjcacDoor.U
