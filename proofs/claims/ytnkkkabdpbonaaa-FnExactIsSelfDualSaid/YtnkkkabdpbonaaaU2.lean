/- Shifts of inputs, and dual tables. -/
import Derived.Test.YtnkkkabdpbonaaaU1
import Derived.Test.YtnkkkabdpbonaaaFspecl3Shift
import Derived.Test.YtnkkkabdpbonaaaFimplTableshift
namespace Go.Proofs.Ytnkkkabdpbonaaa.U
open Go.RowKit Go.Proofs.YtnkkkabdpbonaaaW.PrintWords Go.Proofs.YtnkkkabdpbonaaaW.PrintLast Go.Proofs.YtnkkkabdpbonaaaW.PrintMore Go.Proofs.Ytnkkkabdpbonaaa.F Go.Proofs.Ytnkkkabdpbonaaa.B
set_option linter.unusedVariables false
set_option linter.unusedSimpArgs false

theorem xor_lt {n x s : Nat} (hx : x < 2 ^ n) (hs : s < 2 ^ n) : x ^^^ s < 2 ^ n := Nat.xor_lt_two_pow hx hs
theorem xor_xor (x s : Nat) : x ^^^ s ^^^ s = x := by rw [Nat.xor_assoc, Nat.xor_self, Nat.xor_zero]
/-- The word of a table with its inputs shifted. -/
def shiftW (n w s : Nat) : Nat := tabN (fun x => w.testBit (x ^^^ s)) (2 ^ n)
theorem shiftW_lt (n w s : Nat) : shiftW n w s < 2 ^ 2 ^ n := tabN_lt _ _
theorem shiftW_tab {n w s : Nat} (hn : n ≤ 5) : Tab n (shiftW n w s) := ⟨hn, shiftW_lt n w s⟩
theorem testBit_shiftW {n w s x : Nat} (hx : x < 2 ^ n) : (shiftW n w s).testBit x = w.testBit (x ^^^ s) := by unfold shiftW; rw [testBit_tabN]; simp [hx]
theorem l3Shift_loop {n w s : Nat} (ht : Tab n w) (hs : s < 2 ^ n) : ∀ d k x, x + d = 2 ^ n → d < k →
    spec_l3Shift.l0 k s ((orN (fun i => bitN w i <<< (i ^^^ s)) x : Nat) : Int) x n w = some ((n : Int), ((orN (fun i => bitN w i <<< (i ^^^ s)) (2 ^ n) : Nat) : Int)) := by
  have hM := pow_le ht.1
  have hn5 := ht.1
  intro d
  induction d with
  | zero =>
    intro k x hx hk
    obtain ⟨k, rfl⟩ : ∃ m, k = m + 1 := ⟨k - 1, by omega⟩
    obtain rfl : x = 2 ^ n := by omega
    simp only [spec_l3Shift.l0]
    rw [if_pos (by omega), shl1_of (by omega), if_neg (by omega)]
  | succ d ih =>
    intro k x hx hk
    obtain ⟨k, rfl⟩ : ∃ m, k = m + 1 := ⟨k - 1, by omega⟩
    have hlt : x < 2 ^ n := by omega
    have hq := xor_lt hlt hs
    have hb := @bitN_shl_lt w x (x ^^^ s) 32 (by omega)
    have ho : orN (fun i => bitN w i <<< (i ^^^ s)) x < 2 ^ 32 := orN_lt fun i hi => bitN_shl_lt (by have := xor_lt (show i < 2 ^ n by omega) hs; omega)
    simp only [spec_l3Shift.l0]
    rw [if_pos (by omega), shl1_of (by omega), if_pos (by exact_mod_cast hlt), if_pos (by omega), xor_cast (by omega) (by omega), if_pos (Int.natCast_nonneg _), bit_cast ht.lt63 (by omega), shl_cast (by omega) (by omega), or_cast (by omega) (by omega), wrap64_succ (by omega)]
    exact ih k (x + 1) (by omega) (by omega)
theorem l3Shift_some {n w s k : Nat} (ht : Tab n w) (hs : s < 2 ^ n) (hk : 32 < k) : spec_l3Shift.f k n w s = some ((n : Int), ((shiftW n w s : Nat) : Int)) := by
  have hM := pow_le ht.1
  have h := l3Shift_loop ht hs (2 ^ n) k 0 (by omega) (by omega)
  rw [orN_perm w (2 ^ n) (fun i => i ^^^ s) (fun i => i ^^^ s) (fun i hi => xor_lt hi hs) (fun i hi => xor_lt hi hs) (fun i _ => xor_xor i s) (fun i _ => xor_xor i s)] at h
  exact h
theorem shift_some {n w s : Nat} (ht : Tab n w) (hs : s < 32) : impl_Table_shift.f n w s = some ((n : Int), ((shiftW n w s : Nat) : Int)) := by
  unfold impl_Table_shift.f
  have := ht.lt
  have := ht.1
  rw [if_pos (by omega)]
  simp [shiftW]
/-- The dual table's word. -/
def dualW (n w : Nat) : Nat := notW n (shiftW n w (2 ^ n - 1))
theorem dualW_lt (n w : Nat) : dualW n w < 2 ^ 2 ^ n := notW_lt _ _
end Go.Proofs.Ytnkkkabdpbonaaa.U
