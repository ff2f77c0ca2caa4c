/- Dual tables: both ways. -/
import Derived.Test.YtnkkkabdpbonaaaU2
import Derived.Test.YtnkkkabdpbonaaaFspecDualTable
import Derived.Test.YtnkkkabdpbonaaaFimplDualTable
namespace Go.Proofs.Ytnkkkabdpbonaaa.U
open Go.RowKit Go.Proofs.YtnkkkabdpbonaaaW.PrintWords Go.Proofs.YtnkkkabdpbonaaaW.PrintLast Go.Proofs.YtnkkkabdpbonaaaW.PrintMore Go.Proofs.Ytnkkkabdpbonaaa.F Go.Proofs.Ytnkkkabdpbonaaa.B
set_option linter.unusedVariables false
set_option linter.unusedSimpArgs false
theorem pred_cast {m : Nat} (h0 : 0 < m) (h1 : m < 9223372036854775808) : wrap64 (((m : Nat) : Int) - 1) = ((m - 1 : Nat) : Int) := by rw [wrap64_of (by omega) (by omega)]; omega
theorem dual_some {n w : Nat} (ht : Tab n w) : impl_Table_dual.f n w = some ((n : Int), ((dualW n w : Nat) : Int)) := by
  have hM := pow_le ht.1
  have hp := pow_pos n
  have hn := ht.1
  unfold impl_Table_dual.f
  rw [size_some _ (by omega)]
  simp only [Option.bind_some]
  rw [pred_cast hp (by omega), shift_some ht (by omega)]
  simp only [Option.bind_some]
  rw [not_some (shiftW_tab ht.1)]
  rfl
theorem impl_dual (a b : Int) (h0 : -9223372036854775808 ≤ b) (h1 : b ≤ 9223372036854775807) : impl_DualTable.f a b = some (if isTab a b = true then (a, ((dualW a.toNat b.toNat : Nat) : Int), true) else (0, 0, false)) := by
  unfold impl_DualTable.f
  rw [impl_isTable h0 h1]
  simp only [Option.bind_some]
  by_cases h : isTab a b = true
  · obtain ⟨n, w, rfl, rfl, ht⟩ := tab_of h
    rw [if_pos h, if_pos h, dual_some ht]
    rfl
  · rw [if_neg h, if_neg h]
theorem spec_dual (a b : Int) {k : Nat} (hk : 32 < k) : spec_DualTable.f k a b = some (if isTab a b = true then (a, ((dualW a.toNat b.toNat : Nat) : Int), true) else (0, 0, false)) := by
  unfold spec_DualTable.f
  rw [spec_isTable]
  simp only [Option.bind_some]
  by_cases h : isTab a b = true
  · obtain ⟨n, w, rfl, rfl, ht⟩ := tab_of h
    have hM := pow_le ht.1
    have hp := pow_pos n
    have hn := ht.1
    have hF := full_le ht.1
    have h2 := pow_pos (2 ^ n)
    have hs := shiftW_lt n w (2 ^ n - 1)
    rw [if_pos h, if_pos h, if_pos (by omega), shl1_of (by omega), pred_cast hp (by omega), l3Shift_some ht (by omega) hk]
    simp only [Option.bind_some]
    rw [full_some ht.1]
    simp only [Option.bind_some, Int.toNat_natCast]
    have e : wrap64 (((2 ^ 2 ^ n - 1 : Nat) : Int) - ((shiftW n w (2 ^ n - 1) : Nat) : Int)) = ((dualW n w : Nat) : Int) := by
      unfold dualW notW
      generalize 2 ^ 2 ^ n = F at hF h2 hs ⊢
      generalize shiftW n w (2 ^ n - 1) = v at hs ⊢
      rw [wrap64_of (by omega) (by omega)]
      omega
    rw [e]
  · rw [if_neg h, if_neg h]
end Go.Proofs.Ytnkkkabdpbonaaa.U
