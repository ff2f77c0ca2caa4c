/- How many ones a small number has; where a change of a variable changes a table. -/
import Derived.Test.YtnkkkabdpbonaaaUa
import Derived.Test.YtnkkkabdpbonaaaFGa
import Derived.Test.YtnkkkabdpbonaaaFGc
namespace Go.Proofs.Ytnkkkabdpbonaaa.U
open Go.RowKit Go.Proofs.YtnkkkabdpbonaaaW.PrintWords Go.Proofs.YtnkkkabdpbonaaaW.PrintLast Go.Proofs.YtnkkkabdpbonaaaW.PrintMore Go.Proofs.Ytnkkkabdpbonaaa.F Go.Proofs.Ytnkkkabdpbonaaa.B
set_option linter.unusedVariables false
set_option linter.unusedSimpArgs false
/-- The number of ones of a small number. -/
def pop (x : Nat) : Nat := bitN x 0 + bitN x 1 + bitN x 2 + bitN x 3 + bitN x 4
theorem ones_small {x : Nat} (hx : x < 32) : impl_ones.f x = some ((pop x : Nat) : Int) := by
  have h : ∀ x : Fin 32, impl_ones.f ((x.val : Nat) : Int) = some ((pop x.val : Nat) : Int) := by decide +kernel
  exact h ⟨x, hx⟩
theorem pop_le {n x : Nat} (hn : n ≤ 5) (hx : x < 2 ^ n) : pop x ≤ n := by
  have h : ∀ n : Fin 6, ∀ x : Fin 32, x.val < 2 ^ n.val → pop x.val ≤ n.val := by decide +kernel
  have := pow_le hn
  exact h ⟨n, by omega⟩ ⟨x, by omega⟩ hx
theorem changes_some {n w x i : Nat} (ht : Tab n w) (hx : x < 2 ^ n) (hi : i < n) : impl_Table_changes.f n w x (shl .i64 1 i) = some (w.testBit x != w.testBit (x ^^^ 2 ^ i)) := by
  have hn := ht.1
  have hx32 := ht.x_lt hx
  have hp := pow_le_pow (show i ≤ 4 by omega)
  have hf := Nat.lt_of_lt_of_le (flip_lt hx hi) (pow_le ht.1)
  unfold impl_Table_changes.f
  rw [shl1_of (by omega), at_some' ht.lt63 (by omega)]
  simp only [Option.bind_some]
  rw [xor_cast (by omega) (by omega), at_some' ht.lt63 (by omega)]
  simp only [Option.bind_some]
  unfold bitN
  cases w.testBit x <;> cases w.testBit (x ^^^ 2 ^ i) <;> rfl
end Go.Proofs.Ytnkkkabdpbonaaa.U
