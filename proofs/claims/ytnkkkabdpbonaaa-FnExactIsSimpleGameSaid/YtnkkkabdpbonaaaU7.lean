/- Simple games: both ways; small numbers' bits. -/
import Derived.Test.YtnkkkabdpbonaaaU5
import Derived.Test.YtnkkkabdpbonaaaFspecIsSimpleGame
import Derived.Test.YtnkkkabdpbonaaaFimplIsSimpleGame
namespace Go.Proofs.Ytnkkkabdpbonaaa.U
open Go.RowKit Go.Proofs.YtnkkkabdpbonaaaW.PrintWords Go.Proofs.YtnkkkabdpbonaaaW.PrintLast Go.Proofs.YtnkkkabdpbonaaaW.PrintMore Go.Proofs.Ytnkkkabdpbonaaa.F Go.Proofs.Ytnkkkabdpbonaaa.B
set_option linter.unusedVariables false
set_option linter.unusedSimpArgs false
/-- A simple game: monotone, 0 for no player and 1 for all. -/
def game (n w : Nat) : Bool := mono n w && (!w.testBit 0 && w.testBit (2 ^ n - 1))
theorem pred_cast' {m : Nat} (h0 : 0 < m) (h1 : m < 9223372036854775808) : wrap64 (((m : Nat) : Int) - 1) = ((m - 1 : Nat) : Int) := by rw [wrap64_of (by omega) (by omega)]; omega
theorem upred_cast {m : Nat} (h0 : 0 < m) (h1 : m < 9223372036854775808) : IntKind.u64.wrap (((m : Nat) : Int) - 1) = ((m - 1 : Nat) : Int) := by rw [wrapu_of (by omega) (by omega)]; omega
theorem and_one_cast {w : Nat} (h : w < 9223372036854775808) : Go.bits .and .i64 (w : Int) 1 = ((bitN w 0 : Nat) : Int) := by
  have := and_cast (b := 1) h (by decide)
  rw [← shr_and_one]
  exact this
theorem bit_eq_one {w x : Nat} : ((((bitN w x : Nat) : Int)) = 1) ↔ w.testBit x = true := by
  rw [← bitN_eq_one]
  exact ⟨fun h => by exact_mod_cast h, fun h => by exact_mod_cast h⟩
theorem bit_eq_zero {w x : Nat} : ((((bitN w x : Nat) : Int)) = 0) ↔ w.testBit x = false := by
  rw [← bitN_eq_zero]
  exact ⟨fun h => by exact_mod_cast h, fun h => by exact_mod_cast h⟩
theorem bit_beq_one (w x : Nat) : ((((bitN w x : Nat) : Int)) == 1) = w.testBit x := by unfold bitN; cases w.testBit x <;> rfl
theorem bit_beq_zero (w x : Nat) : ((((bitN w x : Nat) : Int)) == 0) = !w.testBit x := by unfold bitN; cases w.testBit x <;> rfl
theorem spec_game {n w k : Nat} (ht : Tab n w) (hk : 50 < k) : spec_IsSimpleGame.f k n w = some (game n w) := by
  have hM := pow_le ht.1
  have hn := ht.1
  have hp := pow_pos n
  unfold spec_IsSimpleGame.f
  rw [spec_isTable, isTab_of ht]
  simp only [Option.bind_some, if_true]
  rw [spec_mono ht hk]
  simp only [Option.bind_some]
  unfold game
  cases hm : mono n w with
  | false => rfl
  | true =>
    rw [if_pos rfl, and_one_cast ht.lt63]
    cases h0 : w.testBit 0 with
    | true => rw [if_neg (by rw [bit_eq_zero, h0]; simp)]; rfl
    | false =>
      rw [if_pos (bit_eq_zero.mpr h0), if_pos (by omega), shlu1_of (by omega), upred_cast hp (by omega), if_pos (Int.natCast_nonneg _), bit_cast ht.lt63 (by omega), bit_beq_one]
      rfl
theorem impl_game_tab {n w k : Nat} (ht : Tab n w) (hk : 50 < k) : impl_IsSimpleGame.f k n w = some (game n w) := by
  have hM := pow_le ht.1
  have hn := ht.1
  have hp := pow_pos n
  have hlt := ht.lt
  unfold impl_IsSimpleGame.f
  rw [impl_isMono (by omega) (by omega) hk, isTab_of ht]
  simp only [Option.bind_some, Bool.true_and, Int.toNat_natCast]
  unfold game
  cases hm : mono n w with
  | false => rfl
  | true =>
    have e0 : impl_Table_at.f n w 0 = some ((bitN w 0 : Nat) : Int) := at_some' (x := 0) ht.lt63 (by decide)
    rw [if_pos rfl, e0]
    simp only [Option.bind_some]
    cases h0 : w.testBit 0 with
    | true => rw [if_neg (by rw [bit_eq_zero, h0]; simp)]; rfl
    | false =>
      rw [if_pos (bit_eq_zero.mpr h0), size_some _ (by omega)]
      simp only [Option.bind_some]
      rw [pred_cast' hp (by omega), at_some' ht.lt63 (by omega)]
      simp only [Option.bind_some]
      rw [bit_beq_one]
      rfl
theorem spec_isGame (a b : Int) {k : Nat} (hk : 50 < k) : spec_IsSimpleGame.f k a b = some (isTab a b && game a.toNat b.toNat) := by
  by_cases h : isTab a b = true
  · obtain ⟨n, w, rfl, rfl, ht⟩ := tab_of h
    rw [spec_game ht hk, h]
    rfl
  · unfold spec_IsSimpleGame.f
    rw [spec_isTable]
    simp only [Option.bind_some]
    rw [if_neg h, Bool.eq_false_iff.mpr h]
    rfl
theorem impl_isGame {a b : Int} (h0 : -9223372036854775808 ≤ b) (h1 : b ≤ 9223372036854775807) {k : Nat} (hk : 50 < k) : impl_IsSimpleGame.f k a b = some (isTab a b && game a.toNat b.toNat) := by
  by_cases h : isTab a b = true
  · obtain ⟨n, w, rfl, rfl, ht⟩ := tab_of h
    rw [impl_game_tab ht hk, h]
    rfl
  · unfold impl_IsSimpleGame.f
    rw [impl_isMono h0 h1 hk, Bool.eq_false_iff.mpr h]
    rfl
/-! ### Lists of the numbers at which something holds -/
def filtN (p : Nat → Bool) : Nat → List Int
  | 0 => []
  | m + 1 => if p m then filtN p m ++ [(m : Int)] else filtN p m
theorem filtN_length (p : Nat → Bool) (m : Nat) : (filtN p m).length ≤ m := by
  induction m with
  | zero => exact Nat.le_refl _
  | succ m ih => rw [filtN]; split
                 · rw [List.length_append, List.length_singleton]; omega
                 · omega
theorem filtN_congr {p q : Nat → Bool} {m : Nat} (h : ∀ i, i < m → p i = q i) : filtN p m = filtN q m := by
  induction m with
  | zero => rfl
  | succ m ih => rw [filtN, filtN, ih fun i hi => h i (by omega), h m (by omega)]
/-! ### A bit put in, and taken out -/
def del (x i : Nat) : Nat := x % 2 ^ i + x / 2 ^ (i + 1) * 2 ^ i
theorem ins_lt' {m x i b : Nat} (hm : m ≤ 4) (hx : x < 2 ^ m) (hi : i < m + 1) (hb : b ≤ 1) : ins x i b < 2 ^ (m + 1) := by
  have h : ∀ m : Fin 5, ∀ x : Fin 16, x.val < 2 ^ m.val → ∀ i : Fin 5, i.val < m.val + 1 → ∀ b : Fin 2, ins x i b < 2 ^ (m.val + 1) := by decide +kernel
  have h16 := pow_le_pow hm
  exact h ⟨m, by omega⟩ ⟨x, by omega⟩ hx ⟨i, by omega⟩ hi ⟨b, by omega⟩
theorem del_lt {m x i : Nat} (hm : m ≤ 4) (hx : x < 2 ^ (m + 1)) (hi : i < m + 1) : del x i < 2 ^ m := by
  have h : ∀ m : Fin 5, ∀ x : Fin 32, x.val < 2 ^ (m.val + 1) → ∀ i : Fin 5, i.val < m.val + 1 → del x i < 2 ^ m.val := by decide +kernel
  have h16 := pow_le_pow (show m + 1 ≤ 5 by omega)
  exact h ⟨m, by omega⟩ ⟨x, by omega⟩ hx ⟨i, by omega⟩ hi
theorem ins_del {x i : Nat} (hx : x < 32) (hi : i < 5) : ins (del x i) i (bitN x i) = x := by
  have h : ∀ x : Fin 32, ∀ i : Fin 5, ins (del x i) i (bitN x i) = x := by decide +kernel
  exact h ⟨x, hx⟩ ⟨i, hi⟩
theorem del_ins {x i b : Nat} (hx : x < 16) (hi : i < 5) (hb : b ≤ 1) : del (ins x i b) i = x := by
  have h : ∀ x : Fin 16, ∀ i : Fin 5, ∀ b : Fin 2, del (ins x i b) i = x := by decide +kernel
  exact h ⟨x, hx⟩ ⟨i, hi⟩ ⟨b, by omega⟩
theorem bit_ins {x i b : Nat} (hx : x < 16) (hi : i < 5) (hb : b ≤ 1) : bitN (ins x i b) i = b := by
  have h : ∀ x : Fin 16, ∀ i : Fin 5, ∀ b : Fin 2, bitN (ins x i b) i = b.val := by decide +kernel
  exact h ⟨x, hx⟩ ⟨i, hi⟩ ⟨b, by omega⟩
theorem xor_top {n x : Nat} (hn : n ≤ 5) (hx : x < 2 ^ n) : x ^^^ (2 ^ n - 1) = 2 ^ n - 1 - x := by
  have h : ∀ n : Fin 6, ∀ x : Fin 32, x.val < 2 ^ n.val → x.val ^^^ (2 ^ n.val - 1) = 2 ^ n.val - 1 - x.val := by decide +kernel
  have := pow_le hn
  exact h ⟨n, by omega⟩ ⟨x, by omega⟩ hx
theorem flip_lt {n x i : Nat} (hx : x < 2 ^ n) (hi : i < n) : x ^^^ 2 ^ i < 2 ^ n := Nat.xor_lt_two_pow hx (pow_lt hi)
theorem set_lt {n x i : Nat} (hx : x < 2 ^ n) (hi : i < n) : x ||| 2 ^ i < 2 ^ n := Nat.or_lt_two_pow hx (pow_lt hi)
end Go.Proofs.Ytnkkkabdpbonaaa.U
