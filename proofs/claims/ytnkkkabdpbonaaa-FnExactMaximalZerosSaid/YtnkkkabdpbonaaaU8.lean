/- Minimal points and maximal zeros: both ways. -/
import Derived.Test.YtnkkkabdpbonaaaUa
import Derived.Test.YtnkkkabdpbonaaaFimplTableedgePoints
namespace Go.Proofs.Ytnkkkabdpbonaaa.U
open Go.RowKit Go.Proofs.YtnkkkabdpbonaaaW.PrintWords Go.Proofs.YtnkkkabdpbonaaaW.PrintLast Go.Proofs.YtnkkkabdpbonaaaW.PrintMore Go.Proofs.Ytnkkkabdpbonaaa.F Go.Proofs.Ytnkkkabdpbonaaa.B
set_option linter.unusedVariables false
set_option linter.unusedSimpArgs false
/-- A change of variable i of x, if x has the bit b there, leads away from the value v. -/
def edgeC (w : Nat) (v b : Bool) (x i : Nat) : Bool := (x.testBit i != b) || (w.testBit (x ^^^ 2 ^ i) != v)
/-- What is known of x behind the first i variables. -/
def edgeS (w : Nat) (v b : Bool) (x i : Nat) : Bool := (w.testBit x == v) && allN (edgeC w v b x) i
/-- x has the value v, and each change of a variable with the bit b leads to the other value. -/
def edge (n w : Nat) (v b : Bool) (x : Nat) : Bool := edgeS w v b x n
theorem edgeS_succ (w : Nat) (v b : Bool) (x i : Nat) : edgeS w v b x (i + 1) = (edgeS w v b x i && edgeC w v b x i) := by
  unfold edgeS
  rw [allN, Bool.and_assoc]
theorem changes_some {n w x i : Nat} (ht : Tab n w) (hx : x < 2 ^ n) (hi : i < n) : impl_Table_changes.f n w x (shl .i64 1 i) = some (w.testBit x != w.testBit (x ^^^ 2 ^ i)) := by
  have hn := ht.1
  have hx32 := ht.x_lt hx
  have hp := pow_le_pow (show i ≤ 4 by omega)
  have hf := Nat.lt_of_lt_of_le (flip_lt hx hi) (pow_le ht.1)
  unfold impl_Table_changes.f
  rw [shl1_of (by omega), at_some' ht.lt63 (by omega)]
  simp only [Option.bind_some]
  rw [xor_cast (by omega) (by omega), at_some' ht.lt63 (by omega)]
  simp only [Option.bind_some]
  unfold bitN
  cases w.testBit x <;> cases w.testBit (x ^^^ 2 ^ i) <;> rfl
theorem bit_is (x i : Nat) (b : Bool) : ((((bitN x i : Nat) : Int)) = ((b.toNat : Nat) : Int)) ↔ x.testBit i = b := by
  unfold bitN
  cases x.testBit i <;> cases b <;> simp
theorem edge_inner {n w x : Nat} (v b : Bool) (ht : Tab n w) (hx : x < 2 ^ n) (L : List Int) (hL : L.length < 1000) : ∀ d k i, i + d = n → d < k →
    ∃ k', k ≤ k' + d + 1 ∧ impl_Table_edgePoints.l1 k ((v.toNat : Nat) : Int) ((b.toNat : Nat) : Int) L x (edgeS w v b x i) ((2 ^ n : Nat) : Int) x n i n w = impl_Table_edgePoints.l0 k' ((v.toNat : Nat) : Int) ((b.toNat : Nat) : Int) (if edge n w v b x then L ++ [(x : Int)] else L) ((2 ^ n : Nat) : Int) ((x + 1 : Nat) : Int) n w := by
  have hn := ht.1
  have hx32 := ht.x_lt hx
  intro d
  induction d with
  | zero =>
    intro k i hi hk
    obtain ⟨k, rfl⟩ : ∃ m, k = m + 1 := ⟨k - 1, by omega⟩
    obtain rfl : i = n := by omega
    refine ⟨k, by omega, ?_⟩
    simp only [impl_Table_edgePoints.l1]
    rw [if_neg (by omega), wrap64_succ (by omega)]
    unfold edge
    cases hs : edgeS w v b x i with
    | true => rw [if_pos rfl, if_pos rfl, if_pos (by omega)]
    | false => rw [if_neg (by decide), if_neg (by decide)]
  | succ d ih =>
    intro k i hi hk
    obtain ⟨k, rfl⟩ : ∃ m, k = m + 1 := ⟨k - 1, by omega⟩
    obtain ⟨k', hk', e⟩ := ih k (i + 1) (by omega) (by omega)
    refine ⟨k', by omega, ?_⟩
    rw [edgeS_succ] at e
    simp only [impl_Table_edgePoints.l1]
    rw [if_pos (by omega), wrap64_succ (by omega)]
    cases hs : edgeS w v b x i with
    | false =>
      rw [hs, Bool.false_and] at e
      rw [if_neg (by decide)]
      exact e
    | true =>
      rw [hs, Bool.true_and] at e
      have hv : w.testBit x = v := by
        unfold edgeS at hs
        rw [Bool.and_eq_true, beq_iff_eq] at hs
        exact hs.1
      rw [if_pos rfl, if_pos (by omega), bit_cast (by omega) (by omega)]
      by_cases hq : x.testBit i = b
      · rw [if_pos ((bit_is x i b).mpr hq), changes_some ht hx (by omega)]
        simp only [Option.bind_some]
        have hc : edgeC w v b x i = (w.testBit x != w.testBit (x ^^^ 2 ^ i)) := by
          unfold edgeC
          rw [hq, hv]
          cases v <;> cases b <;> cases w.testBit (x ^^^ 2 ^ i) <;> rfl
        rw [hc] at e
        exact e
      · rw [if_neg (fun h => hq ((bit_is x i b).mp h))]
        have hc : edgeC w v b x i = true := by
          unfold edgeC
          cases hb : x.testBit i <;> cases hb2 : b <;> simp [hb, hb2] at hq ⊢
        rw [hc] at e
        exact e
theorem edge_outer {n w : Nat} (v b : Bool) (ht : Tab n w) : ∀ d k x, x + d = 2 ^ n → d * 10 < k →
    impl_Table_edgePoints.l0 k ((v.toNat : Nat) : Int) ((b.toNat : Nat) : Int) (filtN (edge n w v b) x) ((2 ^ n : Nat) : Int) x n w = some (filtN (edge n w v b) (2 ^ n)) := by
  have hM := pow_le ht.1
  have hn := ht.1
  intro d
  induction d with
  | zero =>
    intro k x hx hk
    obtain ⟨k, rfl⟩ : ∃ m, k = m + 1 := ⟨k - 1, by omega⟩
    obtain rfl : x = 2 ^ n := by omega
    simp only [impl_Table_edgePoints.l0]
    rw [if_neg (by omega)]
  | succ d ih =>
    intro k x hx hk
    obtain ⟨k, rfl⟩ : ∃ m, k = m + 1 := ⟨k - 1, by omega⟩
    have hlt : x < 2 ^ n := by omega
    have hl := filtN_length (edge n w v b) x
    obtain ⟨k', hk', e⟩ := edge_inner v b ht hlt (filtN (edge n w v b) x) (by omega) n k 0 (by omega) (by omega)
    simp only [impl_Table_edgePoints.l0]
    rw [if_pos (by exact_mod_cast hlt), at_some' ht.lt63 (by omega)]
    simp only [Option.bind_some]
    have hz : ((((bitN w x : Nat) : Int)) == ((v.toNat : Nat) : Int)) = edgeS w v b x 0 := by
      unfold edgeS bitN
      rw [allN]
      cases w.testBit x <;> cases v <;> rfl
    rw [hz]
    exact e.trans (ih k' (x + 1) (by omega) (by omega))
theorem impl_edge {n w k : Nat} (v b : Bool) (ht : Tab n w) (hk : 330 < k) : impl_Table_edgePoints.f k n w ((v.toNat : Nat) : Int) ((b.toNat : Nat) : Int) = some (filtN (edge n w v b) (2 ^ n)) := by
  have hM := pow_le ht.1
  unfold impl_Table_edgePoints.f
  rw [size_some _ (by have := ht.1; omega)]
  simp only [Option.bind_some]
  exact edge_outer v b ht (2 ^ n) k 0 (by omega) (by omega)
end Go.Proofs.Ytnkkkabdpbonaaa.U
