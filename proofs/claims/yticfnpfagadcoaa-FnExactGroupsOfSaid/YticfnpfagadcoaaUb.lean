/- Restrictions of tables, and monotone tables: both ways. Simple games: both ways; small numbers' bits. -/
import Derived.Test.YticfnpfagadcoaaUa
import Derived.Test.YticfnpfagadcoaaFGc
namespace Go.Proofs.Yticfnpfagadcoaa.U
open Go.RowKit Go.Proofs.YticfnpfagadcoaaW.PrintWords Go.Proofs.YticfnpfagadcoaaW.PrintLast Go.Proofs.YticfnpfagadcoaaW.PrintMore Go.Proofs.Yticfnpfagadcoaa.F Go.Proofs.Yticfnpfagadcoaa.B
set_option linter.unusedVariables false
set_option linter.unusedSimpArgs false
theorem insert_some {x i b : Nat} (hx : x < 16) (hi : i < 5) (hb : b ≤ 1) : spec_l3Insert.f x i b = some ((ins x i b : Nat) : Int) := by
  have h : ∀ x : Fin 16, ∀ i : Fin 5, ∀ b : Fin 2, spec_l3Insert.f ((x : Nat) : Int) ((i : Nat) : Int) ((b : Nat) : Int) = some ((ins x i b : Nat) : Int) := by decide +kernel
  exact h ⟨x, hx⟩ ⟨i, hi⟩ ⟨b, by omega⟩
/-- The word of a table (of m + 1 variables) with a variable fixed. -/
def resW (m w i b : Nat) : Nat := tabN (fun x => w.testBit (ins x i b)) (2 ^ m)
theorem resW_lt (m w i b : Nat) : resW m w i b < 2 ^ 2 ^ m := tabN_lt _ _
theorem resW_lt32 {m : Nat} (hm : m ≤ 4) (w i b : Nat) : resW m w i b < 4294967296 := Nat.lt_of_lt_of_le (resW_lt m w i b) (full_le (by omega))
theorem testBit_resW {m w i b x : Nat} (hx : x < 2 ^ m) : (resW m w i b).testBit x = w.testBit (ins x i b) := by unfold resW; rw [testBit_tabN]; simp [hx]
theorem pred_succ_cast {m : Nat} (h : m < 9223372036854775807) : wrap64 (((m + 1 : Nat) : Int) - 1) = (m : Int) := by rw [wrap64_of (by omega) (by omega)]; omega
theorem restrict_loop {m w i b : Nat} (ht : Tab (m + 1) w) (hi : i < m + 1) (hb : b ≤ 1) : ∀ d k x, x + d = 2 ^ m → d < k →
    spec_l3Restrict.l0 k i b ((orN (fun x => bitN w (ins x i b) <<< x) x : Nat) : Int) x ((m + 1 : Nat) : Int) w = some ((m : Int), ((orN (fun x => bitN w (ins x i b) <<< x) (2 ^ m) : Nat) : Int)) := by
  have hm := ht.1
  have hM := pow_le_pow (n := m) (m := 4) (by omega)
  intro d
  induction d with
  | zero =>
    intro k x hx hk
    obtain ⟨k, rfl⟩ : ∃ m, k = m + 1 := ⟨k - 1, by omega⟩
    obtain rfl : x = 2 ^ m := by omega
    simp only [spec_l3Restrict.l0]
    rw [pred_succ_cast (by omega), if_pos (by omega), shl1_of (by omega), if_neg (by omega)]
  | succ d ih =>
    intro k x hx hk
    obtain ⟨k, rfl⟩ : ∃ m, k = m + 1 := ⟨k - 1, by omega⟩
    have hlt : x < 2 ^ m := by omega
    have hy := ins_lt (show x < 16 by omega) (show i < 5 by omega) hb
    have hc := @bitN_shl_lt w (ins x i b) x 32 (by omega)
    have ho : orN (fun x => bitN w (ins x i b) <<< x) x < 2 ^ 32 := orN_lt fun j hj => bitN_shl_lt (by omega)
    simp only [spec_l3Restrict.l0]
    rw [pred_succ_cast (by omega), if_pos (by omega), shl1_of (by omega), if_pos (by exact_mod_cast hlt), insert_some (by omega) (by omega) hb]
    simp only [Option.bind_some]
    rw [if_pos (Int.natCast_nonneg _), if_pos (Int.natCast_nonneg _), bit_cast ht.lt63 (by omega), shl_cast (by omega) (by omega), or_cast (by omega) (by omega), wrap64_succ (by omega)]
    exact ih k (x + 1) (by omega) (by omega)
theorem spec_restrict {m w i b k : Nat} (ht : Tab (m + 1) w) (hi : i < m + 1) (hb : b ≤ 1) (hk : 32 < k) : spec_l3Restrict.f k ((m + 1 : Nat) : Int) w i b = some ((m : Int), ((resW m w i b : Nat) : Int)) := by
  have hm := ht.1
  have hM := pow_le_pow (n := m) (m := 4) (by omega)
  have h := restrict_loop ht hi hb (2 ^ m) k 0 (by omega) (by omega)
  rw [orN_tab w (fun x => ins x i b) (2 ^ m)] at h
  exact h
theorem impl_restrict {m w i b : Nat} (ht : Tab (m + 1) w) (hi : i < m + 1) (hb : b ≤ 1) : impl_Table_restrict.f ((m + 1 : Nat) : Int) w i b = some ((m : Int), ((resW m w i b : Nat) : Int)) := by
  have := ht.lt
  have := ht.1
  unfold impl_Table_restrict.f
  rw [if_pos (by omega)]
  simp only [Int.toNat_natCast, Nat.add_sub_cancel]
  rw [show (((m + 1 : Nat) : Int) - 1) = (m : Int) by omega]
  rfl
/-- No change of variable i from 0 to 1 changes a value from 1 to 0. -/
def monoAt (n w i : Nat) : Bool := ldiff (resW (n - 1) w i 0) (resW (n - 1) w i 1) == 0
/-- The table is monotone. -/
def mono (n w : Nat) : Bool := allN (monoAt n w) n
theorem ldiff_zero_iff (a b : Nat) : ldiff a b = 0 ↔ ∀ i, a.testBit i = true → b.testBit i = true := by
  constructor
  · intro h i hi
    have := testBit_ldiff a b i
    rw [h, hi, Nat.zero_testBit] at this
    cases hb : b.testBit i
    · rw [hb] at this; cases this
    · rfl
  · intro h
    apply Nat.eq_of_testBit_eq
    intro i
    rw [testBit_ldiff, Nat.zero_testBit]
    cases ha : a.testBit i
    · rfl
    · rw [h i ha]; rfl
theorem and_eq_iff (a b : Nat) : a &&& b = a ↔ ldiff a b = 0 := by
  rw [ldiff_zero_iff]
  constructor
  · intro h i hi
    rw [← h, Nat.testBit_and, Bool.and_eq_true] at hi
    exact hi.2
  · intro h
    apply Nat.eq_of_testBit_eq
    intro i
    rw [Nat.testBit_and]
    cases ha : a.testBit i
    · rfl
    · rw [h i ha]; rfl
theorem spec_mono_loop {n w : Nat} (ht : Tab n w) : ∀ d k i, i + d = n → d + 40 < k → allN (monoAt n w) i = true → spec_l15Monotone.l0 k i n w = some (mono n w) := by
  have hn := ht.1
  intro d
  induction d with
  | zero =>
    intro k i hi hk ha
    obtain ⟨k, rfl⟩ : ∃ m, k = m + 1 := ⟨k - 1, by omega⟩
    obtain rfl : i = n := by omega
    simp only [spec_l15Monotone.l0]
    rw [if_neg (by omega), mono, ha]
  | succ d ih =>
    intro k i hi hk ha
    obtain ⟨k, rfl⟩ : ∃ m, k = m + 1 := ⟨k - 1, by omega⟩
    obtain ⟨m, rfl⟩ : ∃ m, n = m + 1 := ⟨n - 1, by omega⟩
    have h0 := resW_lt32 (m := m) (by omega) w i 0
    have h1 := resW_lt32 (m := m) (by omega) w i 1
    simp only [spec_l15Monotone.l0]
    have e0 : spec_l3Restrict.f k ((m + 1 : Nat) : Int) w i 0 = some ((m : Int), ((resW m w i 0 : Nat) : Int)) := spec_restrict (b := 0) ht (by omega) (by omega) (by omega)
    have e1 : spec_l3Restrict.f k ((m + 1 : Nat) : Int) w i 1 = some ((m : Int), ((resW m w i 1 : Nat) : Int)) := spec_restrict (b := 1) ht (by omega) (by omega) (by omega)
    rw [if_pos (by omega), e0]
    simp only [Option.bind_some]
    rw [e1]
    simp only [Option.bind_some]
    rw [and_cast (by omega) (by omega)]
    by_cases hq : monoAt (m + 1) w i = true
    · have hz : resW m w i 0 &&& resW m w i 1 = resW m w i 0 := (and_eq_iff _ _).mpr (by simpa [monoAt] using hq)
      rw [if_pos (by rw [hz])]
      rw [wrap64_succ (by omega)]
      exact ih k (i + 1) (by omega) (by omega) (allN_next ha hq)
    · have hz : ¬ (((resW m w i 0 &&& resW m w i 1 : Nat) : Int) = ((resW m w i 0 : Nat) : Int)) := by
        intro h
        have h : resW m w i 0 &&& resW m w i 1 = resW m w i 0 := by exact_mod_cast h
        exact hq (by simpa [monoAt] using (and_eq_iff _ _).mp h)
      rw [if_neg hz, mono, allN_miss (i := i) (by omega) (Bool.eq_false_iff.mpr hq)]
theorem spec_mono {n w k : Nat} (ht : Tab n w) (hk : 50 < k) : spec_l15Monotone.f k n w = some (mono n w) := by
  have := ht.1
  exact spec_mono_loop ht n k 0 (by omega) (by omega) rfl
theorem impl_mono_loop {n w : Nat} (ht : Tab n w) : ∀ d k i, i + d = n → d < k → allN (monoAt n w) i = true → impl_Table_isMonotone.l0 k n i n w = some (mono n w) := by
  have hn := ht.1
  intro d
  induction d with
  | zero =>
    intro k i hi hk ha
    obtain ⟨k, rfl⟩ : ∃ m, k = m + 1 := ⟨k - 1, by omega⟩
    obtain rfl : i = n := by omega
    simp only [impl_Table_isMonotone.l0]
    rw [if_neg (by omega), mono, ha]
  | succ d ih =>
    intro k i hi hk ha
    obtain ⟨k, rfl⟩ : ∃ m, k = m + 1 := ⟨k - 1, by omega⟩
    obtain ⟨m, rfl⟩ : ∃ m, n = m + 1 := ⟨n - 1, by omega⟩
    have h0 := resW_lt32 (m := m) (by omega) w i 0
    have h1 := resW_lt32 (m := m) (by omega) w i 1
    simp only [impl_Table_isMonotone.l0]
    have e0 : impl_Table_restrict.f ((m + 1 : Nat) : Int) w i 0 = some ((m : Int), ((resW m w i 0 : Nat) : Int)) := impl_restrict (b := 0) ht (by omega) (by omega)
    have e1 : impl_Table_restrict.f ((m + 1 : Nat) : Int) w i 1 = some ((m : Int), ((resW m w i 1 : Nat) : Int)) := impl_restrict (b := 1) ht (by omega) (by omega)
    rw [if_pos (by omega), e0]
    simp only [Option.bind_some]
    rw [e1]
    simp only [Option.bind_some]
    rw [andNot_cast (by omega) (by omega)]
    by_cases hq : monoAt (m + 1) w i = true
    · have hz : ldiff (resW m w i 0) (resW m w i 1) = 0 := by simpa [monoAt] using hq
      rw [if_pos (by rw [hz]; rfl), wrap64_succ (by omega)]
      exact ih k (i + 1) (by omega) (by omega) (allN_next ha hq)
    · have hz : ¬ (((ldiff (resW m w i 0) (resW m w i 1) : Nat) : Int) = 0) := by
        intro h
        exact hq (by simpa [monoAt] using h)
      rw [if_neg hz, mono, allN_miss (i := i) (by omega) (Bool.eq_false_iff.mpr hq)]
theorem impl_mono {n w k : Nat} (ht : Tab n w) (hk : 50 < k) : impl_Table_isMonotone.f k n w = some (mono n w) := by
  have := ht.1
  exact impl_mono_loop ht n k 0 (by omega) (by omega) rfl
theorem spec_isMono (a b : Int) {k : Nat} (hk : 50 < k) : spec_IsMonotone.f k a b = some (isTab a b && mono a.toNat b.toNat) := by
  unfold spec_IsMonotone.f
  rw [spec_isTable]
  simp only [Option.bind_some]
  by_cases h : isTab a b = true
  · obtain ⟨n, w, rfl, rfl, ht⟩ := tab_of h
    rw [if_pos h, spec_mono ht hk, h]
    rfl
  · rw [if_neg h, Bool.eq_false_iff.mpr h]; rfl
theorem impl_isMono {a b : Int} (h0 : -9223372036854775808 ≤ b) (h1 : b ≤ 9223372036854775807) {k : Nat} (hk : 50 < k) : impl_IsMonotone.f k a b = some (isTab a b && mono a.toNat b.toNat) := by
  unfold impl_IsMonotone.f
  rw [impl_isTable h0 h1]
  simp only [Option.bind_some]
  by_cases h : isTab a b = true
  · obtain ⟨n, w, rfl, rfl, ht⟩ := tab_of h
    rw [if_pos h, impl_mono ht hk, h]
    rfl
  · rw [if_neg h, Bool.eq_false_iff.mpr h]; rfl
end Go.Proofs.Yticfnpfagadcoaa.U

namespace Go.Proofs.Yticfnpfagadcoaa.U
open Go.RowKit Go.Proofs.YticfnpfagadcoaaW.PrintWords Go.Proofs.YticfnpfagadcoaaW.PrintLast Go.Proofs.YticfnpfagadcoaaW.PrintMore Go.Proofs.Yticfnpfagadcoaa.F Go.Proofs.Yticfnpfagadcoaa.B
set_option linter.unusedVariables false
set_option linter.unusedSimpArgs false
/-- A simple game: monotone, 0 for no player and 1 for all. -/
def game (n w : Nat) : Bool := mono n w && (!w.testBit 0 && w.testBit (2 ^ n - 1))
theorem pred_cast' {m : Nat} (h0 : 0 < m) (h1 : m < 9223372036854775808) : wrap64 (((m : Nat) : Int) - 1) = ((m - 1 : Nat) : Int) := by rw [wrap64_of (by omega) (by omega)]; omega
theorem upred_cast {m : Nat} (h0 : 0 < m) (h1 : m < 9223372036854775808) : IntKind.u64.wrap (((m : Nat) : Int) - 1) = ((m - 1 : Nat) : Int) := by rw [wrapu_of (by omega) (by omega)]; omega
theorem and_one_cast {w : Nat} (h : w < 9223372036854775808) : Go.bits .and .i64 (w : Int) 1 = ((bitN w 0 : Nat) : Int) := by
  have := and_cast (b := 1) h (by decide)
  rw [← shr_and_one]
  exact this
theorem bit_eq_one {w x : Nat} : ((((bitN w x : Nat) : Int)) = 1) ↔ w.testBit x = true := by
  rw [← bitN_eq_one]
  exact ⟨fun h => by exact_mod_cast h, fun h => by exact_mod_cast h⟩
theorem bit_eq_zero {w x : Nat} : ((((bitN w x : Nat) : Int)) = 0) ↔ w.testBit x = false := by
  rw [← bitN_eq_zero]
  exact ⟨fun h => by exact_mod_cast h, fun h => by exact_mod_cast h⟩
theorem bit_beq_one (w x : Nat) : ((((bitN w x : Nat) : Int)) == 1) = w.testBit x := by unfold bitN; cases w.testBit x <;> rfl
theorem bit_beq_zero (w x : Nat) : ((((bitN w x : Nat) : Int)) == 0) = !w.testBit x := by unfold bitN; cases w.testBit x <;> rfl
theorem spec_game {n w k : Nat} (ht : Tab n w) (hk : 50 < k) : spec_IsSimpleGame.f k n w = some (game n w) := by
  have hM := pow_le ht.1
  have hn := ht.1
  have hp := pow_pos n
  unfold spec_IsSimpleGame.f
  rw [spec_isTable, isTab_of ht]
  simp only [Option.bind_some, if_true]
  rw [spec_mono ht hk]
  simp only [Option.bind_some]
  unfold game
  cases hm : mono n w with
  | false => rfl
  | true =>
    rw [if_pos rfl, and_one_cast ht.lt63]
    cases h0 : w.testBit 0 with
    | true => rw [if_neg (by rw [bit_eq_zero, h0]; simp)]; rfl
    | false =>
      rw [if_pos (bit_eq_zero.mpr h0), if_pos (by omega), shlu1_of (by omega), upred_cast hp (by omega), if_pos (Int.natCast_nonneg _), bit_cast ht.lt63 (by omega), bit_beq_one]
      rfl
theorem impl_game_tab {n w k : Nat} (ht : Tab n w) (hk : 50 < k) : impl_IsSimpleGame.f k n w = some (game n w) := by
  have hM := pow_le ht.1
  have hn := ht.1
  have hp := pow_pos n
  have hlt := ht.lt
  unfold impl_IsSimpleGame.f
  rw [impl_isMono (by omega) (by omega) hk, isTab_of ht]
  simp only [Option.bind_some, Bool.true_and, Int.toNat_natCast]
  unfold game
  cases hm : mono n w with
  | false => rfl
  | true =>
    have e0 : impl_Table_at.f n w 0 = some ((bitN w 0 : Nat) : Int) := at_some' (x := 0) ht.lt63 (by decide)
    rw [if_pos rfl, e0]
    simp only [Option.bind_some]
    cases h0 : w.testBit 0 with
    | true => rw [if_neg (by rw [bit_eq_zero, h0]; simp)]; rfl
    | false =>
      rw [if_pos (bit_eq_zero.mpr h0), size_some _ (by omega)]
      simp only [Option.bind_some]
      rw [pred_cast' hp (by omega), at_some' ht.lt63 (by omega)]
      simp only [Option.bind_some]
      rw [bit_beq_one]
      rfl
theorem spec_isGame (a b : Int) {k : Nat} (hk : 50 < k) : spec_IsSimpleGame.f k a b = some (isTab a b && game a.toNat b.toNat) := by
  by_cases h : isTab a b = true
  · obtain ⟨n, w, rfl, rfl, ht⟩ := tab_of h
    rw [spec_game ht hk, h]
    rfl
  · unfold spec_IsSimpleGame.f
    rw [spec_isTable]
    simp only [Option.bind_some]
    rw [if_neg h, Bool.eq_false_iff.mpr h]
    rfl
theorem impl_isGame {a b : Int} (h0 : -9223372036854775808 ≤ b) (h1 : b ≤ 9223372036854775807) {k : Nat} (hk : 50 < k) : impl_IsSimpleGame.f k a b = some (isTab a b && game a.toNat b.toNat) := by
  by_cases h : isTab a b = true
  · obtain ⟨n, w, rfl, rfl, ht⟩ := tab_of h
    rw [impl_game_tab ht hk, h]
    rfl
  · unfold impl_IsSimpleGame.f
    rw [impl_isMono h0 h1 hk, Bool.eq_false_iff.mpr h]
    rfl
/-! ### Lists of the numbers at which something holds -/
def filtN (p : Nat → Bool) : Nat → List Int
  | 0 => []
  | m + 1 => if p m then filtN p m ++ [(m : Int)] else filtN p m
theorem filtN_length (p : Nat → Bool) (m : Nat) : (filtN p m).length ≤ m := by
  induction m with
  | zero => exact Nat.le_refl _
  | succ m ih => rw [filtN]; split
                 · rw [List.length_append, List.length_singleton]; omega
                 · omega
theorem filtN_congr {p q : Nat → Bool} {m : Nat} (h : ∀ i, i < m → p i = q i) : filtN p m = filtN q m := by
  induction m with
  | zero => rfl
  | succ m ih => rw [filtN, filtN, ih fun i hi => h i (by omega), h m (by omega)]
/-! ### A bit put in, and taken out -/
def del (x i : Nat) : Nat := x % 2 ^ i + x / 2 ^ (i + 1) * 2 ^ i
theorem ins_lt' {m x i b : Nat} (hm : m ≤ 4) (hx : x < 2 ^ m) (hi : i < m + 1) (hb : b ≤ 1) : ins x i b < 2 ^ (m + 1) := by
  have h : ∀ m : Fin 5, ∀ x : Fin 16, x.val < 2 ^ m.val → ∀ i : Fin 5, i.val < m.val + 1 → ∀ b : Fin 2, ins x i b < 2 ^ (m.val + 1) := by decide +kernel
  have h16 := pow_le_pow hm
  exact h ⟨m, by omega⟩ ⟨x, by omega⟩ hx ⟨i, by omega⟩ hi ⟨b, by omega⟩
theorem del_lt {m x i : Nat} (hm : m ≤ 4) (hx : x < 2 ^ (m + 1)) (hi : i < m + 1) : del x i < 2 ^ m := by
  have h : ∀ m : Fin 5, ∀ x : Fin 32, x.val < 2 ^ (m.val + 1) → ∀ i : Fin 5, i.val < m.val + 1 → del x i < 2 ^ m.val := by decide +kernel
  have h16 := pow_le_pow (show m + 1 ≤ 5 by omega)
  exact h ⟨m, by omega⟩ ⟨x, by omega⟩ hx ⟨i, by omega⟩ hi
theorem ins_del {x i : Nat} (hx : x < 32) (hi : i < 5) : ins (del x i) i (bitN x i) = x := by
  have h : ∀ x : Fin 32, ∀ i : Fin 5, ins (del x i) i (bitN x i) = x := by decide +kernel
  exact h ⟨x, hx⟩ ⟨i, hi⟩
theorem del_ins {x i b : Nat} (hx : x < 16) (hi : i < 5) (hb : b ≤ 1) : del (ins x i b) i = x := by
  have h : ∀ x : Fin 16, ∀ i : Fin 5, ∀ b : Fin 2, del (ins x i b) i = x := by decide +kernel
  exact h ⟨x, hx⟩ ⟨i, hi⟩ ⟨b, by omega⟩
theorem bit_ins {x i b : Nat} (hx : x < 16) (hi : i < 5) (hb : b ≤ 1) : bitN (ins x i b) i = b := by
  have h : ∀ x : Fin 16, ∀ i : Fin 5, ∀ b : Fin 2, bitN (ins x i b) i = b.val := by decide +kernel
  exact h ⟨x, hx⟩ ⟨i, hi⟩ ⟨b, by omega⟩
theorem xor_top {n x : Nat} (hn : n ≤ 5) (hx : x < 2 ^ n) : x ^^^ (2 ^ n - 1) = 2 ^ n - 1 - x := by
  have h : ∀ n : Fin 6, ∀ x : Fin 32, x.val < 2 ^ n.val → x.val ^^^ (2 ^ n.val - 1) = 2 ^ n.val - 1 - x.val := by decide +kernel
  have := pow_le hn
  exact h ⟨n, by omega⟩ ⟨x, by omega⟩ hx
theorem flip_lt {n x i : Nat} (hx : x < 2 ^ n) (hi : i < n) : x ^^^ 2 ^ i < 2 ^ n := Nat.xor_lt_two_pow hx (pow_lt hi)
theorem set_lt {n x i : Nat} (hx : x < 2 ^ n) (hi : i < n) : x ||| 2 ^ i < 2 ^ n := Nat.or_lt_two_pow hx (pow_lt hi)
end Go.Proofs.Yticfnpfagadcoaa.U
