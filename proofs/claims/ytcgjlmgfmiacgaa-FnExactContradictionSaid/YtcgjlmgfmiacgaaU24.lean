/- The first two inputs with 1 and two with 0 that tell that no weights make a table: both ways. -/
import Derived.Test.YtcgjlmgfmiacgaaUG
import Derived.Test.YtcgjlmgfmiacgaaFimplContradiction
import Derived.Test.YtcgjlmgfmiacgaaFspecContradiction
namespace Go.Proofs.Ytcgjlmgfmiacgaa.U
open Go.RowKit Go.Proofs.YtcgjlmgfmiacgaaW.PrintWords Go.Proofs.YtcgjlmgfmiacgaaW.PrintLast Go.Proofs.YtcgjlmgfmiacgaaW.PrintMore Go.Proofs.Ytcgjlmgfmiacgaa.F Go.Proofs.Ytcgjlmgfmiacgaa.B
set_option linter.unusedVariables false
set_option linter.unusedSimpArgs false
set_option maxRecDepth 100000
/-- The fourth input. -/
def fourth (a b c : Nat) : Nat := a ^^^ b ^^^ c
theorem fourth_xor (a b c : Nat) : c ^^^ fourth a b c = a ^^^ b := by
  unfold fourth
  rw [Nat.xor_comm (a ^^^ b) c, ← Nat.xor_assoc, Nat.xor_self, Nat.zero_xor]
theorem fourth_of {a b c d : Nat} (h : a ^^^ b = c ^^^ d) : d = fourth a b c := by
  unfold fourth
  rw [h, Nat.xor_comm c d, Nat.xor_assoc, Nat.xor_self, Nat.xor_zero]
def contrC (w a b c : Nat) : Option (List Int) :=
  if c ≤ fourth a b c ∧ w.testBit c = false ∧ w.testBit (fourth a b c) = false ∧ a &&& b = c &&& fourth a b c then some [(a : Int), (b : Int), (c : Int), ((fourth a b c : Nat) : Int)] else none
def contrB (n w a b : Nat) : Option (List Int) := if w.testBit a = true ∧ w.testBit b = true then firstN (contrC w a b) (2 ^ n) 0 else none
def contrA (n w a : Nat) : Option (List Int) := firstN (contrB n w a) (2 ^ n - a) a
/-- What both say. -/
def tellC {α : Type} (o : Option α) (d : α) : α × Bool := match o with
  | some r => (r, true)
  | none => (d, false)
/-- What comes of a search: its answer, or what follows. -/
def orElse {α β : Type} (o : Option α) (f : α → β) (b : β) : β := match o with
  | some r => f r
  | none => b
theorem isContra_some {a b c : Nat} (ha : a < 32) (hb : b < 32) (hc : c < 32) : impl_isContradiction.f a b c ((fourth a b c : Nat) : Int) = some (decide (a &&& b = c &&& fourth a b c)) := by
  have hd : fourth a b c < 2 ^ 5 := Nat.xor_lt_two_pow (Nat.xor_lt_two_pow ha hb) hc
  unfold impl_isContradiction.f
  rw [and_cast (by omega) (by omega), and_cast (by omega) (by omega), xor_cast (by omega) (by omega), xor_cast (by omega) (by omega), fourth_xor]
  by_cases h : a &&& b = c &&& fourth a b c
  · rw [if_pos (by exact_mod_cast h), decide_eq_true h]; simp
  · rw [if_neg (by exact_mod_cast h), decide_eq_false h]
theorem impl_contra_l2 {n w a b : Nat} (ht : Tab n w) (ha : a < 2 ^ n) (hb : b < 2 ^ n) : ∀ (d k c : Nat), c + d = 2 ^ n → d < k →
    impl_Contradiction.l2 k a b ((2 ^ n : Nat) : Int) a ((2 ^ n : Nat) : Int) c n w = orElse (firstN (contrC w a b) d c) (fun r => some (r, true)) (impl_Contradiction.l1 (k - d - 1) a ((b + 1 : Nat) : Int) ((2 ^ n : Nat) : Int) a n w) := by
  have hM := pow_le ht.1
  have hn := ht.1
  intro d
  induction d with
  | zero =>
    intro k c hc hk
    obtain ⟨k, rfl⟩ : ∃ m, k = m + 1 := ⟨k - 1, by omega⟩
    simp only [impl_Contradiction.l2]
    rw [if_neg (by omega), wrap64_succ (by omega)]
    rfl
  | succ d ih =>
    intro k c hc hk
    obtain ⟨k, rfl⟩ : ∃ m, k = m + 1 := ⟨k - 1, by omega⟩
    have hx : a ^^^ b ^^^ c < 2 ^ n := Nat.xor_lt_two_pow (Nat.xor_lt_two_pow ha hb) (by omega)
    have hab : a ^^^ b < 2 ^ n := Nat.xor_lt_two_pow ha hb
    have hm : contrC w a b c = none → impl_Contradiction.l2 k a b ((2 ^ n : Nat) : Int) a ((2 ^ n : Nat) : Int) (wrap64 ((c : Int) + 1)) n w = orElse (firstN (contrC w a b) (d + 1) c) (fun r => some (r, true)) (impl_Contradiction.l1 (k + 1 - (d + 1) - 1) a ((b + 1 : Nat) : Int) ((2 ^ n : Nat) : Int) a n w) := by
      intro h
      rw [firstN_miss h, wrap64_succ (by omega), show k + 1 - (d + 1) - 1 = k - d - 1 by omega]
      exact ih k (c + 1) (by omega) (by omega)
    simp only [impl_Contradiction.l2]
    rw [if_pos (by omega), xor_cast (by omega) (by omega), xor_cast (by omega) (by omega)]
    by_cases h1 : c ≤ a ^^^ b ^^^ c
    · rw [if_pos (by omega), at_some' ht.lt63 (by omega), Option.bind_some]
      by_cases h2 : w.testBit c = false
      · rw [if_pos (bitz.mpr h2), at_some' ht.lt63 (by omega), Option.bind_some]
        by_cases h3 : w.testBit (a ^^^ b ^^^ c) = false
        · rw [if_pos (bitz.mpr h3)]
          have hi := isContra_some (a := a) (b := b) (c := c) (by omega) (by omega) (by omega)
          unfold fourth at hi
          rw [hi, Option.bind_some]
          by_cases h4 : a &&& b = c &&& (a ^^^ b ^^^ c)
          · rw [if_pos (decide_eq_true h4), firstN_hit (r := [(a : Int), (b : Int), (c : Int), ((fourth a b c : Nat) : Int)]) (by unfold contrC; rw [if_pos (by unfold fourth; exact ⟨h1, h2, h3, h4⟩)])]
            rfl
          · rw [if_neg (by simpa using h4)]
            exact hm (by unfold contrC fourth; rw [if_neg (fun h => h4 h.2.2.2)])
        · rw [if_neg (fun h => h3 (bitz.mp h))]
          exact hm (by unfold contrC fourth; rw [if_neg (fun h => h3 h.2.2.1)])
      · rw [if_neg (fun h => h2 (bitz.mp h))]
        exact hm (by unfold contrC fourth; rw [if_neg (fun h => h2 h.2.1)])
    · rw [if_neg (by omega)]
      exact hm (by unfold contrC fourth; rw [if_neg (fun h => h1 h.1)])
theorem impl_contra_j2 {n w a b k : Nat} (ht : Tab n w) (ha : a < 2 ^ n) (hb : b < 2 ^ n) (hk : 35 < k) : ∃ k', k ≤ k' + 35 ∧
    impl_Contradiction.j2 k a b ((2 ^ n : Nat) : Int) a (!(w.testBit a && w.testBit b)) n w = orElse (contrB n w a b) (fun r => some (r, true)) (impl_Contradiction.l1 k' a ((b + 1 : Nat) : Int) ((2 ^ n : Nat) : Int) a n w) := by
  have hM := pow_le ht.1
  have hn := ht.1
  obtain ⟨k, rfl⟩ : ∃ m, k = m + 1 := ⟨k - 1, by omega⟩
  cases hq : w.testBit a && w.testBit b with
  | true =>
    refine ⟨k - 2 ^ n - 1, by omega, ?_⟩
    simp only [impl_Contradiction.j2]
    rw [Bool.not_true, if_neg (by decide), size_some _ (by omega), Option.bind_some]
    have h := impl_contra_l2 ht ha hb (2 ^ n) k 0 (by omega) (by omega)
    unfold contrB
    rw [if_pos (by simpa using hq)]
    exact h
  | false =>
    refine ⟨k, by omega, ?_⟩
    simp only [impl_Contradiction.j2]
    rw [Bool.not_false, if_pos rfl, wrap64_succ (by omega)]
    unfold contrB
    rw [if_neg (by simpa using hq)]
    rfl
theorem impl_contra_l1 {n w a : Nat} (ht : Tab n w) (ha : a < 2 ^ n) : ∀ (d k b : Nat), b + d = 2 ^ n → d * 40 + 40 < k → ∃ k', k ≤ k' + d * 40 + 1 ∧
    impl_Contradiction.l1 k a b ((2 ^ n : Nat) : Int) a n w = orElse (firstN (contrB n w a) d b) (fun r => some (r, true)) (impl_Contradiction.l0 k' ((2 ^ n : Nat) : Int) ((a + 1 : Nat) : Int) n w) := by
  have hM := pow_le ht.1
  have hn := ht.1
  intro d
  induction d with
  | zero =>
    intro k b hb hk
    obtain ⟨k, rfl⟩ : ∃ m, k = m + 1 := ⟨k - 1, by omega⟩
    refine ⟨k, by omega, ?_⟩
    simp only [impl_Contradiction.l1]
    rw [size_some _ (by omega), Option.bind_some, if_neg (by omega), wrap64_succ (by omega)]
    rfl
  | succ d ih =>
    intro k b hb hk
    obtain ⟨k, rfl⟩ : ∃ m, k = m + 1 := ⟨k - 1, by omega⟩
    have hbM : b < 2 ^ n := by omega
    obtain ⟨k1, hk1, h1⟩ := impl_contra_j2 (k := k) ht ha hbM (by omega)
    have hl : impl_Contradiction.l1 (k + 1) a b ((2 ^ n : Nat) : Int) a n w = impl_Contradiction.j2 k a b ((2 ^ n : Nat) : Int) a (!(w.testBit a && w.testBit b)) n w := by
      simp only [impl_Contradiction.l1]
      rw [size_some _ (by omega), Option.bind_some, if_pos (by omega), at_some' ht.lt63 (by omega), Option.bind_some]
      by_cases h2 : w.testBit a = false
      · rw [if_pos (bitz.mpr h2), h2, Bool.false_and, Bool.not_false]
      · rw [if_neg (fun h => h2 (bitz.mp h)), at_some' ht.lt63 (by omega), Option.bind_some, bitz_beq]
        rw [Bool.not_eq_false] at h2
        rw [h2, Bool.true_and]
    cases hc : contrB n w a b with
    | some r =>
      refine ⟨k, by omega, ?_⟩
      rw [hl, h1, hc, firstN_hit hc]
      rfl
    | none =>
      obtain ⟨k2, hk2, h2⟩ := ih k1 (b + 1) (by omega) (by omega)
      refine ⟨k2, by omega, ?_⟩
      rw [hl, h1, hc, firstN_miss hc, ← h2]
      rfl
theorem impl_contra_l0 {n w : Nat} (ht : Tab n w) : ∀ (d k a : Nat), a + d = 2 ^ n → d * 1400 + 1400 < k →
    impl_Contradiction.l0 k ((2 ^ n : Nat) : Int) a n w = some (tellC (firstN (contrA n w) d a) []) := by
  have hM := pow_le ht.1
  have hn := ht.1
  intro d
  induction d with
  | zero =>
    intro k a ha hk
    obtain ⟨k, rfl⟩ : ∃ m, k = m + 1 := ⟨k - 1, by omega⟩
    simp only [impl_Contradiction.l0]
    rw [if_neg (by omega)]
    rfl
  | succ d ih =>
    intro k a ha hk
    obtain ⟨k, rfl⟩ : ∃ m, k = m + 1 := ⟨k - 1, by omega⟩
    obtain ⟨k1, hk1, h1⟩ := impl_contra_l1 ht (show a < 2 ^ n by omega) (2 ^ n - a) k a (by omega) (by omega)
    simp only [impl_Contradiction.l0]
    rw [if_pos (by omega), h1]
    cases hc : contrA n w a with
    | some r => rw [firstN_hit hc]; unfold contrA at hc; rw [hc]; rfl
    | none =>
      have h2 := ih k1 (a + 1) (by omega) (by omega)
      rw [firstN_miss hc, ← h2]
      unfold contrA at hc
      rw [hc]
      rfl
/-- What both say of numbers. -/
def contrI (a b : Int) : List Int × Bool := if isTab a b = true then tellC (firstN (contrA a.toNat b.toNat) (2 ^ a.toNat) 0) [] else ([], false)
theorem impl_contradiction {a b : Int} (h0 : -9223372036854775808 ≤ b) (h1 : b ≤ 9223372036854775807) {k : Nat} (hk : 50000 < k) : impl_Contradiction.f k a b = some (contrI a b) := by
  unfold impl_Contradiction.f contrI
  rw [impl_isTable h0 h1, Option.bind_some]
  cases hT : isTab a b with
  | false => rw [if_neg (by decide), if_neg (by decide)]
  | true =>
    obtain ⟨n, w, rfl, rfl, ht⟩ := tab_of hT
    have hM := pow_le ht.1
    have hn := ht.1
    rw [if_pos rfl, if_pos rfl, size_some _ (by omega), Option.bind_some, Int.toNat_natCast, Int.toNat_natCast]
    exact impl_contra_l0 ht (2 ^ n) k 0 (by omega) (by omega)
/-- The reference's innermost test. -/
def contrD (w a b c d : Nat) : Option (List Int) :=
  if a &&& b = c &&& d ∧ a ^^^ b = c ^^^ d ∧ w.testBit c = false ∧ w.testBit d = false then some [(a : Int), (b : Int), (c : Int), (d : Int)] else none
theorem contrD_none {w a b c d : Nat} (h : d ≠ fourth a b c) : contrD w a b c d = none := by
  unfold contrD
  rw [if_neg (fun q => h (fourth_of q.2.1))]
theorem contrD_first {n w a b c : Nat} (ha : a < 2 ^ n) (hb : b < 2 ^ n) (hc : c < 2 ^ n) : firstN (contrD w a b c) (2 ^ n - c) c = contrC w a b c := by
  have hx : fourth a b c < 2 ^ n := Nat.xor_lt_two_pow (Nat.xor_lt_two_pow ha hb) hc
  rw [firstN_one (e := fourth a b c) (fun j hj => contrD_none hj)]
  unfold contrD contrC
  by_cases h : c ≤ fourth a b c
  · rw [if_pos (by omega)]
    congr 1
    apply propext
    constructor
    · exact fun q => ⟨h, q.2.2.1, q.2.2.2, q.1⟩
    · exact fun q => ⟨q.2.2.2, (fourth_xor a b c).symm, q.2.1, q.2.2.1⟩
  · rw [if_neg (by omega), if_neg (fun q => h q.1)]
theorem both_bits (w a b : Nat) : (w >>> a &&& w >>> b) &&& 1 = ((w.testBit a && w.testBit b)).toNat := by rw [and_one, Nat.testBit_and, testBit_shr0, testBit_shr0]
theorem one_bit (w a b : Nat) : (w >>> a ||| w >>> b) &&& 1 = ((w.testBit a || w.testBit b)).toNat := by rw [and_one, Nat.testBit_or, testBit_shr0, testBit_shr0]
theorem spec_contra_l3 {n w a b c : Nat} (ht : Tab n w) (ha : a < 2 ^ n) (hb : b < 2 ^ n) (hc : c < 2 ^ n) : ∀ (e k d : Nat), d + e = 2 ^ n → e < k →
    spec_Contradiction.l3 k ((2 ^ n : Nat) : Int) a b c d n w = orElse (firstN (contrD w a b c) e d) (fun r => some (r, true)) (spec_Contradiction.l2 (k - e - 1) ((2 ^ n : Nat) : Int) a b ((c + 1 : Nat) : Int) n w) := by
  have hM := pow_le ht.1
  have hn := ht.1
  intro e
  induction e with
  | zero =>
    intro k d hd hk
    obtain ⟨k, rfl⟩ : ∃ m, k = m + 1 := ⟨k - 1, by omega⟩
    simp only [spec_Contradiction.l3]
    rw [if_neg (by omega), wrap64_succ (by omega)]
    rfl
  | succ e ih =>
    intro k d hd hk
    obtain ⟨k, rfl⟩ : ∃ m, k = m + 1 := ⟨k - 1, by omega⟩
    have hm : contrD w a b c d = none → spec_Contradiction.l3 k ((2 ^ n : Nat) : Int) a b c (wrap64 ((d : Int) + 1)) n w = orElse (firstN (contrD w a b c) (e + 1) d) (fun r => some (r, true)) (spec_Contradiction.l2 (k + 1 - (e + 1) - 1) ((2 ^ n : Nat) : Int) a b ((c + 1 : Nat) : Int) n w) := by
      intro h
      rw [firstN_miss h, wrap64_succ (by omega), show k + 1 - (e + 1) - 1 = k - e - 1 by omega]
      exact ih k (d + 1) (by omega) (by omega)
    have ho : w >>> c ||| w >>> d < 2 ^ 63 := Nat.or_lt_two_pow (Nat.lt_trans (shr_lt (x := c) ht.lt) (by decide)) (Nat.lt_trans (shr_lt (x := d) ht.lt) (by decide))
    have ho1 := one_bit w c d
    simp only [spec_Contradiction.l3]
    rw [if_pos (by omega), and_cast (by omega) (by omega), and_cast (by omega) (by omega), xor_cast (by omega) (by omega), xor_cast (by omega) (by omega)]
    by_cases h1 : a &&& b = c &&& d
    · rw [if_pos (by exact_mod_cast h1)]
      by_cases h2 : a ^^^ b = c ^^^ d
      · have e1 : Go.bits .and .i64 (Go.bits .or .i64 (shr .i64 (w : Int) (c : Int)) (shr .i64 (w : Int) (d : Int))) 1 = (((w.testBit c || w.testBit d).toNat : Nat) : Int) := by
          rw [shr_cast _ _ (by omega), shr_cast _ _ (by omega), or_cast (Nat.lt_trans (shr_lt (x := c) ht.lt) (by decide)) (Nat.lt_trans (shr_lt (x := d) ht.lt) (by decide)), ← ho1]
          exact and_cast (b := 1) ho (by decide)
        rw [if_pos (by exact_mod_cast h2), if_pos (Int.natCast_nonneg _), if_pos (Int.natCast_nonneg _), e1]
        cases h3 : (w.testBit c || w.testBit d) with
        | false =>
          rw [Bool.or_eq_false_iff] at h3
          rw [if_pos (by decide), firstN_hit (r := [(a : Int), (b : Int), (c : Int), (d : Int)]) (by unfold contrD; rw [if_pos ⟨h1, h2, h3⟩])]
          rfl
        | true =>
          rw [if_neg (by decide)]
          exact hm (by unfold contrD; rw [if_neg (fun q => by rw [q.2.2.1, q.2.2.2] at h3; cases h3)])
      · rw [if_neg (by exact_mod_cast h2)]
        exact hm (by unfold contrD; rw [if_neg (fun q => h2 q.2.1)])
    · rw [if_neg (by exact_mod_cast h1)]
      exact hm (by unfold contrD; rw [if_neg (fun q => h1 q.1)])
theorem spec_contra_l2 {n w a b : Nat} (ht : Tab n w) (ha : a < 2 ^ n) (hb : b < 2 ^ n) : ∀ (d k c : Nat), c + d = 2 ^ n → d * 40 + 40 < k → ∃ k', k ≤ k' + d * 40 + 1 ∧
    spec_Contradiction.l2 k ((2 ^ n : Nat) : Int) a b c n w = orElse (firstN (contrC w a b) d c) (fun r => some (r, true)) (spec_Contradiction.l1 k' ((2 ^ n : Nat) : Int) a ((b + 1 : Nat) : Int) n w) := by
  have hM := pow_le ht.1
  have hn := ht.1
  intro d
  induction d with
  | zero =>
    intro k c hc hk
    obtain ⟨k, rfl⟩ : ∃ m, k = m + 1 := ⟨k - 1, by omega⟩
    refine ⟨k, by omega, ?_⟩
    simp only [spec_Contradiction.l2]
    rw [if_neg (by omega), wrap64_succ (by omega)]
    rfl
  | succ d ih =>
    intro k c hc hk
    obtain ⟨k, rfl⟩ : ∃ m, k = m + 1 := ⟨k - 1, by omega⟩
    have h1 := spec_contra_l3 (c := c) ht ha hb (by omega) (2 ^ n - c) k c (by omega) (by omega)
    rw [contrD_first ha hb (by omega)] at h1
    cases hc' : contrC w a b c with
    | some r =>
      refine ⟨k, by omega, ?_⟩
      simp only [spec_Contradiction.l2]
      rw [if_pos (by omega), h1, hc', firstN_hit hc']
      rfl
    | none =>
      obtain ⟨k2, hk2, h2⟩ := ih (k - (2 ^ n - c) - 1) (c + 1) (by omega) (by omega)
      refine ⟨k2, by omega, ?_⟩
      simp only [spec_Contradiction.l2]
      rw [if_pos (by omega), h1, hc', firstN_miss hc', ← h2]
      rfl
theorem spec_contra_l1 {n w a : Nat} (ht : Tab n w) (ha : a < 2 ^ n) : ∀ (d k b : Nat), b + d = 2 ^ n → d * 1400 + 1400 < k → ∃ k', k ≤ k' + d * 1400 + 1 ∧
    spec_Contradiction.l1 k ((2 ^ n : Nat) : Int) a b n w = orElse (firstN (contrB n w a) d b) (fun r => some (r, true)) (spec_Contradiction.l0 k' ((2 ^ n : Nat) : Int) ((a + 1 : Nat) : Int) n w) := by
  have hM := pow_le ht.1
  have hn := ht.1
  intro d
  induction d with
  | zero =>
    intro k b hb hk
    obtain ⟨k, rfl⟩ : ∃ m, k = m + 1 := ⟨k - 1, by omega⟩
    refine ⟨k, by omega, ?_⟩
    simp only [spec_Contradiction.l1]
    rw [if_neg (by omega), wrap64_succ (by omega)]
    rfl
  | succ d ih =>
    intro k b hb hk
    obtain ⟨k, rfl⟩ : ∃ m, k = m + 1 := ⟨k - 1, by omega⟩
    have hbM : b < 2 ^ n := by omega
    have ho : w >>> a &&& w >>> b < 2 ^ 63 := Nat.and_lt_two_pow _ (Nat.lt_trans (shr_lt (x := b) ht.lt) (by decide))
    have e1 : Go.bits .and .i64 (Go.bits .and .i64 (shr .i64 (w : Int) (a : Int)) (shr .i64 (w : Int) (b : Int))) 1 = (((w.testBit a && w.testBit b).toNat : Nat) : Int) := by
      rw [shr_cast _ _ (by omega), shr_cast _ _ (by omega), and_cast (Nat.lt_trans (shr_lt (x := a) ht.lt) (by decide)) (Nat.lt_trans (shr_lt (x := b) ht.lt) (by decide)), ← both_bits]
      exact and_cast (b := 1) ho (by decide)
    have hl : spec_Contradiction.l1 (k + 1) ((2 ^ n : Nat) : Int) a b n w = if (((w.testBit a && w.testBit b).toNat : Nat) : Int) = 0 then spec_Contradiction.l1 k ((2 ^ n : Nat) : Int) a ((b + 1 : Nat) : Int) n w else spec_Contradiction.l2 k ((2 ^ n : Nat) : Int) a b 0 n w := by
      simp only [spec_Contradiction.l1]
      rw [if_pos (by omega), if_pos (Int.natCast_nonneg _), if_pos (Int.natCast_nonneg _), e1, wrap64_succ (by omega)]
    cases hq : (w.testBit a && w.testBit b) with
    | false =>
      have hc : contrB n w a b = none := by unfold contrB; rw [if_neg (by simpa using hq)]
      obtain ⟨k2, hk2, h2⟩ := ih k (b + 1) (by omega) (by omega)
      refine ⟨k2, by omega, ?_⟩
      rw [hl, hq, if_pos (by decide), firstN_miss hc, ← h2]
    | true =>
      have hcB : contrB n w a b = firstN (contrC w a b) (2 ^ n) 0 := by unfold contrB; rw [if_pos (by simpa using hq)]
      obtain ⟨k1, hk1, h1⟩ := spec_contra_l2 ht ha hbM (2 ^ n) k 0 (by omega) (by omega)
      cases hc : contrB n w a b with
      | some r =>
        refine ⟨k, by omega, ?_⟩
        rw [hl, hq, if_neg (by decide), firstN_hit hc]
        rw [hcB] at hc
        rw [hc] at h1
        exact h1
      | none =>
        obtain ⟨k2, hk2, h2⟩ := ih k1 (b + 1) (by omega) (by omega)
        refine ⟨k2, by omega, ?_⟩
        rw [hl, hq, if_neg (by decide), firstN_miss hc, ← h2]
        rw [hcB] at hc
        rw [hc] at h1
        exact h1
theorem rounds_left {d k k1 e : Nat} (he : e ≤ 32) (hk : (d + 1) * 50000 + 50000 < k + 1) (h : k ≤ k1 + e * 1400 + 1) : d * 50000 + 50000 < k1 := by
  have h1 : e * 1400 ≤ 44800 := Nat.mul_le_mul_right 1400 he
  rw [Nat.succ_mul] at hk
  generalize d * 50000 = D at hk ⊢
  generalize e * 1400 = E at h h1
  clear he
  omega
theorem spec_contra_l0 {n w : Nat} (ht : Tab n w) : ∀ (d k a : Nat), a + d = 2 ^ n → d * 50000 + 50000 < k →
    spec_Contradiction.l0 k ((2 ^ n : Nat) : Int) a n w = some (tellC (firstN (contrA n w) d a) []) := by
  have hM := pow_le ht.1
  have hn := ht.1
  intro d
  induction d with
  | zero =>
    intro k a ha hk
    obtain ⟨k, rfl⟩ : ∃ m, k = m + 1 := ⟨k - 1, by omega⟩
    simp only [spec_Contradiction.l0]
    rw [if_neg (by omega)]
    rfl
  | succ d ih =>
    intro k a ha hk
    obtain ⟨k, rfl⟩ : ∃ m, k = m + 1 := ⟨k - 1, by omega⟩
    obtain ⟨k1, hk1, h1⟩ := spec_contra_l1 ht (show a < 2 ^ n by omega) (2 ^ n - a) k a (by omega) (by omega)
    simp only [spec_Contradiction.l0]
    rw [if_pos (by omega), h1]
    cases hc : contrA n w a with
    | some r => rw [firstN_hit hc]; unfold contrA at hc; rw [hc]; rfl
    | none =>
      have h2 := ih k1 (a + 1) (by omega) (rounds_left (by omega) hk hk1)
      rw [firstN_miss hc, ← h2]
      unfold contrA at hc
      rw [hc]
      rfl
theorem spec_contradiction (a b : Int) {k : Nat} (hk : 2000000 < k) : spec_Contradiction.f k a b = some (contrI a b) := by
  unfold spec_Contradiction.f contrI
  rw [spec_isTable, Option.bind_some]
  cases hT : isTab a b with
  | false => rw [if_neg (by decide), if_neg (by decide)]
  | true =>
    obtain ⟨n, w, rfl, rfl, ht⟩ := tab_of hT
    have hM := pow_le ht.1
    have hn := ht.1
    rw [if_pos rfl, if_pos rfl, if_pos (Int.natCast_nonneg _), shl1_of (by omega), Int.toNat_natCast, Int.toNat_natCast]
    exact spec_contra_l0 ht (2 ^ n) k 0 (by omega) (by omega)
theorem firstN_le {p : Nat → Option (List Int)} (hp : ∀ i r, p i = some r → r.length ≤ 4) : ∀ (d i : Nat) r, firstN p d i = some r → r.length ≤ 4 := by
  intro d
  induction d with
  | zero => intro i r hr; cases hr
  | succ d ih =>
    intro i r hr
    cases hi : p i with
    | some s => rw [firstN_hit hi] at hr; cases hr; exact hp i _ hi
    | none => rw [firstN_miss hi] at hr; exact ih _ _ hr
theorem contrA_le (n w a : Nat) (r : List Int) (h : contrA n w a = some r) : r.length ≤ 4 := by
  refine firstN_le (fun b r hr => ?_) _ _ _ h
  unfold contrB at hr
  split at hr
  · refine firstN_le (fun c r hr => ?_) _ _ _ hr
    unfold contrC at hr
    split at hr
    · cases hr; exact Nat.le_refl _
    · cases hr
  · cases hr
theorem contrI_length (a b : Int) : (contrI a b).1.length ≤ 4 := by
  unfold contrI
  split
  · cases hc : firstN (contrA a.toNat b.toNat) (2 ^ a.toNat) 0 with
    | none => exact Nat.zero_le _
    | some r => exact firstN_le (contrA_le _ _) _ _ _ hc
  · exact Nat.zero_le _
end Go.Proofs.Ytcgjlmgfmiacgaa.U
