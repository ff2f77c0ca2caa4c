/- Words over natural numbers: Go's operators on int at small values, tables made of a test, counts. -/
import Derived.Test.YtflacbjpeecjcacDoorWMore
namespace Go.Proofs.YtflacbjpeecjcacDoor.B
open Go.RowKit Go.Proofs.YtflacbjpeecjcacDoorW.PrintWords Go.Proofs.YtflacbjpeecjcacDoorW.PrintLast Go.Proofs.YtflacbjpeecjcacDoorW.PrintMore
set_option linter.unusedVariables false
set_option linter.unusedSimpArgs false

/-! ### Go's operators -/
theorem wrap64_of {n : Int} (h0 : -9223372036854775808 ≤ n) (h1 : n ≤ 9223372036854775807) : wrap64 n = n := by unfold wrap64; omega
theorem wrap_of {n : Int} (h0 : -9223372036854775808 ≤ n) (h1 : n ≤ 9223372036854775807) : IntKind.i64.wrap n = n := by rw [i64_w]; exact wrap64_of h0 h1
theorem wrapu_of {n : Int} (h0 : 0 ≤ n) (h1 : n ≤ 18446744073709551615) : IntKind.u64.wrap n = n := by
  simp [IntKind.wrap, IntKind.bits, IntKind.signed]; omega
theorem wrap64_cast {n : Nat} (h : n < 9223372036854775808) : wrap64 (n : Int) = n := wrap64_of (by omega) (by omega)
theorem wrap64_succ {n : Nat} (h : n < 9223372036854775807) : wrap64 ((n : Int) + 1) = ((n + 1 : Nat) : Int) := by rw [wrap64_of (by omega) (by omega)]; omega
theorem lt63 {a : Nat} (h : a < 9223372036854775808) : a < 2 ^ 63 := h
theorem mod64 {a : Nat} (h : a < 9223372036854775808) : a % 2 ^ 64 = a := Nat.mod_eq_of_lt (by omega)
theorem and_cast {a b : Nat} (ha : a < 9223372036854775808) (hb : b < 9223372036854775808) : Go.bits .and .i64 (a : Int) (b : Int) = ((a &&& b : Nat) : Int) := by
  have h := Nat.and_lt_two_pow a (lt63 hb)
  have e : (BitVec.ofNat 64 a &&& BitVec.ofNat 64 b).toNat = a &&& b := by rw [BitVec.toNat_and, BitVec.toNat_ofNat, BitVec.toNat_ofNat, mod64 ha, mod64 hb]
  simp only [Go.bits, IntKind.bits, BitVec.ofInt_natCast]
  exact (congrArg (fun m : Nat => IntKind.i64.wrap (m : Int)) e).trans (wrap_of (n := ((a &&& b : Nat) : Int)) (by omega) (by omega))
theorem or_cast {a b : Nat} (ha : a < 9223372036854775808) (hb : b < 9223372036854775808) : Go.bits .or .i64 (a : Int) (b : Int) = ((a ||| b : Nat) : Int) := by
  have h := Nat.or_lt_two_pow (lt63 ha) (lt63 hb)
  have e : (BitVec.ofNat 64 a ||| BitVec.ofNat 64 b).toNat = a ||| b := by rw [BitVec.toNat_or, BitVec.toNat_ofNat, BitVec.toNat_ofNat, mod64 ha, mod64 hb]
  simp only [Go.bits, IntKind.bits, BitVec.ofInt_natCast]
  exact (congrArg (fun m : Nat => IntKind.i64.wrap (m : Int)) e).trans (wrap_of (n := ((a ||| b : Nat) : Int)) (by omega) (by omega))
theorem xor_cast {a b : Nat} (ha : a < 9223372036854775808) (hb : b < 9223372036854775808) : Go.bits .xor .i64 (a : Int) (b : Int) = ((a ^^^ b : Nat) : Int) := by
  have h := Nat.xor_lt_two_pow (lt63 ha) (lt63 hb)
  have e : (BitVec.ofNat 64 a ^^^ BitVec.ofNat 64 b).toNat = a ^^^ b := by rw [BitVec.toNat_xor, BitVec.toNat_ofNat, BitVec.toNat_ofNat, mod64 ha, mod64 hb]
  simp only [Go.bits, IntKind.bits, BitVec.ofInt_natCast]
  exact (congrArg (fun m : Nat => IntKind.i64.wrap (m : Int)) e).trans (wrap_of (n := ((a ^^^ b : Nat) : Int)) (by omega) (by omega))
/-- The bits of a that b has not. -/
def ldiff (a b : Nat) : Nat := a ^^^ (a &&& b)
theorem testBit_ldiff (a b i : Nat) : (ldiff a b).testBit i = (a.testBit i && !b.testBit i) := by
  unfold ldiff
  rw [Nat.testBit_xor, Nat.testBit_and]
  cases a.testBit i <;> cases b.testBit i <;> rfl
theorem ldiff_lt {a b n : Nat} (ha : a < 2 ^ n) : ldiff a b < 2 ^ n := by
  apply Nat.lt_pow_two_of_testBit
  intro i hi
  rw [testBit_ldiff, Nat.testBit_lt_two_pow (Nat.lt_of_lt_of_le ha (Nat.pow_le_pow_right (by decide) hi))]
  rfl
theorem andNot_cast {a b : Nat} (ha : a < 9223372036854775808) (hb : b < 9223372036854775808) : Go.bits .andNot .i64 (a : Int) (b : Int) = ((ldiff a b : Nat) : Int) := by
  have h := ldiff_lt (b := b) (lt63 ha)
  have e : (BitVec.ofNat 64 a &&& ~~~(BitVec.ofNat 64 b)).toNat = ldiff a b := by
    apply Nat.eq_of_testBit_eq
    intro i
    rw [testBit_ldiff, ← BitVec.getLsbD, BitVec.getLsbD_and, BitVec.getLsbD_not]
    simp only [BitVec.getLsbD_ofNat]
    by_cases hi : i < 64
    · simp [hi]
    · have : a.testBit i = false := Nat.testBit_lt_two_pow (Nat.lt_of_lt_of_le (lt63 ha) (Nat.pow_le_pow_right (by decide) (by omega)))
      simp [hi, this]
  simp only [Go.bits, IntKind.bits, BitVec.ofInt_natCast]
  exact (congrArg (fun m : Nat => IntKind.i64.wrap (m : Int)) e).trans (wrap_of (n := ((ldiff a b : Nat) : Int)) (by omega) (by omega))
theorem shr_cast (a n : Nat) (hn : n ≤ 64) : shr .i64 (a : Int) (n : Int) = ((a >>> n : Nat) : Int) := by
  unfold shr
  rw [Nat.shiftRight_eq_div_pow]
  simp only [IntKind.bits, Int.toNat_natCast, Nat.min_eq_left hn]
  simp
theorem shl_cast {a n : Nat} (h : a <<< n < 9223372036854775808) (hn : n ≤ 64) : shl .i64 (a : Int) (n : Int) = ((a <<< n : Nat) : Int) := by
  unfold shl
  simp only [IntKind.bits, Int.toNat_natCast, Nat.min_eq_left hn]
  have e : ((a : Int) * 2 ^ n) = ((a <<< n : Nat) : Int) := by rw [Nat.shiftLeft_eq]; simp
  exact (congrArg IntKind.i64.wrap e).trans (by generalize a <<< n = c at h; exact wrap_of (n := (c : Int)) (by omega) (by omega))
theorem shlu_cast {a n : Nat} (h : a <<< n < 18446744073709551616) (hn : n ≤ 64) : shl .u64 (a : Int) (n : Int) = ((a <<< n : Nat) : Int) := by
  unfold shl
  simp only [IntKind.bits, Int.toNat_natCast, Nat.min_eq_left hn]
  have e : ((a : Int) * 2 ^ n) = ((a <<< n : Nat) : Int) := by rw [Nat.shiftLeft_eq]; simp
  exact (congrArg IntKind.u64.wrap e).trans (by generalize a <<< n = c at h; exact wrapu_of (n := (c : Int)) (by omega) (by omega))
theorem shlu_nonneg (x n : Int) : 0 ≤ shl .u64 x n := by
  unfold shl
  simp [IntKind.wrap, IntKind.bits, IntKind.signed]
  omega
theorem one_shl (n : Nat) : 1 <<< n = 2 ^ n := by rw [Nat.shiftLeft_eq, Nat.one_mul]

/-! ### Small tables -/
theorem pow_le {n : Nat} (h : n ≤ 5) : 2 ^ n ≤ 32 := Nat.pow_le_pow_right (n := 2) (by decide) h
theorem pow_lt {n m : Nat} (h : n < m) : 2 ^ n < 2 ^ m := Nat.pow_lt_pow_right (by decide) h
theorem pow_le_pow {n m : Nat} (h : n ≤ m) : 2 ^ n ≤ 2 ^ m := Nat.pow_le_pow_right (by decide) h
theorem pow_pos (n : Nat) : 0 < 2 ^ n := Nat.two_pow_pos n
theorem full_le {n : Nat} (h : n ≤ 5) : 2 ^ 2 ^ n ≤ 4294967296 := Nat.pow_le_pow_right (n := 2) (by decide) (pow_le h)
theorem shl1_of {n : Nat} (h : n ≤ 62) : shl .i64 1 (n : Int) = ((2 ^ n : Nat) : Int) := by
  have h1 : (1 : Nat) <<< n < 9223372036854775808 := by
    rw [one_shl]; have := pow_le_pow h; omega
  have := shl_cast h1 (by omega)
  rw [one_shl] at this
  exact this
theorem shlu1_of {n : Nat} (h : n ≤ 63) : shl .u64 1 (n : Int) = ((2 ^ n : Nat) : Int) := by
  have h1 : (1 : Nat) <<< n < 18446744073709551616 := by
    rw [one_shl]; have := pow_le_pow h; omega
  have := shlu_cast h1 (by omega)
  rw [one_shl] at this
  exact this
/-- A word's bit, as a number. -/
def bitN (w x : Nat) : Nat := (w.testBit x).toNat
theorem bitN_le (w x : Nat) : bitN w x ≤ 1 := by unfold bitN; cases w.testBit x <;> decide
theorem bitN_eq_one {w x : Nat} : bitN w x = 1 ↔ w.testBit x = true := by unfold bitN; cases w.testBit x <;> decide
theorem bitN_eq_zero {w x : Nat} : bitN w x = 0 ↔ w.testBit x = false := by unfold bitN; cases w.testBit x <;> decide
theorem shr_and_one (w x : Nat) : w >>> x &&& 1 = bitN w x := by
  unfold bitN
  rw [Nat.testBit, Nat.and_comm 1, Nat.and_one_is_mod]
  rcases Nat.mod_two_eq_zero_or_one (w >>> x) with h | h <;> rw [h] <;> rfl
theorem shr_lt {w x n : Nat} (h : w < n) : w >>> x < n := Nat.lt_of_le_of_lt (by rw [Nat.shiftRight_eq_div_pow]; exact Nat.div_le_self _ _) h
/-- w >> x & 1, in Go. -/
theorem bit_cast {w x : Nat} (hw : w < 9223372036854775808) (hx : x ≤ 64) : Go.bits .and .i64 (shr .i64 (w : Int) (x : Int)) 1 = ((bitN w x : Nat) : Int) := by
  rw [shr_cast w x hx]
  have := and_cast (b := 1) (shr_lt (x := x) hw) (by decide)
  rw [shr_and_one] at this
  exact this

/-- The word of m inputs at which p holds. -/
def tabN (p : Nat → Bool) : Nat → Nat
  | 0 => 0
  | m + 1 => tabN p m ||| (p m).toNat <<< m
theorem testBit_toNat_shl (b : Bool) (m i : Nat) : (b.toNat <<< m).testBit i = (decide (i = m) && b) := by
  cases b
  · simp
  · simp only [Bool.toNat_true, one_shl, Nat.testBit_two_pow, Bool.and_true]
    by_cases h : i = m
    · subst h; simp
    · simp [h, Ne.symm h]
theorem testBit_tabN (p : Nat → Bool) (m i : Nat) : (tabN p m).testBit i = (decide (i < m) && p i) := by
  induction m with
  | zero => simp [tabN]
  | succ m ih =>
    rw [tabN, Nat.testBit_or, ih, testBit_toNat_shl]
    by_cases h : i = m
    · subst h; simp
    · by_cases h2 : i < m
      · simp [h, h2, Nat.lt_succ_of_lt h2]
      · have : ¬ i < m + 1 := by omega
        simp [h, h2, this]
theorem lt_pow_of_testBit {x n : Nat} (h : ∀ i, n ≤ i → x.testBit i = false) : x < 2 ^ n := Nat.lt_pow_two_of_testBit x h
theorem tabN_lt (p : Nat → Bool) (m : Nat) : tabN p m < 2 ^ m :=
  lt_pow_of_testBit fun i hi => by rw [testBit_tabN]; have : ¬ i < m := by omega
                                   simp [this]
theorem testBit_ge {w m i : Nat} (hw : w < 2 ^ m) (hi : m ≤ i) : w.testBit i = false := Nat.testBit_lt_two_pow (Nat.lt_of_lt_of_le hw (pow_le_pow hi))
/-- Words of m inputs are equal that have the same bits. -/
theorem word_ext {a b m : Nat} (ha : a < 2 ^ m) (hb : b < 2 ^ m) (h : ∀ i, i < m → a.testBit i = b.testBit i) : a = b := by
  apply Nat.eq_of_testBit_eq
  intro i
  by_cases hi : i < m
  · exact h i hi
  · rw [testBit_ge ha (by omega), testBit_ge hb (by omega)]
theorem tabN_congr {p q : Nat → Bool} {m : Nat} (h : ∀ i, i < m → p i = q i) : tabN p m = tabN q m :=
  word_ext (tabN_lt _ _) (tabN_lt _ _) fun i hi => by rw [testBit_tabN, testBit_tabN, h i hi]
theorem tabN_testBit {w m : Nat} (hw : w < 2 ^ m) : tabN (fun i => w.testBit i) m = w :=
  word_ext (tabN_lt _ _) hw fun i hi => by rw [testBit_tabN]; simp [hi]

theorem wrap64_pow {x : Nat} (h : x ≤ 62) : wrap64 (2 ^ x) = ((2 ^ x : Nat) : Int) := by
  have e : ((2 : Int) ^ x) = ((2 ^ x : Nat) : Int) := by simp
  have := pow_le_pow h
  rw [e]
  exact wrap64_cast (by omega)
/-- w | 1 << x, as a walk spells it. -/
theorem or_bit {w x : Nat} (hw : w < 9223372036854775808) (hx : x ≤ 62) : Go.bits .or .i64 (w : Int) (wrap64 (2 ^ x)) = ((w ||| 2 ^ x : Nat) : Int) := by
  rw [wrap64_pow hx]
  exact or_cast hw (by have := pow_le_pow hx; omega)
theorem tabN_true {p : Nat → Bool} {m : Nat} (h : p m = true) : tabN p (m + 1) = tabN p m ||| 2 ^ m := by rw [tabN, h, Bool.toNat_true, one_shl]
theorem tabN_false {p : Nat → Bool} {m : Nat} (h : p m = false) : tabN p (m + 1) = tabN p m := by rw [tabN, h]; simp
theorem tabN_lt63 (p : Nat → Bool) {m : Nat} (h : m ≤ 32) : tabN p m < 9223372036854775808 := Nat.lt_of_lt_of_le (tabN_lt p m) (Nat.le_trans (pow_le_pow h) (by decide))

/-- The sum (bitwise or) of q below m. -/
def orN (q : Nat → Nat) : Nat → Nat
  | 0 => 0
  | m + 1 => orN q m ||| q m
theorem orN_lt {q : Nat → Nat} {m n : Nat} (h : ∀ i, i < m → q i < 2 ^ n) : orN q m < 2 ^ n := by
  induction m with
  | zero => exact pow_pos n
  | succ m ih => exact Nat.or_lt_two_pow (ih fun i hi => h i (by omega)) (h m (by omega))
theorem bitN_shl_lt {w i j n : Nat} (hj : j < n) : bitN w i <<< j < 2 ^ n := by
  rw [Nat.shiftLeft_eq]
  have h1 := bitN_le w i
  have h2 := pow_le_pow (n := j + 1) (m := n) hj
  rw [Nat.pow_succ] at h2
  have h3 : bitN w i * 2 ^ j ≤ 1 * 2 ^ j := Nat.mul_le_mul_right _ h1
  have := pow_pos j
  omega
theorem testBit_bitN_shl (w i j y : Nat) : (bitN w i <<< j).testBit y = (decide (y = j) && w.testBit i) := testBit_toNat_shl _ _ _
theorem orN_congr {q r : Nat → Nat} {m : Nat} (h : ∀ i, i < m → q i = r i) : orN q m = orN r m := by
  induction m with
  | zero => rfl
  | succ m ih => rw [orN, orN, ih fun i hi => h i (by omega), h m (by omega)]
/-- Does p hold below m. -/
def exN (p : Nat → Bool) : Nat → Bool
  | 0 => false
  | m + 1 => exN p m || p m
theorem exN_iff {p : Nat → Bool} {m : Nat} : exN p m = true ↔ ∃ i, i < m ∧ p i = true := by
  induction m with
  | zero => simp [exN]
  | succ m ih =>
    rw [exN, Bool.or_eq_true, ih]
    constructor
    · rintro (⟨i, hi, h⟩ | h)
      · exact ⟨i, by omega, h⟩
      · exact ⟨m, by omega, h⟩
    · rintro ⟨i, hi, h⟩
      by_cases e : i = m
      · subst e; exact .inr h
      · exact .inl ⟨i, by omega, h⟩
theorem exN_hit {p : Nat → Bool} {m i : Nat} (hi : i < m) (h : p i = true) : exN p m = true := exN_iff.mpr ⟨i, hi, h⟩
theorem exN_skip {p : Nat → Bool} {m : Nat} (h : exN p m = false) (k : p m = false) : exN p (m + 1) = false := by rw [exN, h, k]; rfl
theorem testBit_orN (q : Nat → Nat) (m y : Nat) : (orN q m).testBit y = exN (fun i => (q i).testBit y) m := by
  induction m with
  | zero => simp [orN, exN]
  | succ m ih => rw [orN, exN, Nat.testBit_or, ih]
theorem exN_congr {p q : Nat → Bool} {m : Nat} (h : ∀ i, i < m → p i = q i) : exN p m = exN q m := by
  induction m with
  | zero => rfl
  | succ m ih => rw [exN, exN, ih fun i hi => h i (by omega), h m (by omega)]
/-- Does p hold at all below m. -/
def allN (p : Nat → Bool) : Nat → Bool
  | 0 => true
  | m + 1 => allN p m && p m
theorem allN_iff {p : Nat → Bool} {m : Nat} : allN p m = true ↔ ∀ i, i < m → p i = true := by
  induction m with
  | zero => simp [allN]
  | succ m ih =>
    rw [allN, Bool.and_eq_true, ih]
    constructor
    · rintro ⟨h, k⟩ i hi
      by_cases e : i = m
      · subst e; exact k
      · exact h i (by omega)
    · exact fun h => ⟨fun i hi => h i (by omega), h m (by omega)⟩
theorem allN_miss {p : Nat → Bool} {m i : Nat} (hi : i < m) (h : p i = false) : allN p m = false := by
  apply Bool.eq_false_iff.mpr
  intro k
  have := allN_iff.mp k i hi
  rw [h] at this
  cases this
theorem allN_next {p : Nat → Bool} {m : Nat} (h : allN p m = true) (k : p m = true) : allN p (m + 1) = true := by rw [allN, h, k]; rfl

/-- How many inputs below m. -/
def cntN (p : Nat → Bool) : Nat → Nat
  | 0 => 0
  | m + 1 => cntN p m + (p m).toNat
theorem cntN_le (p : Nat → Bool) (m : Nat) : cntN p m ≤ m := by
  induction m with
  | zero => exact Nat.le_refl _
  | succ m ih => rw [cntN]; have : (p m).toNat ≤ 1 := by cases p m <;> decide
                 omega
theorem cntN_congr {p q : Nat → Bool} {m : Nat} (h : ∀ i, i < m → p i = q i) : cntN p m = cntN q m := by
  induction m with
  | zero => rfl
  | succ m ih => rw [cntN, cntN, ih fun i hi => h i (by omega), h m (by omega)]

/-- A word made bit by bit, in order. -/
theorem orN_tab (w : Nat) (f : Nat → Nat) (m : Nat) : orN (fun i => bitN w (f i) <<< i) m = tabN (fun i => w.testBit (f i)) m := by
  induction m with
  | zero => rfl
  | succ m ih => rw [orN, tabN, ih]; rfl
/-- A word made bit by bit, where the bits are spread by a map that has an inverse. -/
theorem orN_perm (w m : Nat) (f g : Nat → Nat) (hf : ∀ i, i < m → f i < m) (hg : ∀ i, i < m → g i < m) (hfg : ∀ i, i < m → f (g i) = i) (hgf : ∀ i, i < m → g (f i) = i) :
    orN (fun i => bitN w i <<< f i) m = tabN (fun y => w.testBit (g y)) m := by
  apply word_ext (m := m) (orN_lt fun i hi => bitN_shl_lt (hf i hi)) (tabN_lt _ _)
  intro y hy
  rw [testBit_tabN, testBit_orN]
  simp only [testBit_bitN_shl, hy, decide_true, Bool.true_and]
  apply Bool.eq_iff_iff.mpr
  rw [exN_iff]
  constructor
  · rintro ⟨i, hi, h⟩
    simp only [Bool.and_eq_true, decide_eq_true_eq] at h
    obtain ⟨rfl, h⟩ := h
    rw [hgf i hi]; exact h
  · exact fun h => ⟨g y, hg y hy, by simp [hfg y hy, h]⟩
/-- A number with one bit more, b, at the place i. -/
def ins (x i b : Nat) : Nat := x % 2 ^ i + b * 2 ^ i + x / 2 ^ i * 2 ^ (i + 1)
theorem ins_lt {x i b : Nat} (hx : x < 16) (hi : i < 5) (hb : b ≤ 1) : ins x i b < 32 := by
  have h : ∀ x : Fin 16, ∀ i : Fin 5, ∀ b : Fin 2, ins x i b < 32 := by decide +kernel
  exact h ⟨x, hx⟩ ⟨i, hi⟩ ⟨b, by omega⟩
/-- A table of at most five variables: its number of variables, its word. -/
def Tab (n w : Nat) : Prop := n ≤ 5 ∧ w < 2 ^ 2 ^ n
theorem Tab.lt {n w : Nat} (h : Tab n w) : w < 4294967296 := Nat.lt_of_lt_of_le h.2 (full_le h.1)
theorem Tab.lt63 {n w : Nat} (h : Tab n w) : w < 9223372036854775808 := Nat.lt_trans h.lt (by decide)
theorem Tab.x_lt {n w x : Nat} (h : Tab n w) (hx : x < 2 ^ n) : x < 32 := Nat.lt_of_lt_of_le hx (pow_le h.1)
end Go.Proofs.YtflacbjpeecjcacDoor.B
