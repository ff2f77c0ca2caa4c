/- How many ones a word of 32 bits has: the library's count and the reference's are the same. -/
import Derived.Test.YtgcflignpeencaaUa
import Derived.Test.YtgcflignpeencaaFGa
namespace Go.Proofs.Ytgcflignpeencaa.U
open Go.RowKit Go.Proofs.YtgcflignpeencaaW.PrintWords Go.Proofs.YtgcflignpeencaaW.PrintLast Go.Proofs.YtgcflignpeencaaW.PrintMore Go.Proofs.Ytgcflignpeencaa.F Go.Proofs.Ytgcflignpeencaa.B
set_option linter.unusedVariables false
set_option linter.unusedSimpArgs false
/-- The number of ones of a word of 32 bits. -/
def cnt (w : Nat) : Nat := cntN (fun i => w.testBit i) 32
theorem cnt_le (w : Nat) : cnt w ≤ 32 := cntN_le _ _
theorem cntN_add (p : Nat → Bool) (m : Nat) : ∀ n, cntN p (m + n) = cntN p m + cntN (fun i => p (m + i)) n := by
  intro n
  induction n with
  | zero => rfl
  | succ n ih => rw [← Nat.add_assoc, cntN, cntN, ih]; omega
theorem cntN_first (p : Nat → Bool) (n : Nat) : cntN p (n + 1) = (p 0).toNat + cntN (fun i => p (i + 1)) n := by
  rw [Nat.add_comm, cntN_add]
  simp only [cntN, Nat.zero_add]
  congr 2
  funext i
  rw [Nat.add_comm]
theorem cntN_zero {p : Nat → Bool} (h : ∀ i, p i = false) : ∀ n, cntN p n = 0 := by
  intro n
  induction n with
  | zero => rfl
  | succ n ih => rw [cntN, ih, h]; rfl
theorem ref_loop : ∀ (n k a x : Nat), x < 2 ^ n → n < k → a + n < 9223372036854775808 → x < 9223372036854775808 →
    spec_l2Count.l0 k (a : Int) (x : Int) = some ((a + cntN (fun i => x.testBit i) n : Nat) : Int) := by
  intro n
  induction n with
  | zero =>
    intro k a x hx hk ha _
    obtain ⟨k, rfl⟩ : ∃ m, k = m + 1 := ⟨k - 1, by omega⟩
    obtain rfl : x = 0 := by simpa using hx
    simp only [spec_l2Count.l0]
    rw [if_neg (by omega)]
    rfl
  | succ n ih =>
    intro k a x hx hk ha hx63
    obtain ⟨k, rfl⟩ : ∃ m, k = m + 1 := ⟨k - 1, by omega⟩
    simp only [spec_l2Count.l0]
    by_cases h0 : (x : Int) > 0
    · have hb : Go.bits .and .i64 (x : Int) 1 = ((bitN x 0 : Nat) : Int) := by
        rw [← shr_and_one, Nat.shiftRight_zero]
        exact and_cast (b := 1) hx63 (by decide)
      have h1 := bitN_le x 0
      rw [if_pos h0, hb, show wrap64 ((a : Int) + ((bitN x 0 : Nat) : Int)) = ((a + bitN x 0 : Nat) : Int) by rw [wrap64_of (by omega) (by omega)]; omega, show ((x : Int) / 2) = ((x / 2 : Nat) : Int) by simp]
      rw [ih k (a + bitN x 0) (x / 2) (by rw [Nat.pow_succ] at hx; omega) (by omega) (by omega) (by omega), cntN_first]
      congr 2
      have e : (fun i => (x / 2).testBit i) = fun i => x.testBit (i + 1) := by funext i; rw [Nat.testBit_succ]
      rw [e]
      show a + (x.testBit 0).toNat + _ = _
      omega
    · obtain rfl : x = 0 := by omega
      rw [if_neg h0, cntN_zero (fun i => Nat.zero_testBit i)]
      rfl
theorem cnt_ref {x k : Nat} (hx : x < 4294967296) (hk : 33 ≤ k) : spec_l2Count.f k x = some ((cnt x : Nat) : Int) := by
  have h := ref_loop 32 k 0 x hx (by omega) (by omega) (by omega)
  rw [Nat.zero_add] at h
  exact h

/-! ### Bytes -/
theorem land_lane (k : Nat) {a c : Nat} (b d : Nat) (ha : a < 2 ^ k) (hc : c < 2 ^ k) : (a + 2 ^ k * b) &&& (c + 2 ^ k * d) = (a &&& c) + 2 ^ k * (b &&& d) := by
  have hac : a &&& c < 2 ^ k := Nat.and_lt_two_pow _ hc
  apply Nat.eq_of_testBit_eq
  intro i
  rw [Nat.testBit_and, Nat.add_comm a, Nat.add_comm c, Nat.add_comm (a &&& c), Nat.testBit_two_pow_mul_add _ ha, Nat.testBit_two_pow_mul_add _ hc, Nat.testBit_two_pow_mul_add _ hac]
  split
  · rw [Nat.testBit_and]
  · rw [Nat.testBit_and]
theorem lane_bit (a y i : Nat) (ha : a < 256) : (a + 256 * y).testBit (8 + i) = y.testBit i ∧ (i < 8 → (a + 256 * y).testBit i = a.testBit i) := by
  have h : ∀ j, (a + 256 * y).testBit j = if j < 8 then a.testBit j else y.testBit (j - 8) := fun j => by
    rw [Nat.add_comm]; exact Nat.testBit_two_pow_mul_add y (i := 8) ha j
  constructor
  · rw [h, if_neg (by omega), show 8 + i - 8 = i by omega]
  · intro hi; rw [h, if_pos hi]
/-- The ones of a byte. -/
def cnt8 (a : Nat) : Nat := cntN (fun i => a.testBit i) 8
theorem cnt_lane (a y n : Nat) (ha : a < 256) : cntN (fun i => (a + 256 * y).testBit i) (8 + n) = cnt8 a + cntN (fun i => y.testBit i) n := by
  rw [cntN_add]
  congr 1
  · exact cntN_congr fun i hi => (lane_bit a y i ha).2 hi
  · exact cntN_congr fun i _ => (lane_bit a y i ha).1
theorem byte_split {n x : Nat} (hx : x < 256 * n) : ∃ a y, x = a + 256 * y ∧ a < 256 ∧ y < n := ⟨x % 256, x / 256, by omega, by omega, by omega⟩
theorem bytes_of {x : Nat} (hx : x < 4294967296) : ∃ a b c d, x = a + 256 * (b + 256 * (c + 256 * d)) ∧ a < 256 ∧ b < 256 ∧ c < 256 ∧ d < 256 := by
  obtain ⟨a, y, rfl, ha, hy⟩ := byte_split (n := 16777216) (x := x) (by omega)
  obtain ⟨b, z, rfl, hb, hz⟩ := byte_split (n := 65536) (x := y) (by omega)
  obtain ⟨c, d, rfl, hc, hd⟩ := byte_split (n := 256) (x := z) (by omega)
  exact ⟨a, b, c, d, rfl, ha, hb, hc, hd⟩
theorem cnt_bytes {a b c d : Nat} (ha : a < 256) (hb : b < 256) (hc : c < 256) (hd : d < 256) : cnt (a + 256 * (b + 256 * (c + 256 * d))) = cnt8 a + cnt8 b + cnt8 c + cnt8 d := by
  have h1 : cnt (a + 256 * (b + 256 * (c + 256 * d))) = cnt8 a + cntN (fun i => (b + 256 * (c + 256 * d)).testBit i) 24 := cnt_lane a _ 24 ha
  have h2 : cntN (fun i => (b + 256 * (c + 256 * d)).testBit i) 24 = cnt8 b + cntN (fun i => (c + 256 * d).testBit i) 16 := cnt_lane b _ 16 hb
  have h3 : cntN (fun i => (c + 256 * d).testBit i) 16 = cnt8 c + cnt8 d := cnt_lane c d 8 hc
  rw [h1, h2, h3, Nat.add_assoc, Nat.add_assoc]
/-- The three first steps for a byte. -/
def t1 (a : Nat) : Nat := (a / 2 &&& 85) + (a &&& 85)
def t2 (a : Nat) : Nat := (a / 4 &&& 51) + (a &&& 51)
def t3 (a : Nat) : Nat := (a / 16 + a) &&& 15
theorem t_facts {a : Nat} (ha : a < 256) : t1 a < 256 ∧ t2 (t1 a) ≤ 68 ∧ t2 (t1 a) % 16 ≤ 4 ∧ t3 (t2 (t1 a)) = cnt8 a ∧ cnt8 a ≤ 8 := by
  have h : ∀ a : Fin 256, t1 a.val < 256 ∧ t2 (t1 a.val) ≤ 68 ∧ t2 (t1 a.val) % 16 ≤ 4 ∧ t3 (t2 (t1 a.val)) = cnt8 a.val ∧ cnt8 a.val ≤ 8 := by decide +kernel
  exact h ⟨a, ha⟩
theorem mask1 {a b : Nat} (ha : a < 256) : (a / 2 + 128 * (b % 2)) &&& 85 = a / 2 &&& 85 := by
  have h : ∀ a : Fin 256, ∀ b : Fin 2, (a.val / 2 + 128 * b.val) &&& 85 = a.val / 2 &&& 85 := by decide +kernel
  exact h ⟨a, ha⟩ ⟨b % 2, by omega⟩
theorem mask2 {a b : Nat} (ha : a < 256) : (a / 4 + 64 * (b % 4)) &&& 51 = a / 4 &&& 51 := by
  have h : ∀ a : Fin 256, ∀ b : Fin 4, (a.val / 4 + 64 * b.val) &&& 51 = a.val / 4 &&& 51 := by decide +kernel
  exact h ⟨a, ha⟩ ⟨b % 4, by omega⟩
theorem mask3 {a b : Nat} (ha : a ≤ 68) (hb : b ≤ 4) : (a / 16 + a + 16 * b) &&& 15 = (a / 16 + a) &&& 15 := by
  have h : ∀ a : Fin 69, ∀ b : Fin 5, (a.val / 16 + a.val + 16 * b.val) &&& 15 = (a.val / 16 + a.val) &&& 15 := by decide +kernel
  exact h ⟨a, by omega⟩ ⟨b, by omega⟩
theorem step1 {a y d : Nat} (ha : a < 256) : ((a + 256 * y) / 2 &&& (85 + 256 * d)) + ((a + 256 * y) &&& (85 + 256 * d)) = t1 a + 256 * ((y / 2 &&& d) + (y &&& d)) := by
  have e1 := land_lane 8 (a := a) (c := 85) y d ha (by decide)
  have e2 := land_lane 8 (a := a / 2 + 128 * (y % 2)) (c := 85) (y / 2) d (by show _ < 256; omega) (by decide)
  have e3 := mask1 (b := y) ha
  have e4 : (a + 256 * y) / 2 = a / 2 + 128 * (y % 2) + 2 ^ 8 * (y / 2) := by show _ = _ + 256 * _; omega
  have e5 : a + 256 * y = a + 2 ^ 8 * y := rfl
  have e6 : 85 + 256 * d = 85 + 2 ^ 8 * d := rfl
  rw [e4, e6, e2, e5, e1, e3]
  unfold t1
  show _ + 256 * _ + (_ + 256 * _) = _
  omega
theorem step2 {a y d : Nat} (ha : a < 256) : ((a + 256 * y) / 4 &&& (51 + 256 * d)) + ((a + 256 * y) &&& (51 + 256 * d)) = t2 a + 256 * ((y / 4 &&& d) + (y &&& d)) := by
  have e1 := land_lane 8 (a := a) (c := 51) y d ha (by decide)
  have e2 := land_lane 8 (a := a / 4 + 64 * (y % 4)) (c := 51) (y / 4) d (by show _ < 256; omega) (by decide)
  have e3 := mask2 (b := y) ha
  have e4 : (a + 256 * y) / 4 = a / 4 + 64 * (y % 4) + 2 ^ 8 * (y / 4) := by show _ = _ + 256 * _; omega
  have e5 : a + 256 * y = a + 2 ^ 8 * y := rfl
  have e6 : 51 + 256 * d = 51 + 2 ^ 8 * d := rfl
  rw [e4, e6, e2, e5, e1, e3]
  unfold t2
  show _ + 256 * _ + (_ + 256 * _) = _
  omega
theorem step3 {a y d : Nat} (ha : a ≤ 68) (hy : y % 16 ≤ 4) : ((a + 256 * y) / 16 + (a + 256 * y)) &&& (15 + 256 * d) = t3 a + 256 * ((y / 16 + y) &&& d) := by
  have e2 := land_lane 8 (a := a / 16 + a + 16 * (y % 16)) (c := 15) (y / 16 + y) d (by show _ < 256; omega) (by decide)
  have e3 := mask3 ha hy
  have e4 : (a + 256 * y) / 16 + (a + 256 * y) = a / 16 + a + 16 * (y % 16) + 2 ^ 8 * (y / 16 + y) := by show _ = _ + 256 * _; omega
  have e6 : 15 + 256 * d = 15 + 2 ^ 8 * d := rfl
  rw [e4, e6, e2, e3]
  rfl
theorem and_low {x c : Nat} (hx : x < 4294967296) : x &&& (c % 4294967296 + 4294967296 * (c / 4294967296)) = x &&& (c % 4294967296) := by
  have e := land_lane 32 (a := x) (c := c % 4294967296) 0 (c / 4294967296) hx (Nat.mod_lt _ (by decide))
  rw [Nat.mul_zero, Nat.add_zero, Nat.zero_and, Nat.mul_zero, Nat.add_zero] at e
  exact e
theorem low0 {x : Nat} (hx : x < 4294967296) : x &&& 6148914691236517205 = x &&& (85 + 256 * (85 + 256 * (85 + 256 * 85))) := and_low (c := 6148914691236517205) hx
theorem low1 {x : Nat} (hx : x < 4294967296) : x &&& 3689348814741910323 = x &&& (51 + 256 * (51 + 256 * (51 + 256 * 51))) := and_low (c := 3689348814741910323) hx
theorem low2 {x : Nat} (hx : x < 4294967296) : x &&& 1085102592571150095 = x &&& (15 + 256 * (15 + 256 * (15 + 256 * 15))) := and_low (c := 1085102592571150095) hx
theorem andu_cast {a b : Nat} (ha : a < 9223372036854775808) (hb : b < 9223372036854775808) : Go.bits .and .u64 (a : Int) (b : Int) = ((a &&& b : Nat) : Int) := by
  have h := Nat.and_lt_two_pow a (lt63 hb)
  have e : (BitVec.ofNat 64 a &&& BitVec.ofNat 64 b).toNat = a &&& b := by rw [BitVec.toNat_and, BitVec.toNat_ofNat, BitVec.toNat_ofNat, mod64 ha, mod64 hb]
  simp only [Go.bits, IntKind.bits, BitVec.ofInt_natCast]
  exact (congrArg (fun m : Nat => IntKind.u64.wrap (m : Int)) e).trans (wrapu_of (n := ((a &&& b : Nat) : Int)) (by omega) (by omega))
theorem wrapu_cast {n : Nat} (h : n < 18446744073709551616) : IntKind.u64.wrap (n : Int) = n := wrapu_of (by omega) (by omega)
theorem stage1 {x : Nat} (hx : x < 4294967296) : IntKind.u64.wrap (Go.bits .and .u64 ((x : Int) / 2) 6148914691236517205 + Go.bits .and .u64 (x : Int) 6148914691236517205) = (((x / 2 &&& 6148914691236517205) + (x &&& 6148914691236517205) : Nat) : Int) := by
  have h1 : x / 2 &&& 6148914691236517205 ≤ x / 2 := Nat.and_le_left
  have h2 : x &&& 6148914691236517205 ≤ x := Nat.and_le_left
  have e1 : Go.bits .and .u64 ((x : Int) / 2) 6148914691236517205 = ((x / 2 &&& 6148914691236517205 : Nat) : Int) := andu_cast (a := x / 2) (b := 6148914691236517205) (by omega) (by decide)
  have e2 : Go.bits .and .u64 (x : Int) 6148914691236517205 = ((x &&& 6148914691236517205 : Nat) : Int) := andu_cast (b := 6148914691236517205) (by omega) (by decide)
  rw [e1, e2, ← Int.natCast_add, wrapu_cast (by omega)]
theorem stage2 {x : Nat} (hx : x < 4294967296) : IntKind.u64.wrap (Go.bits .and .u64 ((x : Int) / 4) 3689348814741910323 + Go.bits .and .u64 (x : Int) 3689348814741910323) = (((x / 4 &&& 3689348814741910323) + (x &&& 3689348814741910323) : Nat) : Int) := by
  have h1 : x / 4 &&& 3689348814741910323 ≤ x / 4 := Nat.and_le_left
  have h2 : x &&& 3689348814741910323 ≤ x := Nat.and_le_left
  have e1 : Go.bits .and .u64 ((x : Int) / 4) 3689348814741910323 = ((x / 4 &&& 3689348814741910323 : Nat) : Int) := andu_cast (a := x / 4) (b := 3689348814741910323) (by omega) (by decide)
  have e2 : Go.bits .and .u64 (x : Int) 3689348814741910323 = ((x &&& 3689348814741910323 : Nat) : Int) := andu_cast (b := 3689348814741910323) (by omega) (by decide)
  rw [e1, e2, ← Int.natCast_add, wrapu_cast (by omega)]
theorem stage3 {x : Nat} (hx : x < 4294967296) : Go.bits .and .u64 (IntKind.u64.wrap ((x : Int) / 16 + (x : Int))) 1085102592571150095 = (((x / 16 + x) &&& 1085102592571150095 : Nat) : Int) := by
  rw [show ((x : Int) / 16 + (x : Int)) = ((x / 16 + x : Nat) : Int) by simp, wrapu_cast (by omega)]
  exact andu_cast (b := 1085102592571150095) (by omega) (by decide)
theorem stage4 {x : Nat} (n : Nat) (hx : x < 4294967296) : IntKind.u64.wrap ((x : Int) + (x : Int) / (n : Int)) = ((x + x / n : Nat) : Int) := by
  have : x / n ≤ x := Nat.div_le_self _ _
  rw [show ((x : Int) + (x : Int) / (n : Int)) = ((x + x / n : Nat) : Int) by simp, wrapu_cast (by omega)]
theorem last {a b c d : Nat} (ha : a ≤ 8) (hb : b ≤ 8) (hc : c ≤ 8) (hd : d ≤ 8) : a + 256 * (b + 256 * (c + 256 * d)) < 4294967296 := by omega
theorem cnt_ones {x : Nat} (hx : x < 4294967296) : impl_ones.f x = some ((cnt x : Nat) : Int) := by
  obtain ⟨a, b, c, d, rfl, ha, hb, hc, hd⟩ := bytes_of hx
  obtain ⟨a1, a2, a3, a4, a5⟩ := t_facts ha
  obtain ⟨b1, b2, b3, b4, b5⟩ := t_facts hb
  obtain ⟨c1, c2, c3, c4, c5⟩ := t_facts hc
  obtain ⟨d1, d2, d3, d4, d5⟩ := t_facts hd
  rw [cnt_bytes ha hb hc hd]
  have f1 := stage1 hx
  rw [low0 hx, low0 (x := (a + 256 * (b + 256 * (c + 256 * d))) / 2) (by omega), step1 ha, step1 hb, step1 hc, show (d / 2 &&& 85) + (d &&& 85) = t1 d from rfl] at f1
  have g1 : t1 a + 256 * (t1 b + 256 * (t1 c + 256 * t1 d)) < 4294967296 := by omega
  have f2 := stage2 g1
  rw [low1 g1, low1 (x := (t1 a + 256 * (t1 b + 256 * (t1 c + 256 * t1 d))) / 4) (by omega), step2 a1, step2 b1, step2 c1, show (t1 d / 4 &&& 51) + (t1 d &&& 51) = t2 (t1 d) from rfl] at f2
  have g2 : t2 (t1 a) + 256 * (t2 (t1 b) + 256 * (t2 (t1 c) + 256 * t2 (t1 d))) < 2000000000 := by omega
  have f3 := stage3 (x := t2 (t1 a) + 256 * (t2 (t1 b) + 256 * (t2 (t1 c) + 256 * t2 (t1 d)))) (by omega)
  rw [low2 (x := (t2 (t1 a) + 256 * (t2 (t1 b) + 256 * (t2 (t1 c) + 256 * t2 (t1 d)))) / 16 + (t2 (t1 a) + 256 * (t2 (t1 b) + 256 * (t2 (t1 c) + 256 * t2 (t1 d))))) (by omega), step3 a2 (by omega), step3 b2 (by omega), step3 c2 (by omega), show (t2 (t1 d) / 16 + t2 (t1 d)) &&& 15 = t3 (t2 (t1 d)) from rfl, a4, b4, c4, d4] at f3
  unfold impl_ones.f bits_OnesCount64.f
  rw [wrapu_cast (n := a + 256 * (b + 256 * (c + 256 * d))) (by omega), f1, f2, f3]
  clear f1 f2 f3 g1 g2 a1 a2 a3 a4 b1 b2 b3 b4 c1 c2 c3 c4 d1 d2 d3 d4 hx
  generalize cnt8 a = p at a5 ⊢
  generalize cnt8 b = q at b5 ⊢
  generalize cnt8 c = r at c5 ⊢
  generalize cnt8 d = s at d5 ⊢
  have h1 := stage4 (x := p + 256 * (q + 256 * (r + 256 * s))) 256 (by omega)
  have h2 := stage4 (x := p + 256 * (q + 256 * (r + 256 * s)) + (p + 256 * (q + 256 * (r + 256 * s))) / 256) 65536 (by omega)
  rw [show ((p + 256 * (q + 256 * (r + 256 * s)) + (p + 256 * (q + 256 * (r + 256 * s))) / 256) + (p + 256 * (q + 256 * (r + 256 * s)) + (p + 256 * (q + 256 * (r + 256 * s))) / 256) / 65536) = (p + q + r + s) + 256 * ((q + r + s) + 256 * ((r + s) + 256 * s)) by omega] at h2
  have h3 := stage4 (x := (p + q + r + s) + 256 * ((q + r + s) + 256 * ((r + s) + 256 * s))) 4294967296 (by omega)
  rw [show (p + q + r + s) + 256 * ((q + r + s) + 256 * ((r + s) + 256 * s)) + ((p + q + r + s) + 256 * ((q + r + s) + 256 * ((r + s) + 256 * s))) / 4294967296 = (p + q + r + s) + 256 * ((q + r + s) + 256 * ((r + s) + 256 * s)) by omega] at h3
  have e1 : ((256 : Nat) : Int) = 256 := rfl
  have e2 : ((65536 : Nat) : Int) = 65536 := rfl
  have e3 : ((4294967296 : Nat) : Int) = 4294967296 := rfl
  rw [e1] at h1
  rw [e2] at h2
  rw [e3] at h3
  rw [h1, h2, h3, wrap64_cast (by omega)]
  have e4 : Go.bits .and .i64 (((p + q + r + s) + 256 * ((q + r + s) + 256 * ((r + s) + 256 * s)) : Nat) : Int) 127 = ((((p + q + r + s) + 256 * ((q + r + s) + 256 * ((r + s) + 256 * s))) &&& 127 : Nat) : Int) := and_cast (b := 127) (by omega) (by decide)
  rw [e4, show (127 : Nat) = 2 ^ 7 - 1 from rfl, Nat.and_two_pow_sub_one_eq_mod, Option.bind_some]
  congr 2
  show _ % 128 = _
  omega
end Go.Proofs.Ytgcflignpeencaa.U
