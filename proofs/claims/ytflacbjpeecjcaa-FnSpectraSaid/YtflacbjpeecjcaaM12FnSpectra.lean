/- Walks of Go functions and lemmas on what they compute, for the row of FnSpectra (a part of several): each call ends as the Lean function of its name tells; the conditions are those of each theorem. -/
import Derived.Test.YtflacbjpeecjcaaM1FnSpectra
import Derived.Test.YtflacbjpeecjcaaM2FnSpectra
import Derived.Test.YtflacbjpeecjcaaM3FnSpectra
import Derived.Test.YtflacbjpeecjcaaM4FnSpectra
import Derived.Test.YtflacbjpeecjcaaM6FnSpectra
import Derived.Test.YtflacbjpeecjcaaM7FnSpectra
import Derived.Test.YtflacbjpeecjcaaM8FnSpectra
import Derived.Test.YtflacbjpeecjcaaM9FnSpectra
import Derived.Test.YtflacbjpeecjcaaM10FnSpectra
namespace Go.Proofs.Ytflacbjpeecjcaa.U
open Go.RowKit Go.Proofs.YtflacbjpeecjcaaW.PrintWords Go.Proofs.YtflacbjpeecjcaaW.PrintLast Go.Proofs.YtflacbjpeecjcaaW.PrintMore Go.Proofs.Ytflacbjpeecjcaa.F Go.Proofs.Ytflacbjpeecjcaa.B
set_option linter.unusedVariables false
set_option linter.unusedSimpArgs false
def isTab (a b : Int) : Bool := decide (0 ≤ a ∧ a ≤ 5 ∧ 0 ≤ b ∧ b < 2 ^ 2 ^ a.toNat)
theorem isTab_of {n w : Nat} (h : Tab n w) : isTab n w = true := by
  unfold isTab
  have h2 : (w : Int) < 2 ^ 2 ^ n := by exact_mod_cast h.2
  exact decide_eq_true ⟨by omega,by have := h.1;omega,by omega,by simpa using h2⟩
theorem tab_of {a b : Int} (h : isTab a b = true) : ∃ n w : Nat,a = n ∧ b = w ∧ Tab n w := by
  have h := of_decide_eq_true h
  obtain ⟨n,rfl⟩ := Int.eq_ofNat_of_zero_le h.1
  obtain ⟨w,rfl⟩ := Int.eq_ofNat_of_zero_le h.2.2.1
  refine ⟨n,w,rfl,rfl,by omega,?_⟩
  have h2 := h.2.2.2
  rw [Int.toNat_natCast] at h2
  exact_mod_cast h2
theorem spec_isTable (a b : Int) : spec_IsTable.f a b = some (isTab a b) := rfl
theorem size_some {n : Nat} (v : Int) (hn : n ≤ 62) : impl_Table_size.f n v = some ((2 ^ n : Nat) : Int) := by
  unfold impl_Table_size.f
  rw [if_pos (by omega),shl1_of (by omega)]
theorem at_some' {n : Int} {w x : Nat} (hw : w < 9223372036854775808) (hx : x ≤ 64) : impl_Table_at.f n w x = some ((bitN w x : Nat) : Int) := by
  unfold impl_Table_at.f
  rw [if_pos (by omega),bit_cast hw hx]
theorem shr_zero_iff {w m : Nat} : w >>> m = 0 ↔ w < 2 ^ m := by
  rw [Nat.shiftRight_eq_div_pow,Nat.div_eq_zero_iff]
  have := pow_pos m
  omega
theorem impl_isTable {a b : Int} (h0 : -9223372036854775808 ≤ b) (h1 : b ≤ 9223372036854775807) : impl_IsTable.f a b = some (isTab a b) := by
  have hb : impl_isBits.f a = some (decide (0 ≤ a ∧ a ≤ 5)) := by
    unfold impl_isBits.f
    by_cases h : a ≥ 0
    · rw [if_pos h];congr 1;exact decide_eq_decide.mpr (by omega)
    · rw [if_neg h];congr 1;symm;exact decide_eq_false (by omega)
  unfold impl_IsTable.f
  rw [hb]
  simp only [Option.bind_some,decide_eq_true_eq]
  by_cases h : 0 ≤ a ∧ a ≤ 5
  · rw [if_pos h]
    by_cases hb0 : b ≥ 0
    · rw [if_pos hb0]
      obtain ⟨n,rfl⟩ := Int.eq_ofNat_of_zero_le h.1
      obtain ⟨w,rfl⟩ := Int.eq_ofNat_of_zero_le hb0
      have hM := pow_le (n := n) (by omega)
      rw [size_some _ (by omega)]
      simp only [Option.bind_some]
      rw [if_pos (Int.natCast_nonneg _),shr_cast w _ (by omega)]
      congr 1
      unfold isTab
      apply Bool.eq_iff_iff.mpr
      rw [beq_iff_eq,decide_eq_true_eq,Int.toNat_natCast]
      have e := @shr_zero_iff w (2 ^ n)
      constructor
      · intro hz
        have hz : w >>> 2 ^ n = 0 := by exact_mod_cast hz
        have := e.mp hz
        exact ⟨h.1,h.2,hb0,by exact_mod_cast this⟩
      · intro hh
        have hh := hh.2.2.2
        have := e.mpr (by exact_mod_cast hh)
        exact_mod_cast this
    · rw [if_neg hb0]
      congr 1;symm
      exact decide_eq_false (by omega)
  · rw [if_neg h]
    congr 1;symm
    exact decide_eq_false (by omega)
end Go.Proofs.Ytflacbjpeecjcaa.U
namespace Go.Proofs.Ytflacbjpeecjcaa.U
open Go.RowKit Go.Proofs.YtflacbjpeecjcaaW.PrintWords Go.Proofs.YtflacbjpeecjcaaW.PrintLast Go.Proofs.YtflacbjpeecjcaaW.PrintMore Go.Proofs.Ytflacbjpeecjcaa.F Go.Proofs.Ytflacbjpeecjcaa.B
set_option linter.unusedVariables false
set_option linter.unusedSimpArgs false
theorem full_some {n : Nat} (hn : n ≤ 5) : spec_l2Full.f n = some (((2 ^ 2 ^ n - 1 : Nat)) : Int) := by
  unfold spec_l2Full.f
  rw [if_pos (by omega),Int.toNat_natCast]
  congr 1
  have := pow_pos (2 ^ n)
  rw [Int.natCast_sub (by omega)]
  simp
end Go.Proofs.Ytflacbjpeecjcaa.U
namespace Go.Proofs.Ytflacbjpeecjcaa.U
open Go.RowKit Go.Proofs.YtflacbjpeecjcaaW.PrintWords Go.Proofs.YtflacbjpeecjcaaW.PrintLast Go.Proofs.YtflacbjpeecjcaaW.PrintMore Go.Proofs.Ytflacbjpeecjcaa.F Go.Proofs.Ytflacbjpeecjcaa.B
set_option linter.unusedVariables false
set_option linter.unusedSimpArgs false
theorem xor_lt {n x s : Nat} (hx : x < 2 ^ n) (hs : s < 2 ^ n) : x ^^^ s < 2 ^ n := Nat.xor_lt_two_pow hx hs
theorem xor_xor (x s : Nat) : x ^^^ s ^^^ s = x := by rw [Nat.xor_assoc,Nat.xor_self,Nat.xor_zero]
def shiftW (n w s : Nat) : Nat := tabN (fun x => w.testBit (x ^^^ s)) (2 ^ n)
theorem l3Shift_loop {n w s : Nat} (ht : Tab n w) (hs : s < 2 ^ n) : ∀ d k x,x + d = 2 ^ n → d < k →
    spec_l3Shift.l0 k s ((orN (fun i => bitN w i <<< (i ^^^ s)) x : Nat) : Int) x n w = some ((n : Int),((orN (fun i => bitN w i <<< (i ^^^ s)) (2 ^ n) : Nat) : Int)) := by
  have hM := pow_le ht.1
  have hn5 := ht.1
  intro d
  induction d with
  | zero =>
    intro k x hx hk
    obtain ⟨k,rfl⟩ : ∃ m,k = m + 1 := ⟨k - 1,by omega⟩
    obtain rfl : x = 2 ^ n := by omega
    simp only [spec_l3Shift.l0]
    rw [if_pos (by omega),shl1_of (by omega),if_neg (by omega)]
  | succ d ih =>
    intro k x hx hk
    obtain ⟨k,rfl⟩ : ∃ m,k = m + 1 := ⟨k - 1,by omega⟩
    have hlt : x < 2 ^ n := by omega
    have hq := xor_lt hlt hs
    have hb := @bitN_shl_lt w x (x ^^^ s) 32 (by omega)
    have ho : orN (fun i => bitN w i <<< (i ^^^ s)) x < 2 ^ 32 := orN_lt fun i hi => bitN_shl_lt (by have := xor_lt (show i < 2 ^ n by omega) hs;omega)
    simp only [spec_l3Shift.l0]
    rw [if_pos (by omega),shl1_of (by omega),if_pos (by exact_mod_cast hlt),if_pos (by omega),xor_cast (by omega) (by omega),if_pos (Int.natCast_nonneg _),bit_cast ht.lt63 (by omega),shl_cast (by omega) (by omega),or_cast (by omega) (by omega),wrap64_succ (by omega)]
    exact ih k (x + 1) (by omega) (by omega)
theorem l3Shift_some {n w s k : Nat} (ht : Tab n w) (hs : s < 2 ^ n) (hk : 32 < k) : spec_l3Shift.f k n w s = some ((n : Int),((shiftW n w s : Nat) : Int)) := by
  have hM := pow_le ht.1
  have h := l3Shift_loop ht hs (2 ^ n) k 0 (by omega) (by omega)
  rw [orN_perm w (2 ^ n) (fun i => i ^^^ s) (fun i => i ^^^ s) (fun i hi => xor_lt hi hs) (fun i hi => xor_lt hi hs) (fun i _ => xor_xor i s) (fun i _ => xor_xor i s)] at h
  exact h
def cnt (w : Nat) : Nat := cntN (fun i => w.testBit i) 32
theorem cntN_add (p : Nat → Bool) (m : Nat) : ∀ n,cntN p (m + n) = cntN p m + cntN (fun i => p (m + i)) n := by
  intro n
  induction n with
  | zero => rfl
  | succ n ih => rw [← Nat.add_assoc,cntN,cntN,ih];omega
theorem cntN_first (p : Nat → Bool) (n : Nat) : cntN p (n + 1) = (p 0).toNat + cntN (fun i => p (i + 1)) n := by
  rw [Nat.add_comm,cntN_add]
  simp only [cntN,Nat.zero_add]
  congr 2
  funext i
  rw [Nat.add_comm]
theorem cntN_zero {p : Nat → Bool} (h : ∀ i,p i = false) : ∀ n,cntN p n = 0 := by
  intro n
  induction n with
  | zero => rfl
  | succ n ih => rw [cntN,ih,h];rfl
theorem ref_loop : ∀ (n k a x : Nat),x < 2 ^ n → n < k → a + n < 9223372036854775808 → x < 9223372036854775808 →
    spec_l2Count.l0 k (a : Int) (x : Int) = some ((a + cntN (fun i => x.testBit i) n : Nat) : Int) := by
  intro n
  induction n with
  | zero =>
    intro k a x hx hk ha _
    obtain ⟨k,rfl⟩ : ∃ m,k = m + 1 := ⟨k - 1,by omega⟩
    obtain rfl : x = 0 := by simpa using hx
    simp only [spec_l2Count.l0]
    rw [if_neg (by omega)]
    rfl
  | succ n ih =>
    intro k a x hx hk ha hx63
    obtain ⟨k,rfl⟩ : ∃ m,k = m + 1 := ⟨k - 1,by omega⟩
    simp only [spec_l2Count.l0]
    by_cases h0 : (x : Int) > 0
    · have hb : Go.bits .and .i64 (x : Int) 1 = ((bitN x 0 : Nat) : Int) := by
        rw [← shr_and_one,Nat.shiftRight_zero]
        exact and_cast (b := 1) hx63 (by decide)
      have h1 := bitN_le x 0
      rw [if_pos h0,hb,show wrap64 ((a : Int) + ((bitN x 0 : Nat) : Int)) = ((a + bitN x 0 : Nat) : Int) by rw [wrap64_of (by omega) (by omega)];omega,show ((x : Int) / 2) = ((x / 2 : Nat) : Int) by simp]
      rw [ih k (a + bitN x 0) (x / 2) (by rw [Nat.pow_succ] at hx;omega) (by omega) (by omega) (by omega),cntN_first]
      congr 2
      have e : (fun i => (x / 2).testBit i) = fun i => x.testBit (i + 1) := by funext i;rw [Nat.testBit_succ]
      rw [e]
      show a + (x.testBit 0).toNat + _ = _
      omega
    · obtain rfl : x = 0 := by omega
      rw [if_neg h0,cntN_zero (fun i => Nat.zero_testBit i)]
      rfl
theorem cnt_ref {x k : Nat} (hx : x < 4294967296) (hk : 33 ≤ k) : spec_l2Count.f k x = some ((cnt x : Nat) : Int) := by
  have h := ref_loop 32 k 0 x hx (by omega) (by omega) (by omega)
  rw [Nat.zero_add] at h
  exact h
theorem land_lane (k : Nat) {a c : Nat} (b d : Nat) (ha : a < 2 ^ k) (hc : c < 2 ^ k) : (a + 2 ^ k * b) &&& (c + 2 ^ k * d) = (a &&& c) + 2 ^ k * (b &&& d) := by
  have hac : a &&& c < 2 ^ k := Nat.and_lt_two_pow _ hc
  apply Nat.eq_of_testBit_eq
  intro i
  rw [Nat.testBit_and,Nat.add_comm a,Nat.add_comm c,Nat.add_comm (a &&& c),Nat.testBit_two_pow_mul_add _ ha,Nat.testBit_two_pow_mul_add _ hc,Nat.testBit_two_pow_mul_add _ hac]
  split
  · rw [Nat.testBit_and]
  · rw [Nat.testBit_and]
theorem lane_bit (a y i : Nat) (ha : a < 256) : (a + 256 * y).testBit (8 + i) = y.testBit i ∧ (i < 8 → (a + 256 * y).testBit i = a.testBit i) := by
  have h : ∀ j,(a + 256 * y).testBit j = if j < 8 then a.testBit j else y.testBit (j - 8) := fun j => by
    rw [Nat.add_comm];exact Nat.testBit_two_pow_mul_add y (i := 8) ha j
  constructor
  · rw [h,if_neg (by omega),show 8 + i - 8 = i by omega]
  · intro hi;rw [h,if_pos hi]
def cnt8 (a : Nat) : Nat := cntN (fun i => a.testBit i) 8
theorem cnt_lane (a y n : Nat) (ha : a < 256) : cntN (fun i => (a + 256 * y).testBit i) (8 + n) = cnt8 a + cntN (fun i => y.testBit i) n := by
  rw [cntN_add]
  congr 1
  · exact cntN_congr fun i hi => (lane_bit a y i ha).2 hi
  · exact cntN_congr fun i _ => (lane_bit a y i ha).1
theorem byte_split {n x : Nat} (hx : x < 256 * n) : ∃ a y,x = a + 256 * y ∧ a < 256 ∧ y < n := ⟨x % 256,x / 256,by omega,by omega,by omega⟩
theorem bytes_of {x : Nat} (hx : x < 4294967296) : ∃ a b c d,x = a + 256 * (b + 256 * (c + 256 * d)) ∧ a < 256 ∧ b < 256 ∧ c < 256 ∧ d < 256 := by
  obtain ⟨a,y,rfl,ha,hy⟩ := byte_split (n := 16777216) (x := x) (by omega)
  obtain ⟨b,z,rfl,hb,hz⟩ := byte_split (n := 65536) (x := y) (by omega)
  obtain ⟨c,d,rfl,hc,hd⟩ := byte_split (n := 256) (x := z) (by omega)
  exact ⟨a,b,c,d,rfl,ha,hb,hc,hd⟩
theorem cnt_bytes {a b c d : Nat} (ha : a < 256) (hb : b < 256) (hc : c < 256) (hd : d < 256) : cnt (a + 256 * (b + 256 * (c + 256 * d))) = cnt8 a + cnt8 b + cnt8 c + cnt8 d := by
  have h1 : cnt (a + 256 * (b + 256 * (c + 256 * d))) = cnt8 a + cntN (fun i => (b + 256 * (c + 256 * d)).testBit i) 24 := cnt_lane a _ 24 ha
  have h2 : cntN (fun i => (b + 256 * (c + 256 * d)).testBit i) 24 = cnt8 b + cntN (fun i => (c + 256 * d).testBit i) 16 := cnt_lane b _ 16 hb
  have h3 : cntN (fun i => (c + 256 * d).testBit i) 16 = cnt8 c + cnt8 d := cnt_lane c d 8 hc
  rw [h1,h2,h3,Nat.add_assoc,Nat.add_assoc]
def t1 (a : Nat) : Nat := (a / 2 &&& 85) + (a &&& 85)
def t2 (a : Nat) : Nat := (a / 4 &&& 51) + (a &&& 51)
def t3 (a : Nat) : Nat := (a / 16 + a) &&& 15
theorem t_facts {a : Nat} (ha : a < 256) : t1 a < 256 ∧ t2 (t1 a) ≤ 68 ∧ t2 (t1 a) % 16 ≤ 4 ∧ t3 (t2 (t1 a)) = cnt8 a ∧ cnt8 a ≤ 8 := by
  have h : ∀ a : Fin 256,t1 a.val < 256 ∧ t2 (t1 a.val) ≤ 68 ∧ t2 (t1 a.val) % 16 ≤ 4 ∧ t3 (t2 (t1 a.val)) = cnt8 a.val ∧ cnt8 a.val ≤ 8 := by decide +kernel
  exact h ⟨a,ha⟩
theorem mask1 {a b : Nat} (ha : a < 256) : (a / 2 + 128 * (b % 2)) &&& 85 = a / 2 &&& 85 := by
  have h : ∀ a : Fin 256,∀ b : Fin 2,(a.val / 2 + 128 * b.val) &&& 85 = a.val / 2 &&& 85 := by decide +kernel
  exact h ⟨a,ha⟩ ⟨b % 2,by omega⟩
theorem mask2 {a b : Nat} (ha : a < 256) : (a / 4 + 64 * (b % 4)) &&& 51 = a / 4 &&& 51 := by
  have h : ∀ a : Fin 256,∀ b : Fin 4,(a.val / 4 + 64 * b.val) &&& 51 = a.val / 4 &&& 51 := by decide +kernel
  exact h ⟨a,ha⟩ ⟨b % 4,by omega⟩
theorem mask3 {a b : Nat} (ha : a ≤ 68) (hb : b ≤ 4) : (a / 16 + a + 16 * b) &&& 15 = (a / 16 + a) &&& 15 := by
  have h : ∀ a : Fin 69,∀ b : Fin 5,(a.val / 16 + a.val + 16 * b.val) &&& 15 = (a.val / 16 + a.val) &&& 15 := by decide +kernel
  exact h ⟨a,by omega⟩ ⟨b,by omega⟩
theorem step1 {a y d : Nat} (ha : a < 256) : ((a + 256 * y) / 2 &&& (85 + 256 * d)) + ((a + 256 * y) &&& (85 + 256 * d)) = t1 a + 256 * ((y / 2 &&& d) + (y &&& d)) := by
  have e1 := land_lane 8 (a := a) (c := 85) y d ha (by decide)
  have e2 := land_lane 8 (a := a / 2 + 128 * (y % 2)) (c := 85) (y / 2) d (by show _ < 256;omega) (by decide)
  have e3 := mask1 (b := y) ha
  have e4 : (a + 256 * y) / 2 = a / 2 + 128 * (y % 2) + 2 ^ 8 * (y / 2) := by show _ = _ + 256 * _;omega
  have e5 : a + 256 * y = a + 2 ^ 8 * y := rfl
  have e6 : 85 + 256 * d = 85 + 2 ^ 8 * d := rfl
  rw [e4,e6,e2,e5,e1,e3]
  unfold t1
  show _ + 256 * _ + (_ + 256 * _) = _
  omega
theorem step2 {a y d : Nat} (ha : a < 256) : ((a + 256 * y) / 4 &&& (51 + 256 * d)) + ((a + 256 * y) &&& (51 + 256 * d)) = t2 a + 256 * ((y / 4 &&& d) + (y &&& d)) := by
  have e1 := land_lane 8 (a := a) (c := 51) y d ha (by decide)
  have e2 := land_lane 8 (a := a / 4 + 64 * (y % 4)) (c := 51) (y / 4) d (by show _ < 256;omega) (by decide)
  have e3 := mask2 (b := y) ha
  have e4 : (a + 256 * y) / 4 = a / 4 + 64 * (y % 4) + 2 ^ 8 * (y / 4) := by show _ = _ + 256 * _;omega
  have e5 : a + 256 * y = a + 2 ^ 8 * y := rfl
  have e6 : 51 + 256 * d = 51 + 2 ^ 8 * d := rfl
  rw [e4,e6,e2,e5,e1,e3]
  unfold t2
  show _ + 256 * _ + (_ + 256 * _) = _
  omega
theorem step3 {a y d : Nat} (ha : a ≤ 68) (hy : y % 16 ≤ 4) : ((a + 256 * y) / 16 + (a + 256 * y)) &&& (15 + 256 * d) = t3 a + 256 * ((y / 16 + y) &&& d) := by
  have e2 := land_lane 8 (a := a / 16 + a + 16 * (y % 16)) (c := 15) (y / 16 + y) d (by show _ < 256;omega) (by decide)
  have e3 := mask3 ha hy
  have e4 : (a + 256 * y) / 16 + (a + 256 * y) = a / 16 + a + 16 * (y % 16) + 2 ^ 8 * (y / 16 + y) := by show _ = _ + 256 * _;omega
  have e6 : 15 + 256 * d = 15 + 2 ^ 8 * d := rfl
  rw [e4,e6,e2,e3]
  rfl
theorem and_low {x c : Nat} (hx : x < 4294967296) : x &&& (c % 4294967296 + 4294967296 * (c / 4294967296)) = x &&& (c % 4294967296) := by
  have e := land_lane 32 (a := x) (c := c % 4294967296) 0 (c / 4294967296) hx (Nat.mod_lt _ (by decide))
  rw [Nat.mul_zero,Nat.add_zero,Nat.zero_and,Nat.mul_zero,Nat.add_zero] at e
  exact e
theorem low0 {x : Nat} (hx : x < 4294967296) : x &&& 6148914691236517205 = x &&& (85 + 256 * (85 + 256 * (85 + 256 * 85))) := and_low (c := 6148914691236517205) hx
theorem low1 {x : Nat} (hx : x < 4294967296) : x &&& 3689348814741910323 = x &&& (51 + 256 * (51 + 256 * (51 + 256 * 51))) := and_low (c := 3689348814741910323) hx
theorem low2 {x : Nat} (hx : x < 4294967296) : x &&& 1085102592571150095 = x &&& (15 + 256 * (15 + 256 * (15 + 256 * 15))) := and_low (c := 1085102592571150095) hx
theorem andu_cast {a b : Nat} (ha : a < 9223372036854775808) (hb : b < 9223372036854775808) : Go.bits .and .u64 (a : Int) (b : Int) = ((a &&& b : Nat) : Int) := by
  have h := Nat.and_lt_two_pow a (lt63 hb)
  have e : (BitVec.ofNat 64 a &&& BitVec.ofNat 64 b).toNat = a &&& b := by rw [BitVec.toNat_and,BitVec.toNat_ofNat,BitVec.toNat_ofNat,mod64 ha,mod64 hb]
  simp only [Go.bits,IntKind.bits,BitVec.ofInt_natCast]
  exact (congrArg (fun m : Nat => IntKind.u64.wrap (m : Int)) e).trans (wrapu_of (n := ((a &&& b : Nat) : Int)) (by omega) (by omega))
theorem wrapu_cast {n : Nat} (h : n < 18446744073709551616) : IntKind.u64.wrap (n : Int) = n := wrapu_of (by omega) (by omega)
theorem stage1 {x : Nat} (hx : x < 4294967296) : IntKind.u64.wrap (Go.bits .and .u64 ((x : Int) / 2) 6148914691236517205 + Go.bits .and .u64 (x : Int) 6148914691236517205) = (((x / 2 &&& 6148914691236517205) + (x &&& 6148914691236517205) : Nat) : Int) := by
  have h1 : x / 2 &&& 6148914691236517205 ≤ x / 2 := Nat.and_le_left
  have h2 : x &&& 6148914691236517205 ≤ x := Nat.and_le_left
  have e1 : Go.bits .and .u64 ((x : Int) / 2) 6148914691236517205 = ((x / 2 &&& 6148914691236517205 : Nat) : Int) := andu_cast (a := x / 2) (b := 6148914691236517205) (by omega) (by decide)
  have e2 : Go.bits .and .u64 (x : Int) 6148914691236517205 = ((x &&& 6148914691236517205 : Nat) : Int) := andu_cast (b := 6148914691236517205) (by omega) (by decide)
  rw [e1,e2,← Int.natCast_add,wrapu_cast (by omega)]
theorem stage2 {x : Nat} (hx : x < 4294967296) : IntKind.u64.wrap (Go.bits .and .u64 ((x : Int) / 4) 3689348814741910323 + Go.bits .and .u64 (x : Int) 3689348814741910323) = (((x / 4 &&& 3689348814741910323) + (x &&& 3689348814741910323) : Nat) : Int) := by
  have h1 : x / 4 &&& 3689348814741910323 ≤ x / 4 := Nat.and_le_left
  have h2 : x &&& 3689348814741910323 ≤ x := Nat.and_le_left
  have e1 : Go.bits .and .u64 ((x : Int) / 4) 3689348814741910323 = ((x / 4 &&& 3689348814741910323 : Nat) : Int) := andu_cast (a := x / 4) (b := 3689348814741910323) (by omega) (by decide)
  have e2 : Go.bits .and .u64 (x : Int) 3689348814741910323 = ((x &&& 3689348814741910323 : Nat) : Int) := andu_cast (b := 3689348814741910323) (by omega) (by decide)
  rw [e1,e2,← Int.natCast_add,wrapu_cast (by omega)]
theorem stage3 {x : Nat} (hx : x < 4294967296) : Go.bits .and .u64 (IntKind.u64.wrap ((x : Int) / 16 + (x : Int))) 1085102592571150095 = (((x / 16 + x) &&& 1085102592571150095 : Nat) : Int) := by
  rw [show ((x : Int) / 16 + (x : Int)) = ((x / 16 + x : Nat) : Int) by simp,wrapu_cast (by omega)]
  exact andu_cast (b := 1085102592571150095) (by omega) (by decide)
theorem stage4 {x : Nat} (n : Nat) (hx : x < 4294967296) : IntKind.u64.wrap ((x : Int) + (x : Int) / (n : Int)) = ((x + x / n : Nat) : Int) := by
  have : x / n ≤ x := Nat.div_le_self _ _
  rw [show ((x : Int) + (x : Int) / (n : Int)) = ((x + x / n : Nat) : Int) by simp,wrapu_cast (by omega)]
theorem cnt_ones {x : Nat} (hx : x < 4294967296) : impl_ones.f x = some ((cnt x : Nat) : Int) := by
  obtain ⟨a,b,c,d,rfl,ha,hb,hc,hd⟩ := bytes_of hx
  obtain ⟨a1,a2,a3,a4,a5⟩ := t_facts ha
  obtain ⟨b1,b2,b3,b4,b5⟩ := t_facts hb
  obtain ⟨c1,c2,c3,c4,c5⟩ := t_facts hc
  obtain ⟨d1,d2,d3,d4,d5⟩ := t_facts hd
  rw [cnt_bytes ha hb hc hd]
  have f1 := stage1 hx
  rw [low0 hx,low0 (x := (a + 256 * (b + 256 * (c + 256 * d))) / 2) (by omega),step1 ha,step1 hb,step1 hc,show (d / 2 &&& 85) + (d &&& 85) = t1 d from rfl] at f1
  have g1 : t1 a + 256 * (t1 b + 256 * (t1 c + 256 * t1 d)) < 4294967296 := by omega
  have f2 := stage2 g1
  rw [low1 g1,low1 (x := (t1 a + 256 * (t1 b + 256 * (t1 c + 256 * t1 d))) / 4) (by omega),step2 a1,step2 b1,step2 c1,show (t1 d / 4 &&& 51) + (t1 d &&& 51) = t2 (t1 d) from rfl] at f2
  have g2 : t2 (t1 a) + 256 * (t2 (t1 b) + 256 * (t2 (t1 c) + 256 * t2 (t1 d))) < 2000000000 := by omega
  have f3 := stage3 (x := t2 (t1 a) + 256 * (t2 (t1 b) + 256 * (t2 (t1 c) + 256 * t2 (t1 d)))) (by omega)
  rw [low2 (x := (t2 (t1 a) + 256 * (t2 (t1 b) + 256 * (t2 (t1 c) + 256 * t2 (t1 d)))) / 16 + (t2 (t1 a) + 256 * (t2 (t1 b) + 256 * (t2 (t1 c) + 256 * t2 (t1 d))))) (by omega),step3 a2 (by omega),step3 b2 (by omega),step3 c2 (by omega),show (t2 (t1 d) / 16 + t2 (t1 d)) &&& 15 = t3 (t2 (t1 d)) from rfl,a4,b4,c4,d4] at f3
  unfold impl_ones.f bits_OnesCount64.f
  rw [wrapu_cast (n := a + 256 * (b + 256 * (c + 256 * d))) (by omega),f1,f2,f3]
  clear f1 f2 f3 g1 g2 a1 a2 a3 a4 b1 b2 b3 b4 c1 c2 c3 c4 d1 d2 d3 d4 hx
  generalize cnt8 a = p at a5 ⊢
  generalize cnt8 b = q at b5 ⊢
  generalize cnt8 c = r at c5 ⊢
  generalize cnt8 d = s at d5 ⊢
  have h1 := stage4 (x := p + 256 * (q + 256 * (r + 256 * s))) 256 (by omega)
  have h2 := stage4 (x := p + 256 * (q + 256 * (r + 256 * s)) + (p + 256 * (q + 256 * (r + 256 * s))) / 256) 65536 (by omega)
  rw [show ((p + 256 * (q + 256 * (r + 256 * s)) + (p + 256 * (q + 256 * (r + 256 * s))) / 256) + (p + 256 * (q + 256 * (r + 256 * s)) + (p + 256 * (q + 256 * (r + 256 * s))) / 256) / 65536) = (p + q + r + s) + 256 * ((q + r + s) + 256 * ((r + s) + 256 * s)) by omega] at h2
  have h3 := stage4 (x := (p + q + r + s) + 256 * ((q + r + s) + 256 * ((r + s) + 256 * s))) 4294967296 (by omega)
  rw [show (p + q + r + s) + 256 * ((q + r + s) + 256 * ((r + s) + 256 * s)) + ((p + q + r + s) + 256 * ((q + r + s) + 256 * ((r + s) + 256 * s))) / 4294967296 = (p + q + r + s) + 256 * ((q + r + s) + 256 * ((r + s) + 256 * s)) by omega] at h3
  have e1 : ((256 : Nat) : Int) = 256 := rfl
  have e2 : ((65536 : Nat) : Int) = 65536 := rfl
  have e3 : ((4294967296 : Nat) : Int) = 4294967296 := rfl
  rw [e1] at h1
  rw [e2] at h2
  rw [e3] at h3
  rw [h1,h2,h3,wrap64_cast (by omega)]
  have e4 : Go.bits .and .i64 (((p + q + r + s) + 256 * ((q + r + s) + 256 * ((r + s) + 256 * s)) : Nat) : Int) 127 = ((((p + q + r + s) + 256 * ((q + r + s) + 256 * ((r + s) + 256 * s))) &&& 127 : Nat) : Int) := and_cast (b := 127) (by omega) (by decide)
  rw [e4,show (127 : Nat) = 2 ^ 7 - 1 from rfl,Nat.and_two_pow_sub_one_eq_mod,Option.bind_some]
  congr 2
  show _ % 128 = _
  omega
def I64 (x : Int) : Prop := -9223372036854775808 ≤ x ∧ x ≤ 9223372036854775807
theorem isTab_I {a b : Int} (h : I64 b) : impl_IsTable.f a b = some (isTab a b) := impl_isTable h.1 h.2
def cntI (a b : Int) : Int := if isTab a b = true then ((cnt b.toNat : Nat) : Int) else -1
theorem impl_cntI {a b : Int} (hb : I64 b) : impl_CountOnes.f a b = some (cntI a b) := by
  unfold impl_CountOnes.f cntI
  rw [isTab_I hb,Option.bind_some]
  by_cases h : isTab a b = true
  · obtain ⟨n,w,rfl,rfl,ht⟩ := tab_of h
    rw [if_pos h,if_pos h,cnt_ones ht.lt,Option.bind_some,Int.toNat_natCast]
  · rw [if_neg h,if_neg h]
def pop (x : Nat) : Nat := bitN x 0 + bitN x 1 + bitN x 2 + bitN x 3 + bitN x 4
theorem ones_small {x : Nat} (hx : x < 32) : impl_ones.f x = some ((pop x : Nat) : Int) := by
  have h : ∀ x : Fin 32,impl_ones.f ((x.val : Nat) : Int) = some ((pop x.val : Nat) : Int) := by decide +kernel
  exact h ⟨x,hx⟩
theorem pop_le {n x : Nat} (hn : n ≤ 5) (hx : x < 2 ^ n) : pop x ≤ n := by
  have h : ∀ n : Fin 6,∀ x : Fin 32,x.val < 2 ^ n.val → pop x.val ≤ n.val := by decide +kernel
  have := pow_le hn
  exact h ⟨n,by omega⟩ ⟨x,by omega⟩ hx
theorem ones_ref {x k : Nat} (hx : x < 32) (hk : 10 ≤ k) : spec_l2Count.f k x = some ((pop x : Nat) : Int) := by
  have hh : ∀ x : Fin 32,spec_l2Count.f 10 ((x.val : Nat) : Int) = some ((pop x.val : Nat) : Int) := by decide +kernel
  exact at_rounds (g := fun K => spec_l2Count.f K x) (fun K => spec_l2Count.mono _ K) hk (hh ⟨x,hx⟩)
end Go.Proofs.Ytflacbjpeecjcaa.U
namespace Go.Proofs.Ytflacbjpeecjcaa.U
open Go.RowKit Go.Proofs.YtflacbjpeecjcaaW.PrintWords Go.Proofs.YtflacbjpeecjcaaW.PrintLast Go.Proofs.YtflacbjpeecjcaaW.PrintMore Go.Proofs.Ytflacbjpeecjcaa.F Go.Proofs.Ytflacbjpeecjcaa.B
set_option linter.unusedVariables false
set_option linter.unusedSimpArgs false
set_option maxRecDepth 100000
def affB (u b x : Nat) : Bool := (pop (u &&& x) + b) % 2 == 1
def affW (n u b : Nat) : Nat := tabN (affB u b) (2 ^ n)
theorem affW_lt {n : Nat} (hn : n ≤ 5) (u b : Nat) : affW n u b < 4294967296 := Nat.lt_of_lt_of_le (tabN_lt _ _) (full_le hn)
theorem and_small {u x : Nat} (hx : x < 32) : u &&& x < 32 := Nat.lt_of_le_of_lt Nat.and_le_right hx
theorem impl_aff {n u b : Nat} (hn : n ≤ 5) (hu : u < 32) (hb : b ≤ 1) : impl_affine.f n u b = some ((n : Int),((affW n u b : Nat) : Int)) := by
  have ho : ∀ x : Nat,x < 2 ^ n → impl_ones.f ((u &&& x : Nat) : Int) = some ((pop (u &&& x) : Nat) : Int) := fun x hx => ones_small (and_small (Nat.lt_of_lt_of_le hx (pow_le hn)))
  have hp : ∀ x : Nat,x < 2 ^ n → pop (u &&& x) ≤ 5 := fun x hx => pop_le (n := 5) (by omega) (and_small (Nat.lt_of_lt_of_le hx (pow_le hn)))
  unfold impl_affine.f
  rw [if_pos ⟨by omega,by
    rw [Int.toNat_natCast,Int.toNat_natCast]
    refine allN_iff.mpr fun x hx => ?_
    have := hp x hx
    unfold impl_affine.okx
    rw [ho x hx]
    exact decide_eq_true ⟨by omega,by omega⟩⟩,Int.toNat_natCast,Int.toNat_natCast,Int.toNat_natCast]
  congr 3
  refine tabN_congr fun x hx => ?_
  unfold impl_affine.p affB
  rw [ho x hx]
  show ((((pop (u &&& x) : Nat) : Int) + (b : Int)) % 2 == 1) = _
  rw [show (((pop (u &&& x) : Nat) : Int) + (b : Int)) % 2 = (((pop (u &&& x) + b) % 2 : Nat) : Int) by omega]
  rcases Nat.mod_two_eq_zero_or_one (pop (u &&& x) + b) with h | h <;> rw [h] <;> rfl
def dist (n w u b : Nat) : Nat := cnt (w ^^^ affW n u b)
def nearS (n w u b : Nat) (s : Nat × Nat × Nat) : Nat × Nat × Nat := if dist n w u b < s.2.2 then (u,b,dist n w u b) else s
def goN {σ : Type} (f : Nat → σ → σ) : Nat → Nat → σ → σ
  | 0,_,s => s
  | d + 1,i,s => goN f d (i + 1) (f i s)
def nearU (n w u : Nat) (s : Nat × Nat × Nat) : Nat × Nat × Nat := nearS n w u 1 (nearS n w u 0 s)
theorem xor_lt32 {n w u b : Nat} (ht : Tab n w) : w ^^^ affW n u b < 4294967296 := Nat.xor_lt_two_pow (n := 32) ht.lt (affW_lt ht.1 u b)
theorem impl_near_b {n w u b : Nat} (ht : Tab n w) (hu : u < 2 ^ n) (hb : b < 2) (k : Nat) (s : Nat × Nat × Nat) :
    impl_NearestAffine.l1 (k + 1) s.1 s.2.1 s.2.2 u ((2 ^ n : Nat) : Int) u b n w = impl_NearestAffine.l1 k (nearS n w u b s).1 (nearS n w u b s).2.1 (nearS n w u b s).2.2 u ((2 ^ n : Nat) : Int) u ((b + 1 : Nat) : Int) n w := by
  have hM := pow_le ht.1
  have ha := affW_lt ht.1 u b
  have hl := ht.lt
  simp only [impl_NearestAffine.l1]
  rw [if_pos (by omega),impl_aff ht.1 (by omega) (by omega),Option.bind_some,xor_cast (by omega) (by omega),cnt_ones (xor_lt32 ht),Option.bind_some,wrap64_succ (by omega)]
  unfold nearS dist
  by_cases h : cnt (w ^^^ affW n u b) < s.2.2
  · rw [if_pos (by omega),if_pos h]
  · rw [if_neg (by omega),if_neg h]
theorem impl_near_u {n w u : Nat} (ht : Tab n w) (hu : u < 2 ^ n) (k : Nat) (s : Nat × Nat × Nat) :
    impl_NearestAffine.l0 (k + 4) s.1 s.2.1 s.2.2 ((2 ^ n : Nat) : Int) u n w = impl_NearestAffine.l0 k (nearU n w u s).1 (nearU n w u s).2.1 (nearU n w u s).2.2 ((2 ^ n : Nat) : Int) ((u + 1 : Nat) : Int) n w := by
  have hM := pow_le ht.1
  have h0 := impl_near_b ht hu (b := 0) (by decide) (k + 2) s
  have h1 := impl_near_b ht hu (b := 1) (by decide) (k + 1) (nearS n w u 0 s)
  rw [show k + 4 = (k + 3) + 1 from rfl]
  simp only [impl_NearestAffine.l0]
  rw [if_pos (by omega)]
  refine Eq.trans h0 (Eq.trans h1 ?_)
  simp only [impl_NearestAffine.l1]
  rw [if_neg (by omega),wrap64_succ (by omega)]
  rfl
theorem impl_near {n w : Nat} (ht : Tab n w) : ∀ (d k u : Nat) (s : Nat × Nat × Nat),u + d = 2 ^ n → d * 4 < k →
    impl_NearestAffine.l0 k s.1 s.2.1 s.2.2 ((2 ^ n : Nat) : Int) u n w = some (((goN (nearU n w) d u s).1 : Int),((goN (nearU n w) d u s).2.1 : Int),((goN (nearU n w) d u s).2.2 : Int),true) := by
  intro d
  induction d with
  | zero =>
    intro k u s hu hk
    obtain ⟨k,rfl⟩ : ∃ m,k = m + 1 := ⟨k - 1,by omega⟩
    simp only [impl_NearestAffine.l0]
    rw [if_neg (by omega)]
    rfl
  | succ d ih =>
    intro k u s hu hk
    obtain ⟨k,rfl⟩ : ∃ m,k = m + 4 := ⟨k - 4,by omega⟩
    rw [impl_near_u ht (by omega)]
    exact ih k (u + 1) _ (by omega) (by omega)
theorem cntN_cut {p : Nat → Bool} {m : Nat} (h : ∀ i,m ≤ i → p i = false) : ∀ r,cntN p (m + r) = cntN p m := by
  intro r
  induction r with
  | zero => rfl
  | succ r ih => rw [← Nat.add_assoc,cntN,ih,h _ (by omega)];rfl
theorem dist_le {n w : Nat} (ht : Tab n w) (u b : Nat) : dist n w u b ≤ 2 ^ n := by
  have hM := pow_le ht.1
  have hx : w ^^^ affW n u b < 2 ^ 2 ^ n := Nat.xor_lt_two_pow ht.2 (tabN_lt _ _)
  unfold dist cnt
  rw [show 32 = 2 ^ n + (32 - 2 ^ n) by omega,cntN_cut (fun i hi => testBit_ge hx hi)]
  exact cntN_le _ _
theorem near_first {n w : Nat} (ht : Tab n w) (a b : Nat) (ha : 2 ^ n < a) (hb : 2 ^ n < b) : goN (nearU n w) (2 ^ n) 0 (0,0,a) = goN (nearU n w) (2 ^ n) 0 (0,0,b) := by
  have hd := dist_le ht 0 0
  obtain ⟨d,hd'⟩ : ∃ d,2 ^ n = d + 1 := ⟨2 ^ n - 1,by have := pow_pos n;omega⟩
  rw [hd',goN,goN]
  congr 1
  unfold nearU
  congr 1
  unfold nearS
  rw [if_pos (show dist n w 0 0 < a by omega),if_pos (show dist n w 0 0 < b by omega)]
def nearI (a b : Int) : Int × Int × Int × Bool := if isTab a b = true then (((goN (nearU a.toNat b.toNat) (2 ^ a.toNat) 0 (0,0,100)).1 : Int),((goN (nearU a.toNat b.toNat) (2 ^ a.toNat) 0 (0,0,100)).2.1 : Int),((goN (nearU a.toNat b.toNat) (2 ^ a.toNat) 0 (0,0,100)).2.2 : Int),true) else (0,0,0,false)
theorem impl_nearest {a b : Int} (h0 : -9223372036854775808 ≤ b) (h1 : b ≤ 9223372036854775807) {k : Nat} (hk : 200 < k) : impl_NearestAffine.f k a b = some (nearI a b) := by
  unfold impl_NearestAffine.f nearI
  rw [impl_isTable h0 h1,Option.bind_some]
  cases hT : isTab a b with
  | false => rw [if_neg (by decide),if_neg (by decide)]
  | true =>
    obtain ⟨n,w,rfl,rfl,ht⟩ := tab_of hT
    have hM := pow_le ht.1
    have hn := ht.1
    rw [if_pos rfl,if_pos rfl,size_some _ (by omega),Option.bind_some,Option.bind_some,wrap64_succ (by omega),Int.toNat_natCast,Int.toNat_natCast,← near_first ht (2 ^ n + 1) 100 (by omega) (by omega)]
    exact impl_near ht (2 ^ n) k 0 (0,0,2 ^ n + 1) (by omega) (by omega)
end Go.Proofs.Ytflacbjpeecjcaa.U
namespace Go.Proofs.Ytflacbjpeecjcaa.U
open Go.RowKit Go.Proofs.YtflacbjpeecjcaaW.PrintWords Go.Proofs.YtflacbjpeecjcaaW.PrintLast Go.Proofs.YtflacbjpeecjcaaW.PrintMore Go.Proofs.Ytflacbjpeecjcaa.F Go.Proofs.Ytflacbjpeecjcaa.B
set_option linter.unusedVariables false
set_option linter.unusedSimpArgs false
theorem in_some (x lo hi : Int) : spec_l1In.f x lo hi = some (decide (lo ≤ x ∧ x ≤ hi)) := by
  unfold spec_l1In.f
  by_cases h : x ≥ lo
  · rw [if_pos h];congr 1;exact decide_eq_decide.mpr (by omega)
  · rw [if_neg h];congr 1;symm;exact decide_eq_false (by omega)
def NearAt (n w m : Nat) (s : Nat × Nat × Nat) : Prop := (s.1 < 2 ^ n ∧ s.2.1 ≤ 1 ∧ s.2.2 = dist n w s.1 s.2.1 ∨ s.2.2 = 100) ∧ ∀ u b : Nat,u < m → b ≤ 1 → s.2.2 ≤ dist n w u b
theorem nearS_le {n w u b : Nat} (s : Nat × Nat × Nat) : (nearS n w u b s).2.2 ≤ s.2.2 ∧ (nearS n w u b s).2.2 ≤ dist n w u b ∧ (nearS n w u b s = (u,b,dist n w u b) ∨ nearS n w u b s = s) := by
  unfold nearS
  split
  · exact ⟨by dsimp only;omega,Nat.le_refl _,.inl rfl⟩
  · exact ⟨Nat.le_refl _,by omega,.inr rfl⟩
theorem near_next {n w m : Nat} (hm : m < 2 ^ n) {s : Nat × Nat × Nat} (h : NearAt n w m s) : NearAt n w (m + 1) (nearU n w m s) := by
  unfold nearU
  obtain ⟨a1,a2,a3⟩ := nearS_le (n := n) (w := w) (u := m) (b := 0) s
  obtain ⟨b1,b2,b3⟩ := nearS_le (n := n) (w := w) (u := m) (b := 1) (nearS n w m 0 s)
  refine ⟨?_,fun u b hu hb => ?_⟩
  · rcases b3 with e | e
    · rw [e];exact .inl ⟨hm,Nat.le_refl _,rfl⟩
    · rw [e]
      rcases a3 with e | e
      · rw [e];exact .inl ⟨hm,(show 0 ≤ 1 from Nat.zero_le 1),rfl⟩
      · rw [e];exact h.1
  · by_cases e : u = m
    · subst e
      rcases (show b = 0 ∨ b = 1 by omega) with rfl | rfl
      · omega
      · exact b2
    · have := h.2 u b (by omega) hb
      omega
theorem near_all {n w : Nat} : ∀ (d m : Nat) (s : Nat × Nat × Nat),m + d = 2 ^ n → NearAt n w m s → NearAt n w (2 ^ n) (goN (nearU n w) d m s) := by
  intro d
  induction d with
  | zero =>
    intro m s hm h
    rw [goN]
    obtain rfl : m = 2 ^ n := by omega
    exact h
  | succ d ih => intro m s hm h;rw [goN];exact ih (m + 1) _ (by omega) (near_next (by omega) h)
theorem near_is {n w : Nat} (ht : Tab n w) : ∃ u b : Nat,u < 2 ^ n ∧ b ≤ 1 ∧ nearI n w = ((u : Int),(b : Int),((dist n w u b : Nat) : Int),true) ∧ ∀ u' b' : Nat,u' < 2 ^ n → b' ≤ 1 → dist n w u b ≤ dist n w u' b' := by
  have h := near_all (n := n) (w := w) (2 ^ n) 0 (0,0,100) (by omega) ⟨.inr rfl,fun u b hu => by omega⟩
  unfold nearI
  rw [if_pos (isTab_of ht),Int.toNat_natCast,Int.toNat_natCast]
  generalize goN (nearU n w) (2 ^ n) 0 (0,0,100) = s at h
  obtain ⟨h1,h2⟩ := h
  have hd := dist_le ht 0 0
  have hM := pow_le ht.1
  have h3 := h2 0 0 (pow_pos n) (by decide)
  rcases h1 with ⟨q1,q2,q3⟩ | q
  · exact ⟨s.1,s.2.1,q1,q2,by rw [q3],fun u' b' hu hb => by have := h2 u' b' hu hb;omega⟩
  · omega
theorem xor_zero_iff {a b : Nat} : a ^^^ b = 0 ↔ a = b := by
  constructor
  · intro h
    have : a ^^^ b ^^^ b = b := by rw [h,Nat.zero_xor]
    rwa [Nat.xor_assoc,Nat.xor_self,Nat.xor_zero] at this
  · rintro rfl;exact Nat.xor_self _
theorem pop_xor {u x y : Nat} (hu : u < 32) (hx : x < 32) (hy : y < 32) : pop (u &&& (x ^^^ y)) % 2 = (pop (u &&& x) + pop (u &&& y)) % 2 := by
  have hh : ∀ u x y : Fin 32,pop (u.val &&& (x.val ^^^ y.val)) % 2 = (pop (u.val &&& x.val) + pop (u.val &&& y.val)) % 2 := by decide +kernel
  exact hh ⟨u,hu⟩ ⟨x,hx⟩ ⟨y,hy⟩
def sumR (q : Nat → Nat) : Nat → Nat
  | 0 => 0
  | m + 1 => sumR q m + q m
theorem sumR_le {q : Nat → Nat} {c : Nat} (h : ∀ i,q i ≤ c) : ∀ m,sumR q m ≤ c * m := by
  intro m
  induction m with
  | zero => exact Nat.le_refl _
  | succ m ih => have := h m;rw [sumR,Nat.mul_succ];omega
def rejP (w x y : Nat) : Bool := (w.testBit x ^^ w.testBit y) ^^ w.testBit (x ^^^ y)
theorem bit_b (w x : Nat) : ((bitN w x : Nat) : Int) = (((w.testBit x).toNat : Nat) : Int) := rfl
theorem xor_b (a b : Bool) : Go.bits .xor .i64 ((a.toNat : Nat) : Int) ((b.toNat : Nat) : Int) = (((a ^^ b).toNat : Nat) : Int) := by
  rw [xor_cast (by cases a <;> decide) (by cases b <;> decide)]
  cases a <;> cases b <;> rfl
theorem xor_in {n x y : Nat} (hx : x < 2 ^ n) (hy : y < 2 ^ n) : x ^^^ y < 2 ^ n := Nat.xor_lt_two_pow hx hy
theorem impl_rej_in {n w x : Nat} (ht : Tab n w) (hx : x < 2 ^ n) (a : Nat) (ha : a ≤ 5000) : ∀ d k y : Nat,y + d = 2 ^ n →
    impl_TestRejects.l1 (k + d + 1) ((a + cntN (rejP w x) y : Nat) : Int) x ((2 ^ n : Nat) : Int) x ((2 ^ n : Nat) : Int) y n w = impl_TestRejects.l0 k ((a + cntN (rejP w x) (2 ^ n) : Nat) : Int) ((2 ^ n : Nat) : Int) ((x + 1 : Nat) : Int) n w := by
  have hM := pow_le ht.1
  intro d
  induction d with
  | zero =>
    intro k y hy
    obtain rfl : y = 2 ^ n := by omega
    rw [Nat.add_zero,impl_TestRejects.l1,if_neg (by omega),wrap64_succ (by omega)]
  | succ d ih =>
    intro k y hy
    have hc := cntN_le (rejP w x) y
    have hxy := xor_in hx (show y < 2 ^ n by omega)
    rw [show k + (d + 1) + 1 = (k + d + 1) + 1 by omega,impl_TestRejects.l1,if_pos (by omega),at_some' ht.lt63 (by omega),Option.bind_some,at_some' ht.lt63 (by omega),Option.bind_some,xor_cast (by omega) (by omega),at_some' ht.lt63 (by omega),Option.bind_some,bit_b,bit_b,bit_b,xor_b,xor_b,wrap64_succ (by omega)]
    have e : wrap64 (((a + cntN (rejP w x) y : Nat) : Int) + ((((w.testBit x ^^ w.testBit y) ^^ w.testBit (x ^^^ y)).toNat : Nat) : Int)) = ((a + cntN (rejP w x) (y + 1) : Nat) : Int) := by
      have hb : ((w.testBit x ^^ w.testBit y) ^^ w.testBit (x ^^^ y)).toNat ≤ 1 := by cases ((w.testBit x ^^ w.testBit y) ^^ w.testBit (x ^^^ y)) <;> decide
      rw [wrap64_of (by omega) (by omega),cntN]
      show _ = ((a + (cntN (rejP w x) y + ((w.testBit x ^^ w.testBit y) ^^ w.testBit (x ^^^ y)).toNat) : Nat) : Int)
      omega
    rw [e]
    exact ih k (y + 1) (by omega)
def rejN (n w : Nat) : Nat := sumR (fun x => cntN (rejP w x) (2 ^ n)) (2 ^ n)
theorem row_le {n w : Nat} (ht : Tab n w) (x : Nat) : sumR (fun x => cntN (rejP w x) (2 ^ n)) x ≤ 32 * x := sumR_le (fun i => Nat.le_trans (cntN_le _ _) (pow_le ht.1)) x
theorem impl_rej_out {n w : Nat} (ht : Tab n w) : ∀ d k x : Nat,x + d = 2 ^ n → d * 40 < k → impl_TestRejects.l0 k ((sumR (fun x => cntN (rejP w x) (2 ^ n)) x : Nat) : Int) ((2 ^ n : Nat) : Int) x n w = some ((rejN n w : Nat) : Int) := by
  have hM := pow_le ht.1
  intro d
  induction d with
  | zero =>
    intro k x hx hk
    obtain ⟨k,rfl⟩ : ∃ m,k = m + 1 := ⟨k - 1,by omega⟩
    obtain rfl : x = 2 ^ n := by omega
    rw [impl_TestRejects.l0,if_neg (by omega)]
    rfl
  | succ d ih =>
    intro k x hx hk
    obtain ⟨k,rfl⟩ : ∃ m,k = m + 2 ^ n + 1 + 1 := ⟨k - 2 ^ n - 2,by omega⟩
    have hr := row_le ht x
    rw [impl_TestRejects.l0,if_pos (by omega),size_some _ (by have := ht.1;omega),Option.bind_some]
    have h := impl_rej_in ht (show x < 2 ^ n by omega) (sumR (fun x => cntN (rejP w x) (2 ^ n)) x) (by omega) (2 ^ n) k 0 (by omega)
    exact h.trans (ih k (x + 1) (by omega) (by omega))
def rejI (a b : Int) : Int := if isTab a b = true then ((rejN a.toNat b.toNat : Nat) : Int) else -1
theorem impl_rejI {a b : Int} (h0 : -9223372036854775808 ≤ b) (h1 : b ≤ 9223372036854775807) {k : Nat} (hk : 1400 < k) : impl_TestRejects.f k a b = some (rejI a b) := by
  unfold impl_TestRejects.f rejI
  rw [impl_isTable h0 h1,Option.bind_some]
  by_cases h : isTab a b = true
  · obtain ⟨n,w,rfl,rfl,ht⟩ := tab_of h
    have hM := pow_le ht.1
    rw [if_pos h,if_pos h,size_some _ (by have := ht.1;omega),Option.bind_some,Int.toNat_natCast,Int.toNat_natCast]
    exact impl_rej_out ht (2 ^ n) k 0 (by omega) (by omega)
  · rw [if_neg h,if_neg h]
theorem aff_bit {n u b x : Nat} (hx : x < 2 ^ n) : (affW n u b).testBit x = affB u b x := by unfold affW;rw [testBit_tabN,decide_eq_true hx,Bool.true_and]
theorem par_add (a b : Nat) : ((a + b) % 2 == 1) = ((a % 2 == 1) ^^ (b % 2 == 1)) := by
  rcases Nat.mod_two_eq_zero_or_one a with h1 | h1 <;> rcases Nat.mod_two_eq_zero_or_one b with h2 | h2 <;> rw [Nat.add_mod,h1,h2] <;> rfl
def resW (m w i b : Nat) : Nat := tabN (fun x => w.testBit (ins x i b)) (2 ^ m)
end Go.Proofs.Ytflacbjpeecjcaa.U
namespace Go.Proofs.Ytflacbjpeecjcaa.U
open Go.RowKit Go.Proofs.YtflacbjpeecjcaaW.PrintWords Go.Proofs.YtflacbjpeecjcaaW.PrintLast Go.Proofs.YtflacbjpeecjcaaW.PrintMore Go.Proofs.Ytflacbjpeecjcaa.F Go.Proofs.Ytflacbjpeecjcaa.B
set_option linter.unusedVariables false
set_option linter.unusedSimpArgs false
end Go.Proofs.Ytflacbjpeecjcaa.U
namespace Go.Proofs.Ytflacbjpeecjcaa.U
open Go.RowKit Go.Proofs.YtflacbjpeecjcaaW.PrintWords Go.Proofs.YtflacbjpeecjcaaW.PrintLast Go.Proofs.YtflacbjpeecjcaaW.PrintMore Go.Proofs.Ytflacbjpeecjcaa.F Go.Proofs.Ytflacbjpeecjcaa.B
set_option linter.unusedVariables false
set_option linter.unusedSimpArgs false
end Go.Proofs.Ytflacbjpeecjcaa.U
namespace Go.Proofs.Ytflacbjpeecjcaa.U
open Go.RowKit Go.Proofs.YtflacbjpeecjcaaW.PrintWords Go.Proofs.YtflacbjpeecjcaaW.PrintLast Go.Proofs.YtflacbjpeecjcaaW.PrintMore Go.Proofs.Ytflacbjpeecjcaa.F Go.Proofs.Ytflacbjpeecjcaa.B
set_option linter.unusedVariables false
set_option linter.unusedSimpArgs false
set_option maxRecDepth 100000
end Go.Proofs.Ytflacbjpeecjcaa.U
namespace Go.Proofs.Ytflacbjpeecjcaa.U
open Go.RowKit Go.Proofs.YtflacbjpeecjcaaW.PrintWords Go.Proofs.YtflacbjpeecjcaaW.PrintLast Go.Proofs.YtflacbjpeecjcaaW.PrintMore Go.Proofs.Ytflacbjpeecjcaa.F Go.Proofs.Ytflacbjpeecjcaa.B
set_option linter.unusedVariables false
set_option linter.unusedSimpArgs false
set_option maxRecDepth 100000
end Go.Proofs.Ytflacbjpeecjcaa.U
namespace Go.Proofs.Ytflacbjpeecjcaa.U
open Go.RowKit Go.Proofs.YtflacbjpeecjcaaW.PrintWords Go.Proofs.YtflacbjpeecjcaaW.PrintLast Go.Proofs.YtflacbjpeecjcaaW.PrintMore Go.Proofs.Ytflacbjpeecjcaa.F Go.Proofs.Ytflacbjpeecjcaa.B
set_option linter.unusedVariables false
set_option linter.unusedSimpArgs false
def monoAt (n w i : Nat) : Bool := ldiff (resW (n - 1) w i 0) (resW (n - 1) w i 1) == 0
def mono (n w : Nat) : Bool := allN (monoAt n w) n
end Go.Proofs.Ytflacbjpeecjcaa.U
namespace Go.Proofs.Ytflacbjpeecjcaa.U
open Go.RowKit Go.Proofs.YtflacbjpeecjcaaW.PrintWords Go.Proofs.YtflacbjpeecjcaaW.PrintLast Go.Proofs.YtflacbjpeecjcaaW.PrintMore Go.Proofs.Ytflacbjpeecjcaa.F Go.Proofs.Ytflacbjpeecjcaa.B
set_option linter.unusedVariables false
set_option linter.unusedSimpArgs false
theorem bit_eq_one {w x : Nat} : ((((bitN w x : Nat) : Int)) = 1) ↔ w.testBit x = true := by
  rw [← bitN_eq_one]
  exact ⟨fun h => by exact_mod_cast h,fun h => by exact_mod_cast h⟩
def difP (w s x : Nat) : Bool := w.testBit x ^^ w.testBit (x ^^^ s)
def autA (w s m : Nat) : Int := (m : Int) - 2 * ((cntN (difP w s) m : Nat) : Int)
theorem autA_succ (w s m : Nat) : autA w s (m + 1) = autA w s m + (if difP w s m = true then -1 else 1) := by
  unfold autA
  rw [cntN]
  cases difP w s m with
  | true => rw [if_pos rfl];show ((m + 1 : Nat) : Int) - 2 * ((cntN (difP w s) m + 1 : Nat) : Int) = _;omega
  | false => rw [if_neg (by decide)];show ((m + 1 : Nat) : Int) - 2 * ((cntN (difP w s) m + 0 : Nat) : Int) = _;omega
theorem autA_le (w s m : Nat) : -(m : Int) ≤ autA w s m ∧ autA w s m ≤ m := by
  have := cntN_le (difP w s) m
  unfold autA
  omega
theorem sign_two (a b : Bool) : impl_sign.f (wrap64 (((a.toNat : Nat) : Int) + ((b.toNat : Nat) : Int))) = some (if (a ^^ b) = true then -1 else 1) := by
  cases a <;> cases b <;> decide +kernel
def autL (n w : Nat) (m : Nat) : List Int := (List.range m).map fun s => autA w s (2 ^ n)
theorem autL_succ (n w m : Nat) : autL n w (m + 1) = autL n w m ++ [autA w m (2 ^ n)] := by simp [autL,List.range_succ]
theorem autL_length (n w m : Nat) : (autL n w m).length = m := by simp [autL]
theorem aut_set (n w s d : Nat) (a b : Int) : (autL n w s ++ a :: List.replicate d 0).set s b = autL n w s ++ b :: List.replicate d 0 := by
  rw [List.set_append,if_neg (by rw [autL_length];omega),autL_length,Nat.sub_self,List.set_cons_zero]
theorem aut_get (n w s d : Nat) (a : Int) : rd (autL n w s ++ a :: List.replicate d 0) (s : Int) = a := by
  unfold rd
  rw [Int.toNat_natCast,List.getD_eq_getElem?_getD,List.getElem?_append_right (by rw [autL_length];omega),autL_length,Nat.sub_self]
  rfl
theorem bit_b2 (w x : Nat) : ((bitN w x : Nat) : Int) = (((w.testBit x).toNat : Nat) : Int) := rfl
theorem impl_aut_in {n w s e : Nat} (ht : Tab n w) (hs : s + e + 1 = 2 ^ n) : ∀ d k x : Nat,x + d = 2 ^ n →
    impl_Table_autocorrelation.l1 (k + d + 1) (autL n w s ++ autA w s x :: List.replicate e 0) s ((2 ^ n : Nat) : Int) s ((2 ^ n : Nat) : Int) x n w = impl_Table_autocorrelation.l0 k (autL n w (s + 1) ++ List.replicate e 0) ((2 ^ n : Nat) : Int) ((s + 1 : Nat) : Int) n w := by
  have hM := pow_le ht.1
  intro d
  induction d with
  | zero =>
    intro k x hx
    obtain rfl : x = 2 ^ n := by omega
    rw [Nat.add_zero,impl_Table_autocorrelation.l1,if_neg (by omega),wrap64_succ (by omega),autL_succ,List.append_assoc]
    rfl
  | succ d ih =>
    intro k x hx
    have hxs : x ^^^ s < 2 ^ n := Nat.xor_lt_two_pow (by omega) (by omega)
    have ha := autA_le w s x
    have e1 := autA_succ w s x
    rw [show k + (d + 1) + 1 = (k + d + 1) + 1 by omega,impl_Table_autocorrelation.l1,if_pos (by omega),if_pos (Int.natCast_nonneg _),if_pos (by rw [List.length_append,autL_length,List.length_cons,List.length_replicate];omega),at_some' ht.lt63 (by omega),Option.bind_some,xor_cast (by omega) (by omega),at_some' ht.lt63 (by omega),Option.bind_some,bit_b2,bit_b2,sign_two,Option.bind_some,aut_get,Int.toNat_natCast,aut_set,wrap64_succ (by omega)]
    have e2 : wrap64 (autA w s x + (if (w.testBit x ^^ w.testBit (x ^^^ s)) = true then -1 else 1)) = autA w s (x + 1) := by
      rw [e1]
      unfold difP
      rw [wrap64_of (by split <;> omega) (by split <;> omega)]
    rw [e2]
    exact ih k (x + 1) (by omega)
theorem impl_aut_out {n w : Nat} (ht : Tab n w) : ∀ d k s : Nat,s + d = 2 ^ n → d * 40 < k → impl_Table_autocorrelation.l0 k (autL n w s ++ List.replicate d 0) ((2 ^ n : Nat) : Int) s n w = some (autL n w (2 ^ n)) := by
  have hM := pow_le ht.1
  intro d
  induction d with
  | zero =>
    intro k s hs hk
    obtain ⟨k,rfl⟩ : ∃ m,k = m + 1 := ⟨k - 1,by omega⟩
    obtain rfl : s = 2 ^ n := by omega
    rw [impl_Table_autocorrelation.l0,if_neg (by omega),List.replicate_zero,List.append_nil]
  | succ d ih =>
    intro k s hs hk
    obtain ⟨k,rfl⟩ : ∃ m,k = m + 2 ^ n + 1 + 1 := ⟨k - 2 ^ n - 2,by omega⟩
    rw [impl_Table_autocorrelation.l0,if_pos (by omega),size_some _ (by have := ht.1;omega),Option.bind_some]
    have h := impl_aut_in ht (show s + d + 1 = 2 ^ n by omega) (2 ^ n) k 0 (by omega)
    have e : autA w s 0 = 0 := rfl
    rw [e] at h
    exact h.trans (ih k (s + 1) (by omega) (by omega))
theorem impl_aut {n w k : Nat} (ht : Tab n w) (hk : 1400 < k) : impl_Table_autocorrelation.f k n w = some (autL n w (2 ^ n)) := by
  have hM := pow_le ht.1
  unfold impl_Table_autocorrelation.f
  rw [size_some _ (by have := ht.1;omega),Option.bind_some,if_pos (Int.natCast_nonneg _),if_pos (by omega),Option.bind_some,Int.toNat_natCast,List.length_replicate]
  exact impl_aut_out ht (2 ^ n) k 0 (by omega) (by omega)
theorem sign12 {k : Nat} (b : Bool) (hk : 40 ≤ k) : spec_l12Sign.f k ((b.toNat : Nat) : Int) = some (if b = true then -1 else 1) := by
  unfold spec_l12Sign.f
  have hc : ∀ b : Bool,cnt b.toNat = b.toNat := by decide +kernel
  rw [cnt_ref (by cases b <;> decide) (by omega),Option.bind_some,hc]
  cases b <;> rfl
theorem spec_aut_in {n w s : Nat} (ht : Tab n w) (hs : s < 2 ^ n) (L : List Int) (hL : L.length ≤ 1000) : ∀ d k x : Nat,60 ≤ k → x + d = 2 ^ n →
    spec_AutocorrelationOf.l1 (k + d + 1) L s (autA w s x) x n w = spec_AutocorrelationOf.l0 k (L ++ [autA w s (2 ^ n)]) ((s + 1 : Nat) : Int) n w := by
  have hM := pow_le ht.1
  have hn := ht.1
  intro d
  induction d with
  | zero =>
    intro k x hk hx
    obtain rfl : x = 2 ^ n := by omega
    rw [Nat.add_zero,spec_AutocorrelationOf.l1,if_pos (Int.natCast_nonneg _),shl1_of (by omega),if_neg (by omega),if_pos (by omega),wrap64_succ (by omega)]
  | succ d ih =>
    intro k x hk hx
    have hxs : x ^^^ s < 2 ^ n := Nat.xor_lt_two_pow (by omega) hs
    have ha := autA_le w s x
    have e1 := autA_succ w s x
    rw [show k + (d + 1) + 1 = (k + d + 1) + 1 by omega,spec_AutocorrelationOf.l1,if_pos (Int.natCast_nonneg _),shl1_of (by omega),if_pos (by omega),if_pos (Int.natCast_nonneg _),bit_cast ht.lt63 (by omega),bit_b2,sign12 _ (by omega),Option.bind_some,xor_cast (by omega) (by omega),if_pos (Int.natCast_nonneg _),bit_cast ht.lt63 (by omega),bit_b2,sign12 _ (by omega),Option.bind_some,wrap64_succ (by omega)]
    have e2 : wrap64 (autA w s x + wrap64 ((if w.testBit x = true then (-1 : Int) else 1) * (if w.testBit (x ^^^ s) = true then (-1 : Int) else 1))) = autA w s (x + 1) := by
      rw [e1]
      unfold difP
      cases w.testBit x <;> cases w.testBit (x ^^^ s)
      · show wrap64 (autA w s x + wrap64 (1 * 1)) = autA w s x + 1
        rw [wrap64_of (n := 1 * 1) (by decide) (by decide),wrap64_of (by omega) (by omega)];rfl
      · show wrap64 (autA w s x + wrap64 (1 * -1)) = autA w s x + -1
        rw [wrap64_of (n := 1 * -1) (by decide) (by decide),wrap64_of (by omega) (by omega)];rfl
      · show wrap64 (autA w s x + wrap64 (-1 * 1)) = autA w s x + -1
        rw [wrap64_of (n := -1 * 1) (by decide) (by decide),wrap64_of (by omega) (by omega)];rfl
      · show wrap64 (autA w s x + wrap64 (-1 * -1)) = autA w s x + 1
        rw [wrap64_of (n := -1 * -1) (by decide) (by decide),wrap64_of (by omega) (by omega)];rfl
    rw [e2]
    exact ih k (x + 1) hk (by omega)
theorem spec_aut_out {n w : Nat} (ht : Tab n w) : ∀ d k s : Nat,s + d = 2 ^ n → d * 40 + 70 < k → spec_AutocorrelationOf.l0 k (autL n w s) s n w = some (autL n w (2 ^ n)) := by
  have hM := pow_le ht.1
  have hn := ht.1
  have hi : spec_IsTable.f n w = some true := by rw [spec_isTable,isTab_of ht]
  intro d
  induction d with
  | zero =>
    intro k s hs hk
    obtain ⟨k,rfl⟩ : ∃ m,k = m + 2 := ⟨k - 2,by omega⟩
    obtain rfl : s = 2 ^ n := by omega
    rw [spec_AutocorrelationOf.l0,hi,Option.bind_some,if_pos rfl,if_pos (Int.natCast_nonneg _),shl1_of (by omega),decide_eq_false (by omega),spec_AutocorrelationOf.j1,if_neg (by decide)]
  | succ d ih =>
    intro k s hs hk
    obtain ⟨k,rfl⟩ : ∃ m,k = m + 2 ^ n + 1 + 1 + 1 := ⟨k - 2 ^ n - 3,by omega⟩
    rw [spec_AutocorrelationOf.l0,hi,Option.bind_some,if_pos rfl,if_pos (Int.natCast_nonneg _),shl1_of (by omega),decide_eq_true (by omega),spec_AutocorrelationOf.j1,if_pos rfl]
    have h := spec_aut_in ht (show s < 2 ^ n by omega) (autL n w s) (by rw [autL_length];omega) (2 ^ n) k 0 (by omega) (by omega)
    rw [← autL_succ] at h
    exact h.trans (ih k (s + 1) (by omega) (by omega))
theorem spec_aut_I (a b : Int) {k : Nat} (hk : 1500 < k) : spec_AutocorrelationOf.f k a b = some (if isTab a b = true then autL a.toNat b.toNat (2 ^ a.toNat) else []) := by
  unfold spec_AutocorrelationOf.f
  by_cases h : isTab a b = true
  · obtain ⟨n,w,rfl,rfl,ht⟩ := tab_of h
    have hM := pow_le ht.1
    rw [if_pos h,Int.toNat_natCast,Int.toNat_natCast]
    exact spec_aut_out ht (2 ^ n) k 0 (by omega) (by omega)
  · obtain ⟨k,rfl⟩ : ∃ m,k = m + 2 := ⟨k - 2,by omega⟩
    rw [if_neg h,spec_AutocorrelationOf.l0,spec_isTable,Option.bind_some,if_neg h,spec_AutocorrelationOf.j1,if_neg (by decide)]
theorem autL_get {n w m s : Nat} (h : s < m) : rd (autL n w m) (s : Int) = autA w s (2 ^ n) := by
  unfold rd autL
  rw [Int.toNat_natCast,List.getD_eq_getElem?_getD,List.getElem?_map,List.getElem?_range h]
  rfl
theorem size1_some {x : Int} (h0 : -100 ≤ x) (h1 : x ≤ 100) : impl_size1.f x = some (if x < 0 then -x else x) := by
  unfold impl_size1.f
  rw [wrap64_of (by omega) (by omega)]
  congr 1
  unfold mx
  split <;> split <;> omega
def sg (b : Bool) : Int := if b = true then -1 else 1
theorem sg_mul (a b : Bool) : sg a * sg b = sg (a ^^ b) := by cases a <;> cases b <;> rfl
def sumI (q : Nat → Int) : Nat → Int
  | 0 => 0
  | m + 1 => sumI q m + q m
theorem sumI_congr {p q : Nat → Int} : ∀ {m : Nat},(∀ i,i < m → p i = q i) → sumI p m = sumI q m := by
  intro m
  induction m with
  | zero => intro _;rfl
  | succ m ih => intro h;rw [sumI,sumI,ih fun i hi => h i (by omega),h m (by omega)]
theorem sumI_add (p q : Nat → Int) : ∀ m,sumI (fun i => p i + q i) m = sumI p m + sumI q m := by
  intro m
  induction m with
  | zero => rfl
  | succ m ih => rw [sumI,sumI,sumI,ih];omega
theorem sumI_mul (c : Int) (q : Nat → Int) : ∀ m,sumI (fun i => c * q i) m = c * sumI q m := by
  intro m
  induction m with
  | zero => show (0 : Int) = c * 0;rw [Int.mul_zero]
  | succ m ih => rw [sumI,sumI,ih,Int.mul_add]
theorem sumI_mul' (c : Int) (q : Nat → Int) (m : Nat) : sumI (fun i => q i * c) m = sumI q m * c := by
  rw [Int.mul_comm (sumI q m) c,← sumI_mul]
  exact sumI_congr fun i _ => Int.mul_comm _ _
theorem sumI_zero : ∀ m,sumI (fun _ => 0) m = 0 := by
  intro m
  induction m with
  | zero => rfl
  | succ m ih => rw [sumI,ih];rfl
theorem sumI_const (c : Int) : ∀ m : Nat,sumI (fun _ => c) m = (m : Int) * c := by
  intro m
  induction m with
  | zero => show (0 : Int) = 0 * c;rw [Int.zero_mul]
  | succ m ih => rw [sumI,ih,Int.natCast_succ,Int.add_mul,Int.one_mul]
theorem sumI_swap (f : Nat → Nat → Int) (k : Nat) : ∀ m,sumI (fun i => sumI (fun j => f i j) k) m = sumI (fun j => sumI (fun i => f i j) m) k := by
  intro m
  induction m with
  | zero => exact (sumI_zero k).symm
  | succ m ih => rw [sumI,ih,← sumI_add];rfl
theorem sumI_delta {q : Nat → Int} {a : Nat} : ∀ {m : Nat},a < m → (∀ i,i < m → i ≠ a → q i = 0) → sumI q m = q a := by
  intro m
  induction m with
  | zero => intro h;omega
  | succ m ih =>
    intro h hz
    rw [sumI]
    by_cases e : a = m
    · subst e
      have : sumI q a = 0 := (sumI_congr fun i hi => hz i (by omega) (by omega)).trans (sumI_zero a)
      rw [this,Int.zero_add]
    · rw [ih (by omega) fun i hi hne => hz i (by omega) hne,hz m (by omega) (fun z => e z.symm),Int.add_zero]
def chi (u x : Nat) : Int := sg (pop (u &&& x) % 2 == 1)
theorem chi_comm (u x : Nat) : chi u x = chi x u := by unfold chi;rw [Nat.and_comm]
theorem chi_xor {u x y : Nat} (hu : u < 32) (hx : x < 32) (hy : y < 32) : chi u x * chi u y = chi u (x ^^^ y) := by
  unfold chi
  rw [sg_mul,pop_xor hu hx hy,par_add]
theorem chi_zero (u : Nat) : chi u 0 = 1 := by unfold chi;rw [Nat.and_zero];rfl
theorem chi_orth {n y : Nat} (hn : n ≤ 5) (hy : y < 2 ^ n) : sumI (fun u => chi u y) (2 ^ n) = if y = 0 then ((2 ^ n : Nat) : Int) else 0 := by
  have hh : ∀ n : Fin 6,∀ y : Fin 32,y.val < 2 ^ n.val → sumI (fun u => chi u y.val) (2 ^ n.val) = if y.val = 0 then ((2 ^ n.val : Nat) : Int) else 0 := by decide +kernel
  have := pow_le hn
  exact hh ⟨n,by omega⟩ ⟨y,by omega⟩ hy
def spc (n w u : Nat) : Int := sumI (fun x => sg (w.testBit x) * chi u x) (2 ^ n)
theorem spc_back {n w x : Nat} (hn : n ≤ 5) (hx : x < 2 ^ n) : sumI (fun u => spc n w u * chi u x) (2 ^ n) = ((2 ^ n : Nat) : Int) * sg (w.testBit x) := by
  have hM := pow_le hn
  have e1 : sumI (fun u => spc n w u * chi u x) (2 ^ n) = sumI (fun u => sumI (fun y => sg (w.testBit y) * chi u (y ^^^ x)) (2 ^ n)) (2 ^ n) := by
    refine sumI_congr fun u hu => ?_
    unfold spc
    rw [← sumI_mul']
    refine sumI_congr fun y hy => ?_
    rw [Int.mul_assoc,chi_xor (by omega) (by omega) (by omega)]
  rw [e1,sumI_swap]
  have e2 : sumI (fun y => sumI (fun u => sg (w.testBit y) * chi u (y ^^^ x)) (2 ^ n)) (2 ^ n) = sumI (fun y => sg (w.testBit y) * (if y ^^^ x = 0 then ((2 ^ n : Nat) : Int) else 0)) (2 ^ n) := by
    refine sumI_congr fun y hy => ?_
    rw [sumI_mul,chi_orth hn (Nat.xor_lt_two_pow hy hx)]
  rw [e2,sumI_delta hx fun i hi hne => by rw [if_neg (fun z => hne (xor_zero_iff.mp z)),Int.mul_zero],if_pos (Nat.xor_self x),Int.mul_comm]
theorem spc_shift {n w s : Nat} (hn : n ≤ 5) (hs : s < 2 ^ n) : sumI (fun u => chi u s * (spc n w u * spc n w u)) (2 ^ n) = ((2 ^ n : Nat) : Int) * sumI (fun x => sg (w.testBit x) * sg (w.testBit (x ^^^ s))) (2 ^ n) := by
  have hM := pow_le hn
  have e1 : sumI (fun u => chi u s * (spc n w u * spc n w u)) (2 ^ n) = sumI (fun u => sumI (fun x => sg (w.testBit x) * (spc n w u * chi u (x ^^^ s))) (2 ^ n)) (2 ^ n) := by
    refine sumI_congr fun u hu => ?_
    have e : chi u s * (spc n w u * spc n w u) = (spc n w u * chi u s) * sumI (fun x => sg (w.testBit x) * chi u x) (2 ^ n) := by
      show chi u s * (spc n w u * spc n w u) = (spc n w u * chi u s) * spc n w u
      rw [← Int.mul_assoc,Int.mul_comm (chi u s) (spc n w u)]
    rw [e,← sumI_mul]
    refine sumI_congr fun x hx => ?_
    rw [← chi_xor (by omega) (by omega) (by omega)]
    generalize chi u s = a
    generalize chi u x = b
    generalize spc n w u = c
    generalize sg (w.testBit x) = d
    rw [Int.mul_left_comm,Int.mul_comm b a,Int.mul_assoc c a b]
  rw [e1,sumI_swap,← sumI_mul]
  refine sumI_congr fun x hx => ?_
  rw [sumI_mul,spc_back hn (Nat.xor_lt_two_pow hx hs),Int.mul_left_comm]
theorem spc_squares {n w : Nat} (hn : n ≤ 5) : sumI (fun u => spc n w u * spc n w u) (2 ^ n) = ((2 ^ n : Nat) : Int) * ((2 ^ n : Nat) : Int) := by
  have h := spc_shift (w := w) hn (pow_pos n)
  have e1 : sumI (fun u => chi u 0 * (spc n w u * spc n w u)) (2 ^ n) = sumI (fun u => spc n w u * spc n w u) (2 ^ n) := sumI_congr fun u _ => by rw [chi_zero,Int.one_mul]
  have e2 : sumI (fun x => sg (w.testBit x) * sg (w.testBit (x ^^^ 0))) (2 ^ n) = ((2 ^ n : Nat) : Int) := by
    refine Eq.trans (sumI_congr fun x _ => ?_) ((sumI_const 1 (2 ^ n)).trans (Int.mul_one _))
    rw [Nat.xor_zero,sg_mul,Bool.xor_self]
    rfl
  rw [e1,e2] at h
  exact h
theorem aut_sum (w s : Nat) : ∀ m,sumI (fun x => sg (w.testBit x) * sg (w.testBit (x ^^^ s))) m = autA w s m := by
  intro m
  induction m with
  | zero => rfl
  | succ m ih =>
    rw [sumI,ih,autA_succ,sg_mul]
    rfl
theorem rej_row (w x : Nat) : ∀ m : Nat,sumI (fun y => sg (w.testBit x) * (sg (w.testBit y) * sg (w.testBit (y ^^^ x)))) m = (m : Int) - 2 * ((cntN (rejP w x) m : Nat) : Int) := by
  intro m
  induction m with
  | zero => rfl
  | succ m ih =>
    rw [sumI,ih,sg_mul,sg_mul,cntN]
    have e : (w.testBit x ^^ (w.testBit m ^^ w.testBit (m ^^^ x))) = rejP w x m := by unfold rejP;rw [Nat.xor_comm m x,Bool.xor_assoc]
    rw [e]
    cases rejP w x m with
    | true => show (m : Int) - 2 * ((cntN (rejP w x) m : Nat) : Int) + -1 = ((m + 1 : Nat) : Int) - 2 * ((cntN (rejP w x) m + 1 : Nat) : Int);omega
    | false => show (m : Int) - 2 * ((cntN (rejP w x) m : Nat) : Int) + 1 = ((m + 1 : Nat) : Int) - 2 * ((cntN (rejP w x) m + 0 : Nat) : Int);omega
theorem rej_rows (w k : Nat) : ∀ m : Nat,sumI (fun x => (k : Int) - 2 * ((cntN (rejP w x) k : Nat) : Int)) m = (m : Int) * (k : Int) - 2 * ((sumR (fun x => cntN (rejP w x) k) m : Nat) : Int) := by
  intro m
  induction m with
  | zero => simp [sumI,sumR]
  | succ m ih => rw [sumI,ih,sumR,Int.natCast_succ,Int.add_mul,Int.one_mul];omega
theorem spc_cubes {n w : Nat} (hn : n ≤ 5) : sumI (fun u => spc n w u * spc n w u * spc n w u) (2 ^ n) = ((2 ^ n : Nat) : Int) * (((2 ^ n : Nat) : Int) * ((2 ^ n : Nat) : Int) - 2 * ((rejN n w : Nat) : Int)) := by
  have e1 : sumI (fun u => spc n w u * spc n w u * spc n w u) (2 ^ n) = sumI (fun u => sumI (fun x => sg (w.testBit x) * (chi u x * (spc n w u * spc n w u))) (2 ^ n)) (2 ^ n) := by
    refine sumI_congr fun u hu => ?_
    have e : spc n w u * spc n w u * spc n w u = (spc n w u * spc n w u) * sumI (fun x => sg (w.testBit x) * chi u x) (2 ^ n) := rfl
    rw [e,← sumI_mul]
    refine sumI_congr fun x hx => ?_
    rw [Int.mul_left_comm,Int.mul_comm (spc n w u * spc n w u) (chi u x)]
  rw [e1,sumI_swap]
  have e2 : sumI (fun x => sumI (fun u => sg (w.testBit x) * (chi u x * (spc n w u * spc n w u))) (2 ^ n)) (2 ^ n) = sumI (fun x => ((2 ^ n : Nat) : Int) * (((2 ^ n : Nat) : Int) - 2 * ((cntN (rejP w x) (2 ^ n) : Nat) : Int))) (2 ^ n) := by
    refine sumI_congr fun x hx => ?_
    rw [sumI_mul,spc_shift hn hx,Int.mul_left_comm,← sumI_mul,rej_row]
  rw [e2,sumI_mul,rej_rows]
  rfl
def BentR (n w : Nat) (r : Int) : Prop := 0 < r ∧ r * r = ((2 ^ n : Nat) : Int) ∧ ∀ u,u < 2 ^ n → spc n w u = r ∨ spc n w u = -r
theorem bent_of {n w : Nat} (hn : n ≤ 5) (h : ∀ u,u < 2 ^ n → spc n w u * spc n w u = spc n w 0 * spc n w 0) : spc n w 0 * spc n w 0 = ((2 ^ n : Nat) : Int) := by
  have hs := spc_squares (w := w) hn
  have hp := pow_pos n
  rw [sumI_congr (q := fun _ => spc n w 0 * spc n w 0) h,sumI_const] at hs
  exact Int.eq_of_mul_eq_mul_left (by omega) hs
def bentD (n w : Nat) : Nat := tabN (fun u => decide (spc n w u < 0)) (2 ^ n)
theorem bentD_lt (n w : Nat) : bentD n w < 2 ^ 2 ^ n := tabN_lt _ _
theorem bent_sign {n w u : Nat} {r : Int} (h : BentR n w r) (hu : u < 2 ^ n) : spc n w u = r * sg ((bentD n w).testBit u) := by
  obtain ⟨h0,_,h2⟩ := h
  unfold bentD
  rw [testBit_tabN,decide_eq_true hu,Bool.true_and]
  rcases h2 u hu with e | e
  · rw [e,decide_eq_false (by omega)];exact (Int.mul_one r).symm
  · rw [e,decide_eq_true (by omega)];show -r = r * -1;rw [Int.mul_neg_one]
theorem bent_dual {n w x : Nat} {r : Int} (hn : n ≤ 5) (h : BentR n w r) (hx : x < 2 ^ n) : spc n (bentD n w) x = r * sg (w.testBit x) := by
  have hM := pow_le hn
  have hb := spc_back (w := w) hn hx
  have e1 : sumI (fun u => spc n w u * chi u x) (2 ^ n) = r * spc n (bentD n w) x := by
    have : spc n (bentD n w) x = sumI (fun u => sg ((bentD n w).testBit u) * chi x u) (2 ^ n) := rfl
    rw [this,← sumI_mul]
    refine sumI_congr fun u hu => ?_
    rw [bent_sign h hu,Int.mul_assoc,chi_comm u x]
  rw [e1,← h.2.1,Int.mul_assoc] at hb
  exact Int.eq_of_mul_eq_mul_left (by have := h.1;omega) hb
theorem bent_dual_is {n w : Nat} {r : Int} (hn : n ≤ 5) (h : BentR n w r) : BentR n (bentD n w) r := by
  refine ⟨h.1,h.2.1,fun u hu => ?_⟩
  rw [bent_dual hn h hu]
  cases w.testBit u with
  | true => right;show r * -1 = -r;rw [Int.mul_neg_one]
  | false => left;exact Int.mul_one r
theorem bent_back {n w : Nat} {r : Int} (ht : Tab n w) (h : BentR n w r) : bentD n (bentD n w) = w := by
  refine word_ext (m := 2 ^ n) (bentD_lt _ _) ht.2 fun x hx => ?_
  have e := bent_dual ht.1 h hx
  have h0 := h.1
  unfold bentD at e ⊢
  rw [testBit_tabN,decide_eq_true hx,Bool.true_and,e]
  cases w.testBit x with
  | true => exact decide_eq_true (by show r * -1 < 0;rw [Int.mul_neg_one];omega)
  | false => exact decide_eq_false (by show ¬ r * 1 < 0;rw [Int.mul_one];omega)
theorem dif_sum (p q : Nat → Bool) : ∀ m : Nat,sumI (fun x => sg (p x) * sg (q x)) m = (m : Int) - 2 * ((cntN (fun x => p x ^^ q x) m : Nat) : Int) := by
  intro m
  induction m with
  | zero => rfl
  | succ m ih =>
    rw [sumI,ih,sg_mul,cntN]
    cases (p m ^^ q m) with
    | true => show (m : Int) - 2 * ((cntN (fun x => p x ^^ q x) m : Nat) : Int) + -1 = ((m + 1 : Nat) : Int) - 2 * ((cntN (fun x => p x ^^ q x) m + 1 : Nat) : Int);omega
    | false => show (m : Int) - 2 * ((cntN (fun x => p x ^^ q x) m : Nat) : Int) + 1 = ((m + 1 : Nat) : Int) - 2 * ((cntN (fun x => p x ^^ q x) m + 0 : Nat) : Int);omega
theorem cnt_word {n v : Nat} (hn : n ≤ 5) (hv : v < 2 ^ 2 ^ n) : cnt v = cntN (fun i => v.testBit i) (2 ^ n) := by
  have hM := pow_le hn
  unfold cnt
  rw [show 32 = 2 ^ n + (32 - 2 ^ n) by omega,cntN_cut (fun i hi => testBit_ge hv hi)]
theorem spc_dist {n w u : Nat} (ht : Tab n w) (hu : u < 2 ^ n) : spc n w u = ((2 ^ n : Nat) : Int) - 2 * ((dist n w u 0 : Nat) : Int) ∧ spc n w u = 2 * ((dist n w u 1 : Nat) : Int) - ((2 ^ n : Nat) : Int) := by
  have hx : ∀ b,w ^^^ affW n u b < 2 ^ 2 ^ n := fun b => Nat.xor_lt_two_pow ht.2 (tabN_lt _ _)
  have h0 : spc n w u = ((2 ^ n : Nat) : Int) - 2 * ((dist n w u 0 : Nat) : Int) := by
    unfold spc dist
    rw [cnt_word ht.1 (hx 0)]
    have := dif_sum (fun x => w.testBit x) (fun x => pop (u &&& x) % 2 == 1) (2 ^ n)
    refine this.trans ?_
    congr 3
    refine cntN_congr fun x hx => ?_
    rw [Nat.testBit_xor,aff_bit hx]
    rfl
  refine ⟨h0,?_⟩
  have h1 : dist n w u 0 + dist n w u 1 = 2 ^ n := by
    unfold dist
    rw [cnt_word ht.1 (hx 0),cnt_word ht.1 (hx 1)]
    have : ∀ m,m ≤ 2 ^ n → cntN (fun i => (w ^^^ affW n u 0).testBit i) m + cntN (fun i => (w ^^^ affW n u 1).testBit i) m = m := by
      intro m
      induction m with
      | zero => intro _;rfl
      | succ m ih =>
        intro hm
        have := ih (by omega)
        have e : (affB u 1 m) = !(affB u 0 m) := by
          unfold affB
          rcases Nat.mod_two_eq_zero_or_one (pop (u &&& m)) with h | h <;> rw [Nat.add_mod,Nat.add_mod (pop (u &&& m)) 0,h] <;> rfl
        rw [cntN,cntN,Nat.testBit_xor,Nat.testBit_xor,aff_bit (show m < 2 ^ n by omega),aff_bit (show m < 2 ^ n by omega),e]
        generalize cntN (fun i => (w ^^^ affW n u 0).testBit i) m = A at this ⊢
        generalize cntN (fun i => (w ^^^ affW n u 1).testBit i) m = B at this ⊢
        cases w.testBit m <;> cases affB u 0 m <;> simp <;> omega
    exact this _ (Nat.le_refl _)
  omega
def spA (w u m : Nat) : Int := sumI (fun x => sg (w.testBit x) * chi u x) m
theorem sg_or (b : Bool) : sg b = 1 ∨ sg b = -1 := by cases b;exact .inl rfl;exact .inr rfl
theorem spA_succ (w u m : Nat) : spA w u (m + 1) = spA w u m + sg (w.testBit m) * chi u m := rfl
theorem sgchi (w u x : Nat) : sg (w.testBit x) * chi u x = 1 ∨ sg (w.testBit x) * chi u x = -1 := by unfold chi;rw [sg_mul];exact sg_or _
theorem spA_le (w u : Nat) : ∀ m : Nat,-(m : Int) ≤ spA w u m ∧ spA w u m ≤ m := by
  intro m
  induction m with
  | zero => exact ⟨Int.le_refl _,Int.le_refl _⟩
  | succ m ih =>
    rw [spA_succ]
    rcases sgchi w u m with e | e <;> rw [e] <;> omega
theorem sign_pop (b : Bool) {v : Nat} (hv : v ≤ 5) : impl_sign.f (wrap64 (((b.toNat : Nat) : Int) + ((v : Nat) : Int))) = some (sg b * sg (v % 2 == 1)) := by
  have hh : ∀ b : Bool,∀ v : Fin 6,impl_sign.f (wrap64 (((b.toNat : Nat) : Int) + ((v.val : Nat) : Int))) = some (sg b * sg (v.val % 2 == 1)) := by decide +kernel
  exact hh b ⟨v,by omega⟩
def spL (n w m : Nat) : List Int := (List.range m).map fun u => spc n w u
theorem spL_succ (n w m : Nat) : spL n w (m + 1) = spL n w m ++ [spc n w m] := by simp [spL,List.range_succ]
theorem spL_length (n w m : Nat) : (spL n w m).length = m := by simp [spL]
theorem spL_get {n w m u : Nat} (h : u < m) : rd (spL n w m) (u : Int) = spc n w u := by
  unfold rd spL
  rw [Int.toNat_natCast,List.getD_eq_getElem?_getD,List.getElem?_map,List.getElem?_range h]
  rfl
theorem sp_set (n w s d : Nat) (a b : Int) : (spL n w s ++ a :: List.replicate d 0).set s b = spL n w s ++ b :: List.replicate d 0 := by
  rw [List.set_append,if_neg (by rw [spL_length];omega),spL_length,Nat.sub_self,List.set_cons_zero]
theorem sp_get (n w s d : Nat) (a : Int) : rd (spL n w s ++ a :: List.replicate d 0) (s : Int) = a := by
  unfold rd
  rw [Int.toNat_natCast,List.getD_eq_getElem?_getD,List.getElem?_append_right (by rw [spL_length];omega),spL_length,Nat.sub_self]
  rfl
theorem impl_sp_in {n w s e : Nat} (ht : Tab n w) (hs : s + e + 1 = 2 ^ n) : ∀ d k x : Nat,x + d = 2 ^ n →
    impl_Table_spectrum.l1 (k + d + 1) (spL n w s ++ spA w s x :: List.replicate e 0) s ((2 ^ n : Nat) : Int) s ((2 ^ n : Nat) : Int) x n w = impl_Table_spectrum.l0 k (spL n w (s + 1) ++ List.replicate e 0) ((2 ^ n : Nat) : Int) ((s + 1 : Nat) : Int) n w := by
  have hM := pow_le ht.1
  intro d
  induction d with
  | zero =>
    intro k x hx
    obtain rfl : x = 2 ^ n := by omega
    rw [Nat.add_zero,impl_Table_spectrum.l1,if_neg (by omega),wrap64_succ (by omega),spL_succ,List.append_assoc]
    rfl
  | succ d ih =>
    intro k x hx
    have ha := spA_le w s x
    have hq := sgchi w s x
    have hp := pop_le (n := 5) (by omega) (and_small (u := s) (show x < 32 by omega))
    rw [show k + (d + 1) + 1 = (k + d + 1) + 1 by omega,impl_Table_spectrum.l1,if_pos (by omega),if_pos (Int.natCast_nonneg _),if_pos (by rw [List.length_append,spL_length,List.length_cons,List.length_replicate];omega),at_some' ht.lt63 (by omega),Option.bind_some,and_cast (by omega) (by omega),ones_small (and_small (by omega)),Option.bind_some,bit_b2,sign_pop _ hp,Option.bind_some,sp_get,Int.toNat_natCast,sp_set,wrap64_succ (by omega)]
    have e2 : wrap64 (spA w s x + sg (w.testBit x) * sg (pop (s &&& x) % 2 == 1)) = spA w s (x + 1) := by
      rw [spA_succ]
      show wrap64 (spA w s x + sg (w.testBit x) * chi s x) = _
      rcases hq with q | q <;> rw [q,wrap64_of (by omega) (by omega)]
    rw [e2]
    exact ih k (x + 1) (by omega)
theorem impl_sp_out {n w : Nat} (ht : Tab n w) : ∀ d k s : Nat,s + d = 2 ^ n → d * 40 < k → impl_Table_spectrum.l0 k (spL n w s ++ List.replicate d 0) ((2 ^ n : Nat) : Int) s n w = some (spL n w (2 ^ n)) := by
  have hM := pow_le ht.1
  intro d
  induction d with
  | zero =>
    intro k s hs hk
    obtain ⟨k,rfl⟩ : ∃ m,k = m + 1 := ⟨k - 1,by omega⟩
    obtain rfl : s = 2 ^ n := by omega
    rw [impl_Table_spectrum.l0,if_neg (by omega),List.replicate_zero,List.append_nil]
  | succ d ih =>
    intro k s hs hk
    obtain ⟨k,rfl⟩ : ∃ m,k = m + 2 ^ n + 1 + 1 := ⟨k - 2 ^ n - 2,by omega⟩
    rw [impl_Table_spectrum.l0,if_pos (by omega),size_some _ (by have := ht.1;omega),Option.bind_some]
    have h := impl_sp_in ht (show s + d + 1 = 2 ^ n by omega) (2 ^ n) k 0 (by omega)
    have e : spA w s 0 = 0 := rfl
    rw [e] at h
    exact h.trans (ih k (s + 1) (by omega) (by omega))
theorem impl_sp {n w k : Nat} (ht : Tab n w) (hk : 1400 < k) : impl_Table_spectrum.f k n w = some (spL n w (2 ^ n)) := by
  have hM := pow_le ht.1
  unfold impl_Table_spectrum.f
  rw [size_some _ (by have := ht.1;omega),Option.bind_some,if_pos (Int.natCast_nonneg _),if_pos (by omega),Option.bind_some,Int.toNat_natCast,List.length_replicate]
  exact impl_sp_out ht (2 ^ n) k 0 (by omega) (by omega)
def spI (a b : Int) : List Int := if isTab a b = true then spL a.toNat b.toNat (2 ^ a.toNat) else []
theorem impl_spI {a b : Int} (h0 : -9223372036854775808 ≤ b) (h1 : b ≤ 9223372036854775807) {k : Nat} (hk : 1400 < k) : impl_SpectrumOf.f k a b = some (spI a b) := by
  unfold impl_SpectrumOf.f spI
  rw [impl_isTable h0 h1,Option.bind_some]
  by_cases h : isTab a b = true
  · obtain ⟨n,w,rfl,rfl,ht⟩ := tab_of h
    rw [if_pos h,if_pos h,impl_sp ht hk,Option.bind_some,Int.toNat_natCast,Int.toNat_natCast]
  · rw [if_neg h,if_neg h]
theorem sign12n {k v : Nat} (hv : v < 32) (hk : 10 ≤ k) : spec_l12Sign.f k v = some (sg (pop v % 2 == 1)) := by
  unfold spec_l12Sign.f
  rw [ones_ref hv hk,Option.bind_some,Int.tmod_eq_emod_of_nonneg (Int.natCast_nonneg _),show ((pop v : Nat) : Int) % 2 = ((pop v % 2 : Nat) : Int) by omega]
  rcases Nat.mod_two_eq_zero_or_one (pop v) with h | h <;> rw [h] <;> rfl
theorem spec_sp_in {n w s : Nat} (ht : Tab n w) (hs : s < 2 ^ n) (L : List Int) (hL : L.length ≤ 1000) : ∀ d k x : Nat,60 ≤ k → x + d = 2 ^ n →
    spec_SpectrumOf.l1 (k + d + 1) L s (spA w s x) x n w = spec_SpectrumOf.l0 k (L ++ [spc n w s]) ((s + 1 : Nat) : Int) n w := by
  have hM := pow_le ht.1
  have hn := ht.1
  intro d
  induction d with
  | zero =>
    intro k x hk hx
    obtain rfl : x = 2 ^ n := by omega
    rw [Nat.add_zero,spec_SpectrumOf.l1,if_pos (Int.natCast_nonneg _),shl1_of (by omega),if_neg (by omega),if_pos (by omega),wrap64_succ (by omega)]
    rfl
  | succ d ih =>
    intro k x hk hx
    have ha := spA_le w s x
    have hq := sgchi w s x
    have e1 : wrap64 ((if w.testBit x = true then (-1 : Int) else 1) * sg (pop (s &&& x) % 2 == 1)) = sg (w.testBit x) * chi s x := by
      show wrap64 (sg (w.testBit x) * chi s x) = _
      rcases hq with q | q <;> rw [q,wrap64_of (by omega) (by omega)]
    rw [show k + (d + 1) + 1 = (k + d + 1) + 1 by omega,spec_SpectrumOf.l1,if_pos (Int.natCast_nonneg _),shl1_of (by omega),if_pos (by omega),if_pos (Int.natCast_nonneg _),bit_cast ht.lt63 (by omega),bit_b2,sign12 _ (by omega),Option.bind_some,and_cast (by omega) (by omega),sign12n (and_small (by omega)) (by omega),Option.bind_some,e1,wrap64_succ (by omega)]
    have e2 : wrap64 (spA w s x + sg (w.testBit x) * chi s x) = spA w s (x + 1) := by
      rw [spA_succ]
      rcases hq with q | q <;> rw [q,wrap64_of (by omega) (by omega)]
    rw [e2]
    exact ih k (x + 1) hk (by omega)
theorem spec_sp_out {n w : Nat} (ht : Tab n w) : ∀ d k s : Nat,s + d = 2 ^ n → d * 40 + 70 < k → spec_SpectrumOf.l0 k (spL n w s) s n w = some (spL n w (2 ^ n)) := by
  have hM := pow_le ht.1
  have hn := ht.1
  have hi : spec_IsTable.f n w = some true := by rw [spec_isTable,isTab_of ht]
  intro d
  induction d with
  | zero =>
    intro k s hs hk
    obtain ⟨k,rfl⟩ : ∃ m,k = m + 2 := ⟨k - 2,by omega⟩
    obtain rfl : s = 2 ^ n := by omega
    rw [spec_SpectrumOf.l0,hi,Option.bind_some,if_pos rfl,if_pos (Int.natCast_nonneg _),shl1_of (by omega),decide_eq_false (by omega),spec_SpectrumOf.j1,if_neg (by decide)]
  | succ d ih =>
    intro k s hs hk
    obtain ⟨k,rfl⟩ : ∃ m,k = m + 2 ^ n + 1 + 1 + 1 := ⟨k - 2 ^ n - 3,by omega⟩
    rw [spec_SpectrumOf.l0,hi,Option.bind_some,if_pos rfl,if_pos (Int.natCast_nonneg _),shl1_of (by omega),decide_eq_true (by omega),spec_SpectrumOf.j1,if_pos rfl]
    have h := spec_sp_in ht (show s < 2 ^ n by omega) (spL n w s) (by rw [spL_length];omega) (2 ^ n) k 0 (by omega) (by omega)
    rw [← spL_succ] at h
    exact h.trans (ih k (s + 1) (by omega) (by omega))
theorem spec_spI (a b : Int) {k : Nat} (hk : 1500 < k) : spec_SpectrumOf.f k a b = some (spI a b) := by
  unfold spec_SpectrumOf.f spI
  by_cases h : isTab a b = true
  · obtain ⟨n,w,rfl,rfl,ht⟩ := tab_of h
    have hM := pow_le ht.1
    rw [if_pos h,Int.toNat_natCast,Int.toNat_natCast]
    exact spec_sp_out ht (2 ^ n) k 0 (by omega) (by omega)
  · obtain ⟨k,rfl⟩ : ∃ m,k = m + 2 := ⟨k - 2,by omega⟩
    rw [if_neg h,spec_SpectrumOf.l0,spec_isTable,Option.bind_some,if_neg h,spec_SpectrumOf.j1,if_neg (by decide)]
def lsum (l : List Int) (x m : Nat) : Int := sumI (fun u => rd l (u : Int) * chi u x) m
theorem chi_or (u x : Nat) : chi u x = 1 ∨ chi u x = -1 := by unfold chi;exact sg_or _
theorem sumI_bound {q : Nat → Int} {c : Nat} : ∀ {m : Nat},(∀ i,i < m → -(c : Int) ≤ q i ∧ q i ≤ c) → -((c * m : Nat) : Int) ≤ sumI q m ∧ sumI q m ≤ ((c * m : Nat) : Int) := by
  intro m
  induction m with
  | zero => intro _;exact ⟨Int.le_refl _,Int.le_refl _⟩
  | succ m ih =>
    intro h
    have h1 := ih fun i hi => h i (by omega)
    have h2 := h m (by omega)
    rw [sumI,Nat.mul_succ]
    omega
theorem lsum_bound {l : List Int} {c x m : Nat} (h : ∀ u : Nat,u < m → -(c : Int) ≤ rd l (u : Int) ∧ rd l (u : Int) ≤ c) : -((c * m : Nat) : Int) ≤ lsum l x m ∧ lsum l x m ≤ ((c * m : Nat) : Int) := by
  refine sumI_bound fun u hu => ?_
  have := h u hu
  rcases chi_or u x with e | e <;> rw [e] <;> omega
theorem lsum_back {l : List Int} {n v : Nat} (hn : n ≤ 5) (hv : v < 2 ^ n) : sumI (fun x => lsum l x (2 ^ n) * chi v x) (2 ^ n) = ((2 ^ n : Nat) : Int) * rd l (v : Int) := by
  have hM := pow_le hn
  have e1 : sumI (fun x => lsum l x (2 ^ n) * chi v x) (2 ^ n) = sumI (fun x => sumI (fun u => rd l (u : Int) * chi (u ^^^ v) x) (2 ^ n)) (2 ^ n) := by
    refine sumI_congr fun x hx => ?_
    unfold lsum
    rw [← sumI_mul']
    refine sumI_congr fun u hu => ?_
    rw [Int.mul_assoc,chi_comm u x,chi_comm v x,chi_xor (by omega) (by omega) (by omega),chi_comm]
  rw [e1,sumI_swap]
  have e2 : sumI (fun u => sumI (fun x => rd l (u : Int) * chi (u ^^^ v) x) (2 ^ n)) (2 ^ n) = sumI (fun u => rd l (u : Int) * (if u ^^^ v = 0 then ((2 ^ n : Nat) : Int) else 0)) (2 ^ n) := by
    refine sumI_congr fun u hu => ?_
    have e3 : sumI (fun x => rd l (u : Int) * chi (u ^^^ v) x) (2 ^ n) = sumI (fun x => rd l (u : Int) * chi x (u ^^^ v)) (2 ^ n) := sumI_congr fun x _ => by rw [chi_comm]
    rw [e3,sumI_mul,chi_orth hn (Nat.xor_lt_two_pow hu hv)]
  rw [e2,sumI_delta hv fun i hi hne => by rw [if_neg (fun z => hne (xor_zero_iff.mp z)),Int.mul_zero],if_pos (Nat.xor_self v),Int.mul_comm]
def tosOk (l : List Int) (n : Nat) : Bool := allN (fun x => decide (lsum l x (2 ^ n) = ((2 ^ n : Nat) : Int) ∨ lsum l x (2 ^ n) = -((2 ^ n : Nat) : Int))) (2 ^ n)
theorem tosOk_iff {l : List Int} {n : Nat} : tosOk l n = true ↔ ∀ x,x < 2 ^ n → lsum l x (2 ^ n) = ((2 ^ n : Nat) : Int) ∨ lsum l x (2 ^ n) = -((2 ^ n : Nat) : Int) := by
  unfold tosOk
  rw [allN_iff]
  exact ⟨fun h x hx => of_decide_eq_true (h x hx),fun h x hx => decide_eq_true (h x hx)⟩
theorem tos_small {l : List Int} {n : Nat} (hn : n ≤ 5) (h : tosOk l n = true) : ∀ u : Nat,u < 2 ^ n → -((2 ^ n : Nat) : Int) ≤ rd l (u : Int) ∧ rd l (u : Int) ≤ ((2 ^ n : Nat) : Int) := by
  intro u hu
  have hp := pow_pos n
  have h1 := lsum_back (l := l) hn hu
  have h2 := sumI_bound (q := fun x => lsum l x (2 ^ n) * chi u x) (c := 2 ^ n) (m := 2 ^ n) fun x hx => by
    rcases tosOk_iff.mp h x hx with e | e <;> rcases chi_or u x with f | f <;> simp only [e,f] <;> omega
  rw [h1,Int.natCast_mul] at h2
  generalize rd l (u : Int) = r at h2 ⊢
  have hM : (0 : Int) < ((2 ^ n : Nat) : Int) := by omega
  generalize ((2 ^ n : Nat) : Int) = M at h2 hM ⊢
  refine ⟨?_,?_⟩
  · refine Int.le_of_mul_le_mul_left ?_ hM
    rw [Int.mul_neg]
    exact h2.1
  · exact Int.le_of_mul_le_mul_left h2.2 hM
def tosW (l : List Int) (n : Nat) : Nat := tabN (fun x => decide (lsum l x (2 ^ n) < 0)) (2 ^ n)
theorem lsum_sp {n w x : Nat} (hn : n ≤ 5) (hx : x < 2 ^ n) : lsum (spL n w (2 ^ n)) x (2 ^ n) = ((2 ^ n : Nat) : Int) * sg (w.testBit x) := by
  rw [← spc_back hn hx]
  exact sumI_congr fun u hu => by rw [spL_get hu]
theorem tos_sp {n w : Nat} (ht : Tab n w) : tosOk (spL n w (2 ^ n)) n = true ∧ tosW (spL n w (2 ^ n)) n = w := by
  have hp := pow_pos n
  constructor
  · refine tosOk_iff.mpr fun x hx => ?_
    rw [lsum_sp ht.1 hx]
    rcases sg_or (w.testBit x) with e | e <;> rw [e] <;> omega
  · refine word_ext (m := 2 ^ n) (tabN_lt _ _) ht.2 fun x hx => ?_
    unfold tosW
    rw [testBit_tabN,decide_eq_true hx,Bool.true_and,lsum_sp ht.1 hx]
    cases w.testBit x with
    | true => exact decide_eq_true (by show ((2 ^ n : Nat) : Int) * -1 < 0;omega)
    | false => exact decide_eq_false (by show ¬ ((2 ^ n : Nat) : Int) * 1 < 0;omega)
theorem sign_of {v : Nat} (hv : v ≤ 5) : impl_sign.f (v : Int) = some (sg (v % 2 == 1)) := by
  have hh : ∀ v : Fin 6,impl_sign.f ((v.val : Nat) : Int) = some (sg (v.val % 2 == 1)) := by decide +kernel
  exact hh ⟨v,by omega⟩
theorem lsum_succ (l : List Int) (x m : Nat) : lsum l x (m + 1) = lsum l x m + rd l (m : Int) * chi m x := rfl
def Within (l : List Int) (c : Nat) : Prop := ∀ u : Nat,u < l.length → -(c : Int) ≤ rd l (u : Int) ∧ rd l (u : Int) ≤ c
theorem within_lsum {l : List Int} {c : Nat} (h : Within l c) (hc : c ≤ 32) (x : Nat) {m : Nat} (hm : m ≤ l.length) (hl : l.length ≤ 32) : -1024 ≤ lsum l x m ∧ lsum l x m ≤ 1024 := by
  have h1 := lsum_bound (l := l) (c := c) (x := x) (m := m) fun u hu => h u (by omega)
  have h2 : c * m ≤ 32 * 32 := Nat.mul_le_mul hc (by omega)
  omega
theorem ones_and {u x : Nat} (hu : u < 32) (hx : x < 32) : impl_ones.f (Go.bits .and .i64 (u : Int) (x : Int)) = some ((pop (u &&& x) : Nat) : Int) := by
  rw [and_cast (by omega) (by omega)]
  exact ones_small (and_small hx)
theorem tos_in {l : List Int} {x : Nat} {n wd : Int} (hl : l.length ≤ 32) (hx : x < l.length) (hb : Within l l.length) : ∀ d k u : Nat,u + d = l.length →
    impl_TableOfSpectrum.l1 (k + 2 * d + 1) l x (lsum l x u) (l.length : Int) x l (l.length : Int) u n wd = (if lsum l x l.length = (l.length : Int) then (impl_TableOfSpectrum.l0 k l (l.length : Int) ((x + 1 : Nat) : Int) n wd) else (if lsum l x l.length = -(l.length : Int) then (impl_TableOfSpectrum.l0 k l (l.length : Int) ((x + 1 : Nat) : Int) n (Go.bits .or .i64 wd (shl .i64 1 (x : Int)))) else (some (0,0,false)))) := by
  intro d
  induction d with
  | zero =>
    intro k u hu
    obtain rfl : u = l.length := by omega
    rw [impl_TableOfSpectrum.l1,if_neg (by omega),wrap64_succ (by omega),wrap64_of (n := -(l.length : Int)) (by omega) (by omega),if_pos (Int.natCast_nonneg _)]
  | succ d ih =>
    intro k u hu
    have h1 := hb u (by omega)
    have h2 := within_lsum hb hl x (m := u) (by omega) hl
    have hp := pop_le (n := 5) (by omega) (and_small (u := u) (show x < 32 by omega))
    rw [show k + 2 * (d + 1) + 1 = (k + 2 * d + 1) + 1 + 1 by omega,impl_TableOfSpectrum.l1,if_pos (by omega),if_pos (Int.natCast_nonneg _),if_pos (by omega),wrap64_of (n := -(l.length : Int)) (by omega) (by omega),if_neg (by omega),decide_eq_false (by omega),impl_TableOfSpectrum.j2,if_neg (by decide),ones_and (by omega) (by omega),Option.bind_some,sign_of hp,Option.bind_some,wrap64_succ (by omega)]
    have e : wrap64 (lsum l x u + wrap64 (rd l (u : Int) * sg (pop (u &&& x) % 2 == 1))) = lsum l x (u + 1) := by
      rw [lsum_succ]
      show wrap64 (lsum l x u + wrap64 (rd l (u : Int) * chi u x)) = _
      rcases chi_or u x with q | q <;> rw [q]
      · rw [Int.mul_one,wrap64_of (n := rd l (u : Int)) (by omega) (by omega),wrap64_of (by omega) (by omega)]
      · rw [Int.mul_neg_one,wrap64_of (n := -rd l (u : Int)) (by omega) (by omega),wrap64_of (by omega) (by omega)]
    rw [e]
    exact ih k (u + 1) (by omega)
theorem tos_big {l : List Int} {x : Nat} {n wd : Int} (hl : l.length ≤ 32) (hx : x < l.length) : ∀ (d k u : Nat) (S : Int),u + d = l.length → 2 * d + 1 < k → (∃ v : Nat,u ≤ v ∧ v < l.length ∧ ¬ (-(l.length : Int) ≤ rd l (v : Int) ∧ rd l (v : Int) ≤ (l.length : Int))) →
    impl_TableOfSpectrum.l1 k l x S (l.length : Int) x l (l.length : Int) u n wd = some (0,0,false) := by
  intro d
  induction d with
  | zero => rintro k u S hu hk ⟨v,h1,h2,_⟩;omega
  | succ d ih =>
    rintro k u S hu hk ⟨v,h1,h2,h3⟩
    obtain ⟨k,rfl⟩ : ∃ m,k = m + 1 + 1 := ⟨k - 2,by omega⟩
    have hp := pop_le (n := 5) (by omega) (and_small (u := u) (show x < 32 by omega))
    rw [impl_TableOfSpectrum.l1,if_pos (by omega),if_pos (Int.natCast_nonneg _),if_pos (by omega),wrap64_of (n := -(l.length : Int)) (by omega) (by omega)]
    by_cases c1 : rd l (u : Int) < -(l.length : Int)
    · rw [if_pos c1,impl_TableOfSpectrum.j2,if_pos rfl]
    · rw [if_neg c1]
      by_cases c2 : rd l (u : Int) > (l.length : Int)
      · rw [decide_eq_true c2,impl_TableOfSpectrum.j2,if_pos rfl]
      · rw [decide_eq_false c2,impl_TableOfSpectrum.j2,if_neg (by decide),ones_and (by omega) (by omega),Option.bind_some,sign_of hp,Option.bind_some,wrap64_succ (by omega)]
        refine ih k (u + 1) _ (by omega) (by omega) ⟨v,?_,h2,h3⟩
        by_cases e : v = u
        · subst e;omega
        · omega
def tosP (l : List Int) (x : Nat) : Bool := decide (lsum l x l.length < 0)
def TosAt (l : List Int) (x : Nat) : Prop := lsum l x l.length = (l.length : Int) ∨ lsum l x l.length = -(l.length : Int)
theorem bit_lt32' {x : Nat} (hx : x < 32) : 2 ^ x < 4294967296 := Nat.lt_of_lt_of_le (Nat.pow_lt_pow_right (by decide) hx) (by decide)
theorem or_shl {p : Nat → Bool} {x : Nat} (hx : x < 32) (h : p x = true) : Go.bits .or .i64 ((tabN p x : Nat) : Int) (shl .i64 1 (x : Int)) = ((tabN p (x + 1) : Nat) : Int) := by
  have h1 := tabN_lt63 p (show x ≤ 32 by omega)
  have h2 : 2 ^ x < 4294967296 := bit_lt32' hx
  rw [shl1_of (by omega),or_cast h1 (by omega),tabN_true h]
theorem tos_yes {l : List Int} {n : Int} (hl : l.length ≤ 32) (hb : Within l l.length) (h : ∀ x,x < l.length → TosAt l x) : ∀ d k x : Nat,x + d = l.length → d * 70 < k →
    impl_TableOfSpectrum.l0 k l (l.length : Int) x n ((tabN (tosP l) x : Nat) : Int) = some (n,((tabN (tosP l) l.length : Nat) : Int),true) := by
  intro d
  induction d with
  | zero =>
    intro k x hx hk
    obtain ⟨k,rfl⟩ : ∃ m,k = m + 1 := ⟨k - 1,by omega⟩
    obtain rfl : x = l.length := by omega
    rw [impl_TableOfSpectrum.l0,if_neg (by omega)]
  | succ d ih =>
    intro k x hx hk
    obtain ⟨k,rfl⟩ : ∃ m,k = m + 2 * l.length + 1 + 1 := ⟨k - 2 * l.length - 2,by omega⟩
    rw [impl_TableOfSpectrum.l0,if_pos (by omega)]
    have hi := tos_in (n := n) (wd := ((tabN (tosP l) x : Nat) : Int)) hl (show x < l.length by omega) hb l.length k 0 (by omega)
    have e : lsum l x 0 = 0 := rfl
    rw [e] at hi
    refine hi.trans ?_
    have hn := ih k (x + 1) (by omega) (by omega)
    rcases h x (by omega) with q | q
    · have hp : tosP l x = false := decide_eq_false (by omega)
      rw [tabN_false hp] at hn
      rw [if_pos q]
      exact hn
    · have hp : tosP l x = true := decide_eq_true (by omega)
      rw [if_neg (by omega),if_pos q,or_shl (by omega) hp]
      exact hn
theorem tos_no {l : List Int} {n : Int} (hl : l.length ≤ 32) (hb : Within l l.length) : ∀ (d k x : Nat) (wd : Int),x + d = l.length → d * 70 < k → (∃ v,x ≤ v ∧ v < l.length ∧ ¬ TosAt l v) →
    impl_TableOfSpectrum.l0 k l (l.length : Int) x n wd = some (0,0,false) := by
  intro d
  induction d with
  | zero => rintro k x wd hx hk ⟨v,h1,h2,_⟩;omega
  | succ d ih =>
    rintro k x wd hx hk ⟨v,h1,h2,h3⟩
    obtain ⟨k,rfl⟩ : ∃ m,k = m + 2 * l.length + 1 + 1 := ⟨k - 2 * l.length - 2,by omega⟩
    rw [impl_TableOfSpectrum.l0,if_pos (by omega)]
    have hi := tos_in (n := n) (wd := wd) hl (show x < l.length by omega) hb l.length k 0 (by omega)
    have e : lsum l x 0 = 0 := rfl
    rw [e] at hi
    refine hi.trans ?_
    by_cases e : v = x
    · subst e
      rw [if_neg fun z => h3 (.inl z),if_neg fun z => h3 (.inr z)]
    · have hn := fun wd => ih k (x + 1) wd (by omega) (by omega) ⟨v,by omega,h2,h3⟩
      by_cases q : lsum l x l.length = (l.length : Int)
      · rw [if_pos q];exact hn _
      · rw [if_neg q]
        by_cases q2 : lsum l x l.length = -(l.length : Int)
        · rw [if_pos q2];exact hn _
        · rw [if_neg q2]
theorem pow_ne {n m : Nat} (h : m < n) : ((2 ^ n : Nat) : Int) ≠ ((2 ^ m : Nat) : Int) := by have := pow_lt h;omega
theorem bits_of {n : Nat} (hn : n ≤ 5) : ∀ d k m : Nat,m + d = n → d < k → impl_bitsOf.l0 k ((2 ^ n : Nat) : Int) m = some ((n : Int),true) := by
  intro d
  induction d with
  | zero =>
    intro k m hm hk
    obtain ⟨k,rfl⟩ : ∃ z,k = z + 1 := ⟨k - 1,by omega⟩
    obtain rfl : m = n := by omega
    rw [impl_bitsOf.l0,if_pos (by omega),if_pos (Int.natCast_nonneg _),shl1_of (by omega),if_pos rfl]
  | succ d ih =>
    intro k m hm hk
    obtain ⟨k,rfl⟩ : ∃ z,k = z + 1 := ⟨k - 1,by omega⟩
    rw [impl_bitsOf.l0,if_pos (by omega),if_pos (Int.natCast_nonneg _),shl1_of (by omega),if_neg (pow_ne (by omega)),wrap64_succ (by omega)]
    exact ih k (m + 1) (by omega) (by omega)
theorem bits_none : ∀ d k m : Nat,m + d = 6 → d < k → impl_bitsOf.l0 k 0 m = some (0,false) := by
  intro d
  induction d with
  | zero =>
    intro k m hm hk
    obtain ⟨k,rfl⟩ : ∃ z,k = z + 1 := ⟨k - 1,by omega⟩
    rw [impl_bitsOf.l0,if_neg (by omega)]
  | succ d ih =>
    intro k m hm hk
    obtain ⟨k,rfl⟩ : ∃ z,k = z + 1 := ⟨k - 1,by omega⟩
    have := pow_pos m
    rw [impl_bitsOf.l0,if_pos (by omega),if_pos (Int.natCast_nonneg _),shl1_of (by omega),if_neg (by omega),wrap64_succ (by omega)]
    exact ih k (m + 1) (by omega) (by omega)
def tosR (l : List Int) (n : Nat) : Int × Int × Bool := if tosOk l n = true then ((n : Int),((tosW l n : Nat) : Int),true) else (0,0,false)
theorem at_of {l : List Int} {n : Nat} (hl : l.length = 2 ^ n) : (tosOk l n = true ↔ ∀ x,x < l.length → TosAt l x) ∧ tosW l n = tabN (tosP l) l.length := by
  constructor
  · rw [tosOk_iff];unfold TosAt;rw [hl]
  · unfold tosW tosP;rw [hl]
theorem impl_tos {l : List Int} {n k : Nat} (hn : n ≤ 5) (hl : l.length = 2 ^ n) (hk : 3000 < k) : impl_TableOfSpectrum.f k l = some (tosR l n) := by
  have hM := pow_le hn
  have hp := pow_pos n
  have hb := bits_of hn n k 0 (by omega) (by omega)
  obtain ⟨h1,h2⟩ := at_of hl
  unfold impl_TableOfSpectrum.f impl_bitsOf.f tosR
  rw [← hl] at hb
  have hb : impl_bitsOf.l0 k (l.length : Int) 0 = some ((n : Int),true) := hb
  rw [hb,Option.bind_some]
  dsimp only
  rw [if_pos rfl]
  by_cases hw : Within l l.length
  · by_cases hc : tosOk l n = true
    · rw [if_pos hc,h2]
      exact tos_yes (by omega) hw (h1.mp hc) l.length k 0 (by omega) (by omega)
    · rw [if_neg hc]
      have : ∃ v,0 ≤ v ∧ v < l.length ∧ ¬ TosAt l v := by
        refine Classical.byContradiction fun hz => hc (h1.mpr fun x hx => Classical.byContradiction fun hq => hz ⟨x,Nat.zero_le _,hx,hq⟩)
      exact tos_no (by omega) hw l.length k 0 0 (by omega) (by omega) this
  · have hc : ¬ tosOk l n = true := fun hc => hw fun u hu => by have := tos_small hn hc u (by omega);rw [← hl] at this;exact this
    rw [if_neg hc]
    have hv : ∃ v : Nat,0 ≤ v ∧ v < l.length ∧ ¬ (-(l.length : Int) ≤ rd l (v : Int) ∧ rd l (v : Int) ≤ (l.length : Int)) := by
      refine Classical.byContradiction fun hz => hw fun u hu => Classical.byContradiction fun hq => hz ⟨u,Nat.zero_le _,hu,hq⟩
    obtain ⟨k,rfl⟩ : ∃ m,k = m + 1 := ⟨k - 1,by omega⟩
    rw [impl_TableOfSpectrum.l0,if_pos (by omega)]
    exact tos_big (x := 0) (by omega) (by omega) l.length k 0 0 (by omega) (by omega) hv
theorem impl_tos_nil {k : Nat} (hk : 10 < k) : impl_TableOfSpectrum.f k [] = some (0,0,false) := by
  unfold impl_TableOfSpectrum.f impl_bitsOf.f
  have hb : impl_bitsOf.l0 k (([] : List Int).length : Int) 0 = some (0,false) := bits_none 6 k 0 (by omega) (by omega)
  rw [hb,Option.bind_some]
  rfl
theorem spec_tos_in {l : List Int} {x : Nat} {n wd : Int} (hl : l.length ≤ 32) (hx : x < l.length) (hb : Within l 32) : ∀ d k u : Nat,60 ≤ k → u + d = l.length →
    spec_TableOfSpectrum.l3 (k + d + 1) l n wd x (lsum l x u) u = (if lsum l x l.length = -(l.length : Int) then (spec_TableOfSpectrum.l2 k l n (Go.bits .or .i64 wd (shl .i64 1 (x : Int))) ((x + 1 : Nat) : Int)) else (if lsum l x l.length = (l.length : Int) then (spec_TableOfSpectrum.l2 k l n wd ((x + 1 : Nat) : Int)) else (some (0,0,false)))) := by
  intro d
  induction d with
  | zero =>
    intro k u hk hu
    obtain rfl : u = l.length := by omega
    rw [Nat.add_zero,spec_TableOfSpectrum.l3,if_neg (by omega),wrap64_succ (by omega),wrap64_of (n := -(l.length : Int)) (by omega) (by omega),if_pos (Int.natCast_nonneg _)]
  | succ d ih =>
    intro k u hk hu
    have h1 := hb u (by omega)
    have h2 := within_lsum hb (by decide) x (m := u) (by omega) hl
    rw [show k + (d + 1) + 1 = (k + d + 1) + 1 by omega,spec_TableOfSpectrum.l3,if_pos (by omega),if_pos (Int.natCast_nonneg _),and_cast (by omega) (by omega),sign12n (and_small (by omega)) (by omega),Option.bind_some,wrap64_succ (by omega)]
    have e : wrap64 (lsum l x u + wrap64 (rd l (u : Int) * sg (pop (u &&& x) % 2 == 1))) = lsum l x (u + 1) := by
      rw [lsum_succ]
      show wrap64 (lsum l x u + wrap64 (rd l (u : Int) * chi u x)) = _
      rcases chi_or u x with q | q <;> rw [q]
      · rw [Int.mul_one,wrap64_of (n := rd l (u : Int)) (by omega) (by omega),wrap64_of (by omega) (by omega)]
      · rw [Int.mul_neg_one,wrap64_of (n := -rd l (u : Int)) (by omega) (by omega),wrap64_of (by omega) (by omega)]
    rw [e]
    exact ih k (u + 1) hk (by omega)
theorem spec_tos_yes {l : List Int} {n : Int} (hl : l.length ≤ 32) (hb : Within l 32) (h : ∀ x,x < l.length → TosAt l x) : ∀ d k x : Nat,x + d = l.length → d * 40 + 70 < k →
    spec_TableOfSpectrum.l2 k l n ((tabN (tosP l) x : Nat) : Int) x = some (n,((tabN (tosP l) l.length : Nat) : Int),true) := by
  intro d
  induction d with
  | zero =>
    intro k x hx hk
    obtain ⟨k,rfl⟩ : ∃ m,k = m + 1 := ⟨k - 1,by omega⟩
    obtain rfl : x = l.length := by omega
    rw [spec_TableOfSpectrum.l2,if_neg (by omega)]
  | succ d ih =>
    intro k x hx hk
    obtain ⟨k,rfl⟩ : ∃ m,k = m + l.length + 1 + 1 := ⟨k - l.length - 2,by omega⟩
    rw [spec_TableOfSpectrum.l2,if_pos (by omega)]
    have hi := spec_tos_in (n := n) (wd := ((tabN (tosP l) x : Nat) : Int)) hl (show x < l.length by omega) hb l.length k 0 (by omega) (by omega)
    have e : lsum l x 0 = 0 := rfl
    rw [e] at hi
    refine hi.trans ?_
    have hn := ih k (x + 1) (by omega) (by omega)
    rcases h x (by omega) with q | q
    · have hp : tosP l x = false := decide_eq_false (by omega)
      rw [tabN_false hp] at hn
      rw [if_neg (by omega),if_pos q]
      exact hn
    · have hp : tosP l x = true := decide_eq_true (by omega)
      rw [if_pos q,or_shl (by omega) hp]
      exact hn
theorem spec_tos_no {l : List Int} {n : Int} (hl : l.length ≤ 32) (hb : Within l 32) : ∀ (d k x : Nat) (wd : Int),x + d = l.length → d * 40 + 70 < k → (∃ v,x ≤ v ∧ v < l.length ∧ ¬ TosAt l v) →
    spec_TableOfSpectrum.l2 k l n wd x = some (0,0,false) := by
  intro d
  induction d with
  | zero => rintro k x wd hx hk ⟨v,h1,h2,_⟩;omega
  | succ d ih =>
    rintro k x wd hx hk ⟨v,h1,h2,h3⟩
    obtain ⟨k,rfl⟩ : ∃ m,k = m + l.length + 1 + 1 := ⟨k - l.length - 2,by omega⟩
    rw [spec_TableOfSpectrum.l2,if_pos (by omega)]
    have hi := spec_tos_in (n := n) (wd := wd) hl (show x < l.length by omega) hb l.length k 0 (by omega) (by omega)
    have e : lsum l x 0 = 0 := rfl
    rw [e] at hi
    refine hi.trans ?_
    by_cases e : v = x
    · subst e
      rw [if_neg fun z => h3 (.inr z),if_neg fun z => h3 (.inl z)]
    · have hn := fun wd => ih k (x + 1) wd (by omega) (by omega) ⟨v,by omega,h2,h3⟩
      by_cases q : lsum l x l.length = -(l.length : Int)
      · rw [if_pos q];exact hn _
      · rw [if_neg q]
        by_cases q2 : lsum l x l.length = (l.length : Int)
        · rw [if_pos q2];exact hn _
        · rw [if_neg q2]
theorem spec_len {l : List Int} {n : Nat} (hn : n ≤ 5) (hl : l.length = 2 ^ n) : ∀ d k m : Nat,m + d = n → spec_TableOfSpectrum.l1 (k + d + 1) l m = spec_TableOfSpectrum.l2 k l n 0 0 := by
  intro d
  induction d with
  | zero =>
    intro k m hm
    obtain rfl : m = n := by omega
    rw [Nat.add_zero,spec_TableOfSpectrum.l1,if_pos (by omega),if_pos (Int.natCast_nonneg _),shl1_of (by omega),if_pos (by rw [hl])]
  | succ d ih =>
    intro k m hm
    rw [show k + (d + 1) + 1 = (k + d + 1) + 1 by omega,spec_TableOfSpectrum.l1,if_pos (by omega),if_pos (Int.natCast_nonneg _),shl1_of (by omega),if_neg (by rw [hl];exact pow_ne (by omega)),wrap64_succ (by omega)]
    exact ih k (m + 1) (by omega)
theorem spec_len_nil : ∀ d k m : Nat,m + d = 6 → d < k → spec_TableOfSpectrum.l1 k [] m = some (0,0,false) := by
  intro d
  induction d with
  | zero =>
    intro k m hm hk
    obtain ⟨k,rfl⟩ : ∃ z,k = z + 1 := ⟨k - 1,by omega⟩
    rw [spec_TableOfSpectrum.l1,if_neg (by omega)]
  | succ d ih =>
    intro k m hm hk
    obtain ⟨k,rfl⟩ : ∃ z,k = z + 1 := ⟨k - 1,by omega⟩
    have := pow_pos m
    rw [spec_TableOfSpectrum.l1,if_pos (by omega),if_pos (Int.natCast_nonneg _),shl1_of (by omega),if_neg (by rw [List.length_nil];omega),wrap64_succ (by omega)]
    exact ih k (m + 1) (by omega) (by omega)
theorem spec_all_in {l : List Int} (hl : l.length ≤ 32) (hb : Within l 32) : ∀ d k u : Nat,u + d = l.length → spec_TableOfSpectrum.l0 (k + d + 1) l u = spec_TableOfSpectrum.l1 k l 0 := by
  intro d
  induction d with
  | zero =>
    intro k u hu
    rw [Nat.add_zero,spec_TableOfSpectrum.l0,if_neg (by omega)]
  | succ d ih =>
    intro k u hu
    have h1 := hb u (by omega)
    rw [show k + (d + 1) + 1 = (k + d + 1) + 1 by omega,spec_TableOfSpectrum.l0,if_pos (by omega),if_pos (Int.natCast_nonneg _),in_some,Option.bind_some,decide_eq_true (by omega),if_pos rfl,wrap64_succ (by omega)]
    exact ih k (u + 1) (by omega)
theorem spec_not_in {l : List Int} (hl : l.length ≤ 32) : ∀ d k u : Nat,u + d = l.length → d < k → (∃ v : Nat,u ≤ v ∧ v < l.length ∧ ¬ (-32 ≤ rd l (v : Int) ∧ rd l (v : Int) ≤ 32)) → spec_TableOfSpectrum.l0 k l u = some (0,0,false) := by
  intro d
  induction d with
  | zero => rintro k u hu hk ⟨v,h1,h2,_⟩;omega
  | succ d ih =>
    rintro k u hu hk ⟨v,h1,h2,h3⟩
    obtain ⟨k,rfl⟩ : ∃ z,k = z + 1 := ⟨k - 1,by omega⟩
    rw [spec_TableOfSpectrum.l0,if_pos (by omega),if_pos (Int.natCast_nonneg _),in_some,Option.bind_some]
    by_cases c : -32 ≤ rd l (u : Int) ∧ rd l (u : Int) ≤ 32
    · rw [decide_eq_true c,if_pos rfl,wrap64_succ (by omega)]
      refine ih k (u + 1) (by omega) (by omega) ⟨v,?_,h2,h3⟩
      by_cases e : v = u
      · subst e;exact absurd c h3
      · omega
    · rw [decide_eq_false c,if_neg (by decide)]
theorem spec_tos {l : List Int} {n k : Nat} (hn : n ≤ 5) (hl : l.length = 2 ^ n) (hk : 2000 < k) : spec_TableOfSpectrum.f k l = some (tosR l n) := by
  have hM := pow_le hn
  have hp := pow_pos n
  obtain ⟨h1,h2⟩ := at_of hl
  unfold spec_TableOfSpectrum.f tosR
  by_cases hw : Within l 32
  · obtain ⟨k,rfl⟩ : ∃ m,k = (m + n + 1) + l.length + 1 := ⟨k - n - 2 - l.length,by omega⟩
    have h3 := spec_all_in (by omega) hw l.length (k + n + 1) 0 (by omega)
    have h4 := spec_len hn hl n k 0 (by omega)
    refine h3.trans (Eq.trans h4 ?_)
    by_cases hc : tosOk l n = true
    · rw [if_pos hc,h2]
      exact spec_tos_yes (by omega) hw (h1.mp hc) l.length k 0 (by omega) (by omega)
    · rw [if_neg hc]
      have : ∃ v,0 ≤ v ∧ v < l.length ∧ ¬ TosAt l v := by
        refine Classical.byContradiction fun hz => hc (h1.mpr fun x hx => Classical.byContradiction fun hq => hz ⟨x,Nat.zero_le _,hx,hq⟩)
      exact spec_tos_no (by omega) hw l.length k 0 0 (by omega) (by omega) this
  · have hc : ¬ tosOk l n = true := fun hc => hw fun u hu => by have := tos_small hn hc u (by omega);omega
    rw [if_neg hc]
    have hv : ∃ v : Nat,0 ≤ v ∧ v < l.length ∧ ¬ (-32 ≤ rd l (v : Int) ∧ rd l (v : Int) ≤ 32) := by
      refine Classical.byContradiction fun hz => hw fun u hu => Classical.byContradiction fun hq => hz ⟨u,Nat.zero_le _,hu,hq⟩
    exact spec_not_in (by omega) l.length k 0 (by omega) (by omega) hv
theorem spec_tos_nil {k : Nat} (hk : 10 < k) : spec_TableOfSpectrum.f k [] = some (0,0,false) := by
  obtain ⟨k,rfl⟩ : ∃ m,k = m + 1 := ⟨k - 1,by omega⟩
  unfold spec_TableOfSpectrum.f
  rw [spec_TableOfSpectrum.l0,if_neg (by rw [List.length_nil];omega)]
  exact spec_len_nil 6 k 0 (by omega) (by omega)
theorem tosR_sp {n w : Nat} (ht : Tab n w) : tosR (spL n w (2 ^ n)) n = ((n : Int),(w : Int),true) := by
  obtain ⟨h1,h2⟩ := tos_sp ht
  unfold tosR
  rw [if_pos h1,h2]
theorem spc_zero {n w : Nat} (ht : Tab n w) : spc n w 0 = ((2 ^ n : Nat) : Int) - 2 * ((cnt w : Nat) : Int) := by
  unfold spc
  rw [cnt_word ht.1 ht.2]
  have := dif_sum (fun x => w.testBit x) (fun _ => false) (2 ^ n)
  have e : sumI (fun x => sg (w.testBit x) * chi 0 x) (2 ^ n) = sumI (fun x => sg (w.testBit x) * sg false) (2 ^ n) := by
    refine sumI_congr fun x hx => ?_
    rw [chi_comm,chi_zero]
    rfl
  rw [e,this]
  congr 3
  exact cntN_congr fun x hx => Bool.xor_false _
theorem spc_le {n w u : Nat} (ht : Tab n w) (hu : u < 2 ^ n) : -((2 ^ n : Nat) : Int) ≤ spc n w u ∧ spc n w u ≤ ((2 ^ n : Nat) : Int) := by
  obtain ⟨h0,h1⟩ := spc_dist ht hu
  have := dist_le ht u 0
  have := dist_le ht u 1
  omega
theorem near_peak {n w u b : Nat} {p : Int} (ht : Tab n w) (hu : u < 2 ^ n) (hb : b ≤ 1) (hmin : ∀ u' b' : Nat,u' < 2 ^ n → b' ≤ 1 → dist n w u b ≤ dist n w u' b') (h1 : ∃ v,v < 2 ^ n ∧ (spc n w v = p ∨ spc n w v = -p)) (h2 : ∀ v,v < 2 ^ n → spc n w v ≤ p ∧ -spc n w v ≤ p) : 2 * ((dist n w u b : Nat) : Int) = ((2 ^ n : Nat) : Int) - p := by
  obtain ⟨v,hv,hp⟩ := h1
  obtain ⟨a0,a1⟩ := spc_dist ht hv
  obtain ⟨c0,c1⟩ := spc_dist ht hu
  have m0 := hmin v 0 hv (by decide)
  have m1 := hmin v 1 hv (by decide)
  have q := h2 u hu
  rcases (show b = 0 ∨ b = 1 by omega) with rfl | rfl <;> rcases hp with e | e <;> omega
def peakN (n w : Nat) : Nat → Int
  | 0 => 0
  | m + 1 => max (peakN n w m) (max (spc n w m) (-spc n w m))
theorem peakN_is (n w : Nat) : ∀ m,0 ≤ peakN n w m ∧ (∀ v,v < m → spc n w v ≤ peakN n w m ∧ -spc n w v ≤ peakN n w m) ∧ (0 < m → ∃ v,v < m ∧ (spc n w v = peakN n w m ∨ spc n w v = -peakN n w m)) := by
  intro m
  induction m with
  | zero => exact ⟨Int.le_refl _,fun v hv => by omega,fun h => by omega⟩
  | succ m ih =>
    obtain ⟨h0,h1,h2⟩ := ih
    rw [peakN]
    refine ⟨by omega,fun v hv => ?_,fun _ => ?_⟩
    · by_cases e : v = m
      · subst e;omega
      · have := h1 v (by omega);omega
    · by_cases hb : peakN n w m < max (spc n w m) (-spc n w m)
      · exact ⟨m,by omega,by omega⟩
      · by_cases hm : m = 0
        · subst hm
          exact ⟨0,by omega,by show spc n w 0 = max 0 _ ∨ spc n w 0 = -(max 0 _);have : peakN n w 0 = 0 := rfl;omega⟩
        · obtain ⟨v,hv,e⟩ := h2 (by omega)
          refine ⟨v,by omega,?_⟩
          rw [show max (peakN n w m) (max (spc n w m) (-spc n w m)) = peakN n w m by omega]
          exact e
theorem nonlin_is {n w u b : Nat} (ht : Tab n w) (hu : u < 2 ^ n) (hb : b ≤ 1) (hmin : ∀ u' b' : Nat,u' < 2 ^ n → b' ≤ 1 → dist n w u b ≤ dist n w u' b') : 2 * ((dist n w u b : Nat) : Int) = ((2 ^ n : Nat) : Int) - peakN n w (2 ^ n) := by
  obtain ⟨_,h1,h2⟩ := peakN_is n w (2 ^ n)
  exact near_peak ht hu hb hmin (h2 (pow_pos n)) h1
end Go.Proofs.Ytflacbjpeecjcaa.U
