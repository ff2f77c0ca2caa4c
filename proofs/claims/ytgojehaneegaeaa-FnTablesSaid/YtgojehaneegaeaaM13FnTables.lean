/- Walks of Go functions and lemmas on what they compute, for the row of FnTables (a part of several): each call ends as the Lean function of its name tells; the conditions are those of each theorem. -/
import Derived.Test.YtgojehaneegaeaaM1FnTables
import Derived.Test.YtgojehaneegaeaaM2FnTables
import Derived.Test.YtgojehaneegaeaaM3FnTables
import Derived.Test.YtgojehaneegaeaaM4FnTables
import Derived.Test.YtgojehaneegaeaaM5FnTables
import Derived.Test.YtgojehaneegaeaaM6FnTables
import Derived.Test.YtgojehaneegaeaaM7FnTables
import Derived.Test.YtgojehaneegaeaaM8FnTables
import Derived.Test.YtgojehaneegaeaaM9FnTables
import Derived.Test.YtgojehaneegaeaaM10FnTables
import Derived.Test.YtgojehaneegaeaaM11FnTables
import Derived.Test.YtgojehaneegaeaaM12FnTables
namespace Go.Proofs.Ytgojehaneegaeaa.U
open Go.RowKit Go.Proofs.YtgojehaneegaeaaW.PrintWords Go.Proofs.YtgojehaneegaeaaW.PrintLast Go.Proofs.YtgojehaneegaeaaW.PrintMore Go.Proofs.Ytgojehaneegaeaa.F Go.Proofs.Ytgojehaneegaeaa.B
set_option linter.unusedVariables false
set_option linter.unusedSimpArgs false
def isTab (a b : Int) : Bool := decide (0 ≤ a ∧ a ≤ 5 ∧ 0 ≤ b ∧ b < 2 ^ 2 ^ a.toNat)
theorem isTab_of {n w : Nat} (h : Tab n w) : isTab n w = true := by
  unfold isTab
  have h2 : (w : Int) < 2 ^ 2 ^ n := by exact_mod_cast h.2
  exact decide_eq_true ⟨by omega,by have := h.1;omega,by omega,by simpa using h2⟩
theorem tab_of {a b : Int} (h : isTab a b = true) : ∃ n w : Nat,a = n ∧ b = w ∧ Tab n w := by
  have h := of_decide_eq_true h
  obtain ⟨n,rfl⟩ := Int.eq_ofNat_of_zero_le h.1
  obtain ⟨w,rfl⟩ := Int.eq_ofNat_of_zero_le h.2.2.1
  refine ⟨n,w,rfl,rfl,by omega,?_⟩
  have h2 := h.2.2.2
  rw [Int.toNat_natCast] at h2
  exact_mod_cast h2
theorem spec_isTable (a b : Int) : spec_IsTable.f a b = some (isTab a b) := rfl
theorem size_some {n : Nat} (v : Int) (hn : n ≤ 62) : impl_Table_size.f n v = some ((2 ^ n : Nat) : Int) := by
  unfold impl_Table_size.f
  rw [if_pos (by omega),shl1_of (by omega)]
theorem at_some' {n : Int} {w x : Nat} (hw : w < 9223372036854775808) (hx : x ≤ 64) : impl_Table_at.f n w x = some ((bitN w x : Nat) : Int) := by
  unfold impl_Table_at.f
  rw [if_pos (by omega),bit_cast hw hx]
theorem shr_zero_iff {w m : Nat} : w >>> m = 0 ↔ w < 2 ^ m := by
  rw [Nat.shiftRight_eq_div_pow,Nat.div_eq_zero_iff]
  have := pow_pos m
  omega
theorem impl_isTable {a b : Int} (h0 : -9223372036854775808 ≤ b) (h1 : b ≤ 9223372036854775807) : impl_IsTable.f a b = some (isTab a b) := by
  have hb : impl_isBits.f a = some (decide (0 ≤ a ∧ a ≤ 5)) := by
    unfold impl_isBits.f
    by_cases h : a ≥ 0
    · rw [if_pos h];congr 1;exact decide_eq_decide.mpr (by omega)
    · rw [if_neg h];congr 1;symm;exact decide_eq_false (by omega)
  unfold impl_IsTable.f
  rw [hb]
  simp only [Option.bind_some,decide_eq_true_eq]
  by_cases h : 0 ≤ a ∧ a ≤ 5
  · rw [if_pos h]
    by_cases hb0 : b ≥ 0
    · rw [if_pos hb0]
      obtain ⟨n,rfl⟩ := Int.eq_ofNat_of_zero_le h.1
      obtain ⟨w,rfl⟩ := Int.eq_ofNat_of_zero_le hb0
      have hM := pow_le (n := n) (by omega)
      rw [size_some _ (by omega)]
      simp only [Option.bind_some]
      rw [if_pos (Int.natCast_nonneg _),shr_cast w _ (by omega)]
      congr 1
      unfold isTab
      apply Bool.eq_iff_iff.mpr
      rw [beq_iff_eq,decide_eq_true_eq,Int.toNat_natCast]
      have e := @shr_zero_iff w (2 ^ n)
      constructor
      · intro hz
        have hz : w >>> 2 ^ n = 0 := by exact_mod_cast hz
        have := e.mp hz
        exact ⟨h.1,h.2,hb0,by exact_mod_cast this⟩
      · intro hh
        have hh := hh.2.2.2
        have := e.mpr (by exact_mod_cast hh)
        exact_mod_cast this
    · rw [if_neg hb0]
      congr 1;symm
      exact decide_eq_false (by omega)
  · rw [if_neg h]
    congr 1;symm
    exact decide_eq_false (by omega)
end Go.Proofs.Ytgojehaneegaeaa.U
namespace Go.Proofs.Ytgojehaneegaeaa.U
open Go.RowKit Go.Proofs.YtgojehaneegaeaaW.PrintWords Go.Proofs.YtgojehaneegaeaaW.PrintLast Go.Proofs.YtgojehaneegaeaaW.PrintMore Go.Proofs.Ytgojehaneegaeaa.F Go.Proofs.Ytgojehaneegaeaa.B
set_option linter.unusedVariables false
set_option linter.unusedSimpArgs false
theorem full_some {n : Nat} (hn : n ≤ 5) : spec_l2Full.f n = some (((2 ^ 2 ^ n - 1 : Nat)) : Int) := by
  unfold spec_l2Full.f
  rw [if_pos (by omega),Int.toNat_natCast]
  congr 1
  have := pow_pos (2 ^ n)
  rw [Int.natCast_sub (by omega)]
  simp
def notW (n w : Nat) : Nat := 2 ^ 2 ^ n - 1 - w
theorem notW_lt (n w : Nat) : notW n w < 2 ^ 2 ^ n := by unfold notW;have := pow_pos (2 ^ n);omega
theorem testBit_notW {n w : Nat} (h : w < 2 ^ 2 ^ n) (x : Nat) : (notW n w).testBit x = (decide (x < 2 ^ n) && !w.testBit x) := by
  unfold notW
  rw [Nat.sub_sub,Nat.add_comm 1 w,Nat.testBit_two_pow_sub_succ h]
theorem xor_full {n w : Nat} (h : w < 2 ^ 2 ^ n) : w ^^^ (2 ^ 2 ^ n - 1) = notW n w := by
  have h2 := pow_pos (2 ^ n)
  refine word_ext (m := 2 ^ n) (Nat.xor_lt_two_pow h (by omega)) (notW_lt n w) fun i hi => ?_
  rw [Nat.testBit_xor,testBit_notW h,Nat.testBit_two_pow_sub_one]
  cases w.testBit i <;> simp [hi]
theorem not_some {n w : Nat} (h : Tab n w) : impl_Table_not.f n w = some ((n : Int),((notW n w : Nat) : Int)) := by
  have hM := pow_le h.1
  have hF := full_le h.1
  have h2 := pow_pos (2 ^ n)
  unfold impl_Table_not.f
  rw [size_some _ (by have := h.1;omega)]
  simp only [Option.bind_some]
  rw [if_pos (Int.natCast_nonneg _),shl1_of (by omega)]
  have e : wrap64 (((2 ^ 2 ^ n : Nat) : Int) - 1) = ((2 ^ 2 ^ n - 1 : Nat) : Int) := by rw [wrap64_of (by omega) (by omega)];omega
  rw [e,xor_cast h.lt63 (by omega),xor_full h.2]
end Go.Proofs.Ytgojehaneegaeaa.U
namespace Go.Proofs.Ytgojehaneegaeaa.U
open Go.RowKit Go.Proofs.YtgojehaneegaeaaW.PrintWords Go.Proofs.YtgojehaneegaeaaW.PrintLast Go.Proofs.YtgojehaneegaeaaW.PrintMore Go.Proofs.Ytgojehaneegaeaa.F Go.Proofs.Ytgojehaneegaeaa.B
set_option linter.unusedVariables false
set_option linter.unusedSimpArgs false
def cnt (w : Nat) : Nat := cntN (fun i => w.testBit i) 32
theorem cnt_le (w : Nat) : cnt w ≤ 32 := cntN_le _ _
theorem cntN_add (p : Nat → Bool) (m : Nat) : ∀ n,cntN p (m + n) = cntN p m + cntN (fun i => p (m + i)) n := by
  intro n
  induction n with
  | zero => rfl
  | succ n ih => rw [← Nat.add_assoc,cntN,cntN,ih];omega
theorem cntN_first (p : Nat → Bool) (n : Nat) : cntN p (n + 1) = (p 0).toNat + cntN (fun i => p (i + 1)) n := by
  rw [Nat.add_comm,cntN_add]
  simp only [cntN,Nat.zero_add]
  congr 2
  funext i
  rw [Nat.add_comm]
theorem cntN_zero {p : Nat → Bool} (h : ∀ i,p i = false) : ∀ n,cntN p n = 0 := by
  intro n
  induction n with
  | zero => rfl
  | succ n ih => rw [cntN,ih,h];rfl
theorem ref_loop : ∀ (n k a x : Nat),x < 2 ^ n → n < k → a + n < 9223372036854775808 → x < 9223372036854775808 →
    spec_l2Count.l0 k (a : Int) (x : Int) = some ((a + cntN (fun i => x.testBit i) n : Nat) : Int) := by
  intro n
  induction n with
  | zero =>
    intro k a x hx hk ha _
    obtain ⟨k,rfl⟩ : ∃ m,k = m + 1 := ⟨k - 1,by omega⟩
    obtain rfl : x = 0 := by simpa using hx
    simp only [spec_l2Count.l0]
    rw [if_neg (by omega)]
    rfl
  | succ n ih =>
    intro k a x hx hk ha hx63
    obtain ⟨k,rfl⟩ : ∃ m,k = m + 1 := ⟨k - 1,by omega⟩
    simp only [spec_l2Count.l0]
    by_cases h0 : (x : Int) > 0
    · have hb : Go.bits .and .i64 (x : Int) 1 = ((bitN x 0 : Nat) : Int) := by
        rw [← shr_and_one,Nat.shiftRight_zero]
        exact and_cast (b := 1) hx63 (by decide)
      have h1 := bitN_le x 0
      rw [if_pos h0,hb,show wrap64 ((a : Int) + ((bitN x 0 : Nat) : Int)) = ((a + bitN x 0 : Nat) : Int) by rw [wrap64_of (by omega) (by omega)];omega,show ((x : Int) / 2) = ((x / 2 : Nat) : Int) by simp]
      rw [ih k (a + bitN x 0) (x / 2) (by rw [Nat.pow_succ] at hx;omega) (by omega) (by omega) (by omega),cntN_first]
      congr 2
      have e : (fun i => (x / 2).testBit i) = fun i => x.testBit (i + 1) := by funext i;rw [Nat.testBit_succ]
      rw [e]
      show a + (x.testBit 0).toNat + _ = _
      omega
    · obtain rfl : x = 0 := by omega
      rw [if_neg h0,cntN_zero (fun i => Nat.zero_testBit i)]
      rfl
theorem cnt_ref {x k : Nat} (hx : x < 4294967296) (hk : 33 ≤ k) : spec_l2Count.f k x = some ((cnt x : Nat) : Int) := by
  have h := ref_loop 32 k 0 x hx (by omega) (by omega) (by omega)
  rw [Nat.zero_add] at h
  exact h
theorem land_lane (k : Nat) {a c : Nat} (b d : Nat) (ha : a < 2 ^ k) (hc : c < 2 ^ k) : (a + 2 ^ k * b) &&& (c + 2 ^ k * d) = (a &&& c) + 2 ^ k * (b &&& d) := by
  have hac : a &&& c < 2 ^ k := Nat.and_lt_two_pow _ hc
  apply Nat.eq_of_testBit_eq
  intro i
  rw [Nat.testBit_and,Nat.add_comm a,Nat.add_comm c,Nat.add_comm (a &&& c),Nat.testBit_two_pow_mul_add _ ha,Nat.testBit_two_pow_mul_add _ hc,Nat.testBit_two_pow_mul_add _ hac]
  split
  · rw [Nat.testBit_and]
  · rw [Nat.testBit_and]
theorem lane_bit (a y i : Nat) (ha : a < 256) : (a + 256 * y).testBit (8 + i) = y.testBit i ∧ (i < 8 → (a + 256 * y).testBit i = a.testBit i) := by
  have h : ∀ j,(a + 256 * y).testBit j = if j < 8 then a.testBit j else y.testBit (j - 8) := fun j => by
    rw [Nat.add_comm];exact Nat.testBit_two_pow_mul_add y (i := 8) ha j
  constructor
  · rw [h,if_neg (by omega),show 8 + i - 8 = i by omega]
  · intro hi;rw [h,if_pos hi]
def cnt8 (a : Nat) : Nat := cntN (fun i => a.testBit i) 8
theorem cnt_lane (a y n : Nat) (ha : a < 256) : cntN (fun i => (a + 256 * y).testBit i) (8 + n) = cnt8 a + cntN (fun i => y.testBit i) n := by
  rw [cntN_add]
  congr 1
  · exact cntN_congr fun i hi => (lane_bit a y i ha).2 hi
  · exact cntN_congr fun i _ => (lane_bit a y i ha).1
theorem byte_split {n x : Nat} (hx : x < 256 * n) : ∃ a y,x = a + 256 * y ∧ a < 256 ∧ y < n := ⟨x % 256,x / 256,by omega,by omega,by omega⟩
theorem bytes_of {x : Nat} (hx : x < 4294967296) : ∃ a b c d,x = a + 256 * (b + 256 * (c + 256 * d)) ∧ a < 256 ∧ b < 256 ∧ c < 256 ∧ d < 256 := by
  obtain ⟨a,y,rfl,ha,hy⟩ := byte_split (n := 16777216) (x := x) (by omega)
  obtain ⟨b,z,rfl,hb,hz⟩ := byte_split (n := 65536) (x := y) (by omega)
  obtain ⟨c,d,rfl,hc,hd⟩ := byte_split (n := 256) (x := z) (by omega)
  exact ⟨a,b,c,d,rfl,ha,hb,hc,hd⟩
theorem cnt_bytes {a b c d : Nat} (ha : a < 256) (hb : b < 256) (hc : c < 256) (hd : d < 256) : cnt (a + 256 * (b + 256 * (c + 256 * d))) = cnt8 a + cnt8 b + cnt8 c + cnt8 d := by
  have h1 : cnt (a + 256 * (b + 256 * (c + 256 * d))) = cnt8 a + cntN (fun i => (b + 256 * (c + 256 * d)).testBit i) 24 := cnt_lane a _ 24 ha
  have h2 : cntN (fun i => (b + 256 * (c + 256 * d)).testBit i) 24 = cnt8 b + cntN (fun i => (c + 256 * d).testBit i) 16 := cnt_lane b _ 16 hb
  have h3 : cntN (fun i => (c + 256 * d).testBit i) 16 = cnt8 c + cnt8 d := cnt_lane c d 8 hc
  rw [h1,h2,h3,Nat.add_assoc,Nat.add_assoc]
def t1 (a : Nat) : Nat := (a / 2 &&& 85) + (a &&& 85)
def t2 (a : Nat) : Nat := (a / 4 &&& 51) + (a &&& 51)
def t3 (a : Nat) : Nat := (a / 16 + a) &&& 15
theorem t_facts {a : Nat} (ha : a < 256) : t1 a < 256 ∧ t2 (t1 a) ≤ 68 ∧ t2 (t1 a) % 16 ≤ 4 ∧ t3 (t2 (t1 a)) = cnt8 a ∧ cnt8 a ≤ 8 := by
  have h : ∀ a : Fin 256,t1 a.val < 256 ∧ t2 (t1 a.val) ≤ 68 ∧ t2 (t1 a.val) % 16 ≤ 4 ∧ t3 (t2 (t1 a.val)) = cnt8 a.val ∧ cnt8 a.val ≤ 8 := by decide +kernel
  exact h ⟨a,ha⟩
theorem mask1 {a b : Nat} (ha : a < 256) : (a / 2 + 128 * (b % 2)) &&& 85 = a / 2 &&& 85 := by
  have h : ∀ a : Fin 256,∀ b : Fin 2,(a.val / 2 + 128 * b.val) &&& 85 = a.val / 2 &&& 85 := by decide +kernel
  exact h ⟨a,ha⟩ ⟨b % 2,by omega⟩
theorem mask2 {a b : Nat} (ha : a < 256) : (a / 4 + 64 * (b % 4)) &&& 51 = a / 4 &&& 51 := by
  have h : ∀ a : Fin 256,∀ b : Fin 4,(a.val / 4 + 64 * b.val) &&& 51 = a.val / 4 &&& 51 := by decide +kernel
  exact h ⟨a,ha⟩ ⟨b % 4,by omega⟩
theorem mask3 {a b : Nat} (ha : a ≤ 68) (hb : b ≤ 4) : (a / 16 + a + 16 * b) &&& 15 = (a / 16 + a) &&& 15 := by
  have h : ∀ a : Fin 69,∀ b : Fin 5,(a.val / 16 + a.val + 16 * b.val) &&& 15 = (a.val / 16 + a.val) &&& 15 := by decide +kernel
  exact h ⟨a,by omega⟩ ⟨b,by omega⟩
theorem step1 {a y d : Nat} (ha : a < 256) : ((a + 256 * y) / 2 &&& (85 + 256 * d)) + ((a + 256 * y) &&& (85 + 256 * d)) = t1 a + 256 * ((y / 2 &&& d) + (y &&& d)) := by
  have e1 := land_lane 8 (a := a) (c := 85) y d ha (by decide)
  have e2 := land_lane 8 (a := a / 2 + 128 * (y % 2)) (c := 85) (y / 2) d (by show _ < 256;omega) (by decide)
  have e3 := mask1 (b := y) ha
  have e4 : (a + 256 * y) / 2 = a / 2 + 128 * (y % 2) + 2 ^ 8 * (y / 2) := by show _ = _ + 256 * _;omega
  have e5 : a + 256 * y = a + 2 ^ 8 * y := rfl
  have e6 : 85 + 256 * d = 85 + 2 ^ 8 * d := rfl
  rw [e4,e6,e2,e5,e1,e3]
  unfold t1
  show _ + 256 * _ + (_ + 256 * _) = _
  omega
theorem step2 {a y d : Nat} (ha : a < 256) : ((a + 256 * y) / 4 &&& (51 + 256 * d)) + ((a + 256 * y) &&& (51 + 256 * d)) = t2 a + 256 * ((y / 4 &&& d) + (y &&& d)) := by
  have e1 := land_lane 8 (a := a) (c := 51) y d ha (by decide)
  have e2 := land_lane 8 (a := a / 4 + 64 * (y % 4)) (c := 51) (y / 4) d (by show _ < 256;omega) (by decide)
  have e3 := mask2 (b := y) ha
  have e4 : (a + 256 * y) / 4 = a / 4 + 64 * (y % 4) + 2 ^ 8 * (y / 4) := by show _ = _ + 256 * _;omega
  have e5 : a + 256 * y = a + 2 ^ 8 * y := rfl
  have e6 : 51 + 256 * d = 51 + 2 ^ 8 * d := rfl
  rw [e4,e6,e2,e5,e1,e3]
  unfold t2
  show _ + 256 * _ + (_ + 256 * _) = _
  omega
theorem step3 {a y d : Nat} (ha : a ≤ 68) (hy : y % 16 ≤ 4) : ((a + 256 * y) / 16 + (a + 256 * y)) &&& (15 + 256 * d) = t3 a + 256 * ((y / 16 + y) &&& d) := by
  have e2 := land_lane 8 (a := a / 16 + a + 16 * (y % 16)) (c := 15) (y / 16 + y) d (by show _ < 256;omega) (by decide)
  have e3 := mask3 ha hy
  have e4 : (a + 256 * y) / 16 + (a + 256 * y) = a / 16 + a + 16 * (y % 16) + 2 ^ 8 * (y / 16 + y) := by show _ = _ + 256 * _;omega
  have e6 : 15 + 256 * d = 15 + 2 ^ 8 * d := rfl
  rw [e4,e6,e2,e3]
  rfl
theorem and_low {x c : Nat} (hx : x < 4294967296) : x &&& (c % 4294967296 + 4294967296 * (c / 4294967296)) = x &&& (c % 4294967296) := by
  have e := land_lane 32 (a := x) (c := c % 4294967296) 0 (c / 4294967296) hx (Nat.mod_lt _ (by decide))
  rw [Nat.mul_zero,Nat.add_zero,Nat.zero_and,Nat.mul_zero,Nat.add_zero] at e
  exact e
theorem low0 {x : Nat} (hx : x < 4294967296) : x &&& 6148914691236517205 = x &&& (85 + 256 * (85 + 256 * (85 + 256 * 85))) := and_low (c := 6148914691236517205) hx
theorem low1 {x : Nat} (hx : x < 4294967296) : x &&& 3689348814741910323 = x &&& (51 + 256 * (51 + 256 * (51 + 256 * 51))) := and_low (c := 3689348814741910323) hx
theorem low2 {x : Nat} (hx : x < 4294967296) : x &&& 1085102592571150095 = x &&& (15 + 256 * (15 + 256 * (15 + 256 * 15))) := and_low (c := 1085102592571150095) hx
theorem andu_cast {a b : Nat} (ha : a < 9223372036854775808) (hb : b < 9223372036854775808) : Go.bits .and .u64 (a : Int) (b : Int) = ((a &&& b : Nat) : Int) := by
  have h := Nat.and_lt_two_pow a (lt63 hb)
  have e : (BitVec.ofNat 64 a &&& BitVec.ofNat 64 b).toNat = a &&& b := by rw [BitVec.toNat_and,BitVec.toNat_ofNat,BitVec.toNat_ofNat,mod64 ha,mod64 hb]
  simp only [Go.bits,IntKind.bits,BitVec.ofInt_natCast]
  exact (congrArg (fun m : Nat => IntKind.u64.wrap (m : Int)) e).trans (wrapu_of (n := ((a &&& b : Nat) : Int)) (by omega) (by omega))
theorem wrapu_cast {n : Nat} (h : n < 18446744073709551616) : IntKind.u64.wrap (n : Int) = n := wrapu_of (by omega) (by omega)
theorem stage1 {x : Nat} (hx : x < 4294967296) : IntKind.u64.wrap (Go.bits .and .u64 ((x : Int) / 2) 6148914691236517205 + Go.bits .and .u64 (x : Int) 6148914691236517205) = (((x / 2 &&& 6148914691236517205) + (x &&& 6148914691236517205) : Nat) : Int) := by
  have h1 : x / 2 &&& 6148914691236517205 ≤ x / 2 := Nat.and_le_left
  have h2 : x &&& 6148914691236517205 ≤ x := Nat.and_le_left
  have e1 : Go.bits .and .u64 ((x : Int) / 2) 6148914691236517205 = ((x / 2 &&& 6148914691236517205 : Nat) : Int) := andu_cast (a := x / 2) (b := 6148914691236517205) (by omega) (by decide)
  have e2 : Go.bits .and .u64 (x : Int) 6148914691236517205 = ((x &&& 6148914691236517205 : Nat) : Int) := andu_cast (b := 6148914691236517205) (by omega) (by decide)
  rw [e1,e2,← Int.natCast_add,wrapu_cast (by omega)]
theorem stage2 {x : Nat} (hx : x < 4294967296) : IntKind.u64.wrap (Go.bits .and .u64 ((x : Int) / 4) 3689348814741910323 + Go.bits .and .u64 (x : Int) 3689348814741910323) = (((x / 4 &&& 3689348814741910323) + (x &&& 3689348814741910323) : Nat) : Int) := by
  have h1 : x / 4 &&& 3689348814741910323 ≤ x / 4 := Nat.and_le_left
  have h2 : x &&& 3689348814741910323 ≤ x := Nat.and_le_left
  have e1 : Go.bits .and .u64 ((x : Int) / 4) 3689348814741910323 = ((x / 4 &&& 3689348814741910323 : Nat) : Int) := andu_cast (a := x / 4) (b := 3689348814741910323) (by omega) (by decide)
  have e2 : Go.bits .and .u64 (x : Int) 3689348814741910323 = ((x &&& 3689348814741910323 : Nat) : Int) := andu_cast (b := 3689348814741910323) (by omega) (by decide)
  rw [e1,e2,← Int.natCast_add,wrapu_cast (by omega)]
theorem stage3 {x : Nat} (hx : x < 4294967296) : Go.bits .and .u64 (IntKind.u64.wrap ((x : Int) / 16 + (x : Int))) 1085102592571150095 = (((x / 16 + x) &&& 1085102592571150095 : Nat) : Int) := by
  rw [show ((x : Int) / 16 + (x : Int)) = ((x / 16 + x : Nat) : Int) by simp,wrapu_cast (by omega)]
  exact andu_cast (b := 1085102592571150095) (by omega) (by decide)
theorem stage4 {x : Nat} (n : Nat) (hx : x < 4294967296) : IntKind.u64.wrap ((x : Int) + (x : Int) / (n : Int)) = ((x + x / n : Nat) : Int) := by
  have : x / n ≤ x := Nat.div_le_self _ _
  rw [show ((x : Int) + (x : Int) / (n : Int)) = ((x + x / n : Nat) : Int) by simp,wrapu_cast (by omega)]
theorem cnt_ones {x : Nat} (hx : x < 4294967296) : impl_ones.f x = some ((cnt x : Nat) : Int) := by
  obtain ⟨a,b,c,d,rfl,ha,hb,hc,hd⟩ := bytes_of hx
  obtain ⟨a1,a2,a3,a4,a5⟩ := t_facts ha
  obtain ⟨b1,b2,b3,b4,b5⟩ := t_facts hb
  obtain ⟨c1,c2,c3,c4,c5⟩ := t_facts hc
  obtain ⟨d1,d2,d3,d4,d5⟩ := t_facts hd
  rw [cnt_bytes ha hb hc hd]
  have f1 := stage1 hx
  rw [low0 hx,low0 (x := (a + 256 * (b + 256 * (c + 256 * d))) / 2) (by omega),step1 ha,step1 hb,step1 hc,show (d / 2 &&& 85) + (d &&& 85) = t1 d from rfl] at f1
  have g1 : t1 a + 256 * (t1 b + 256 * (t1 c + 256 * t1 d)) < 4294967296 := by omega
  have f2 := stage2 g1
  rw [low1 g1,low1 (x := (t1 a + 256 * (t1 b + 256 * (t1 c + 256 * t1 d))) / 4) (by omega),step2 a1,step2 b1,step2 c1,show (t1 d / 4 &&& 51) + (t1 d &&& 51) = t2 (t1 d) from rfl] at f2
  have g2 : t2 (t1 a) + 256 * (t2 (t1 b) + 256 * (t2 (t1 c) + 256 * t2 (t1 d))) < 2000000000 := by omega
  have f3 := stage3 (x := t2 (t1 a) + 256 * (t2 (t1 b) + 256 * (t2 (t1 c) + 256 * t2 (t1 d)))) (by omega)
  rw [low2 (x := (t2 (t1 a) + 256 * (t2 (t1 b) + 256 * (t2 (t1 c) + 256 * t2 (t1 d)))) / 16 + (t2 (t1 a) + 256 * (t2 (t1 b) + 256 * (t2 (t1 c) + 256 * t2 (t1 d))))) (by omega),step3 a2 (by omega),step3 b2 (by omega),step3 c2 (by omega),show (t2 (t1 d) / 16 + t2 (t1 d)) &&& 15 = t3 (t2 (t1 d)) from rfl,a4,b4,c4,d4] at f3
  unfold impl_ones.f bits_OnesCount64.f
  rw [wrapu_cast (n := a + 256 * (b + 256 * (c + 256 * d))) (by omega),f1,f2,f3]
  clear f1 f2 f3 g1 g2 a1 a2 a3 a4 b1 b2 b3 b4 c1 c2 c3 c4 d1 d2 d3 d4 hx
  generalize cnt8 a = p at a5 ⊢
  generalize cnt8 b = q at b5 ⊢
  generalize cnt8 c = r at c5 ⊢
  generalize cnt8 d = s at d5 ⊢
  have h1 := stage4 (x := p + 256 * (q + 256 * (r + 256 * s))) 256 (by omega)
  have h2 := stage4 (x := p + 256 * (q + 256 * (r + 256 * s)) + (p + 256 * (q + 256 * (r + 256 * s))) / 256) 65536 (by omega)
  rw [show ((p + 256 * (q + 256 * (r + 256 * s)) + (p + 256 * (q + 256 * (r + 256 * s))) / 256) + (p + 256 * (q + 256 * (r + 256 * s)) + (p + 256 * (q + 256 * (r + 256 * s))) / 256) / 65536) = (p + q + r + s) + 256 * ((q + r + s) + 256 * ((r + s) + 256 * s)) by omega] at h2
  have h3 := stage4 (x := (p + q + r + s) + 256 * ((q + r + s) + 256 * ((r + s) + 256 * s))) 4294967296 (by omega)
  rw [show (p + q + r + s) + 256 * ((q + r + s) + 256 * ((r + s) + 256 * s)) + ((p + q + r + s) + 256 * ((q + r + s) + 256 * ((r + s) + 256 * s))) / 4294967296 = (p + q + r + s) + 256 * ((q + r + s) + 256 * ((r + s) + 256 * s)) by omega] at h3
  have e1 : ((256 : Nat) : Int) = 256 := rfl
  have e2 : ((65536 : Nat) : Int) = 65536 := rfl
  have e3 : ((4294967296 : Nat) : Int) = 4294967296 := rfl
  rw [e1] at h1
  rw [e2] at h2
  rw [e3] at h3
  rw [h1,h2,h3,wrap64_cast (by omega)]
  have e4 : Go.bits .and .i64 (((p + q + r + s) + 256 * ((q + r + s) + 256 * ((r + s) + 256 * s)) : Nat) : Int) 127 = ((((p + q + r + s) + 256 * ((q + r + s) + 256 * ((r + s) + 256 * s))) &&& 127 : Nat) : Int) := and_cast (b := 127) (by omega) (by decide)
  rw [e4,show (127 : Nat) = 2 ^ 7 - 1 from rfl,Nat.and_two_pow_sub_one_eq_mod,Option.bind_some]
  congr 2
  show _ % 128 = _
  omega
def resW (m w i b : Nat) : Nat := tabN (fun x => w.testBit (ins x i b)) (2 ^ m)
end Go.Proofs.Ytgojehaneegaeaa.U
namespace Go.Proofs.Ytgojehaneegaeaa.U
open Go.RowKit Go.Proofs.YtgojehaneegaeaaW.PrintWords Go.Proofs.YtgojehaneegaeaaW.PrintLast Go.Proofs.YtgojehaneegaeaaW.PrintMore Go.Proofs.Ytgojehaneegaeaa.F Go.Proofs.Ytgojehaneegaeaa.B
set_option linter.unusedVariables false
set_option linter.unusedSimpArgs false
end Go.Proofs.Ytgojehaneegaeaa.U
namespace Go.Proofs.Ytgojehaneegaeaa.U
open Go.RowKit Go.Proofs.YtgojehaneegaeaaW.PrintWords Go.Proofs.YtgojehaneegaeaaW.PrintLast Go.Proofs.YtgojehaneegaeaaW.PrintMore Go.Proofs.Ytgojehaneegaeaa.F Go.Proofs.Ytgojehaneegaeaa.B
set_option linter.unusedVariables false
set_option linter.unusedSimpArgs false
end Go.Proofs.Ytgojehaneegaeaa.U
namespace Go.Proofs.Ytgojehaneegaeaa.U
open Go.RowKit Go.Proofs.YtgojehaneegaeaaW.PrintWords Go.Proofs.YtgojehaneegaeaaW.PrintLast Go.Proofs.YtgojehaneegaeaaW.PrintMore Go.Proofs.Ytgojehaneegaeaa.F Go.Proofs.Ytgojehaneegaeaa.B
set_option linter.unusedVariables false
set_option linter.unusedSimpArgs false
set_option maxRecDepth 100000
end Go.Proofs.Ytgojehaneegaeaa.U
namespace Go.Proofs.Ytgojehaneegaeaa.U
open Go.RowKit Go.Proofs.YtgojehaneegaeaaW.PrintWords Go.Proofs.YtgojehaneegaeaaW.PrintLast Go.Proofs.YtgojehaneegaeaaW.PrintMore Go.Proofs.Ytgojehaneegaeaa.F Go.Proofs.Ytgojehaneegaeaa.B
set_option linter.unusedVariables false
set_option linter.unusedSimpArgs false
set_option maxRecDepth 100000
end Go.Proofs.Ytgojehaneegaeaa.U
namespace Go.Proofs.Ytgojehaneegaeaa.U
open Go.RowKit Go.Proofs.YtgojehaneegaeaaW.PrintWords Go.Proofs.YtgojehaneegaeaaW.PrintLast Go.Proofs.YtgojehaneegaeaaW.PrintMore Go.Proofs.Ytgojehaneegaeaa.F Go.Proofs.Ytgojehaneegaeaa.B
set_option linter.unusedVariables false
set_option linter.unusedSimpArgs false
def monoAt (n w i : Nat) : Bool := ldiff (resW (n - 1) w i 0) (resW (n - 1) w i 1) == 0
def mono (n w : Nat) : Bool := allN (monoAt n w) n
end Go.Proofs.Ytgojehaneegaeaa.U
namespace Go.Proofs.Ytgojehaneegaeaa.U
open Go.RowKit Go.Proofs.YtgojehaneegaeaaW.PrintWords Go.Proofs.YtgojehaneegaeaaW.PrintLast Go.Proofs.YtgojehaneegaeaaW.PrintMore Go.Proofs.Ytgojehaneegaeaa.F Go.Proofs.Ytgojehaneegaeaa.B
set_option linter.unusedVariables false
set_option linter.unusedSimpArgs false
theorem bit_eq_one {w x : Nat} : ((((bitN w x : Nat) : Int)) = 1) ↔ w.testBit x = true := by
  rw [← bitN_eq_one]
  exact ⟨fun h => by exact_mod_cast h,fun h => by exact_mod_cast h⟩
def varW (n i : Nat) : Nat := tabN (fun x => x.testBit i) (2 ^ n)
theorem varW_lt (n i : Nat) : varW n i < 2 ^ 2 ^ n := tabN_lt _ _
theorem var_loop {n i : Nat} (hn : n ≤ 5) (hi : i < 5) : ∀ d k x,x + d = 2 ^ n → d < k →
    spec_l2Variable.l0 k n i ((tabN (fun x => x.testBit i) x : Nat) : Int) x = some ((varW n i : Nat) : Int) := by
  have hM := pow_le hn
  intro d
  induction d with
  | zero =>
    intro k x hx hk
    obtain ⟨k,rfl⟩ : ∃ m,k = m + 1 := ⟨k - 1,by omega⟩
    obtain rfl : x = 2 ^ n := by omega
    simp only [spec_l2Variable.l0]
    rw [if_pos (by omega),shl1_of (by omega),if_neg (by omega)]
    rfl
  | succ d ih =>
    intro k x hx hk
    obtain ⟨k,rfl⟩ : ∃ m,k = m + 1 := ⟨k - 1,by omega⟩
    have hlt : x < 2 ^ n := by omega
    have hl := tabN_lt63 (fun x => x.testBit i) (m := x) (by omega)
    have hp := pow_lt (n := x) (m := 32) (by omega)
    have e := ih k (x + 1) (by omega) (by omega)
    simp only [spec_l2Variable.l0]
    rw [if_pos (by omega),shl1_of (by omega),if_pos (by exact_mod_cast hlt),if_pos (by omega),bit_cast (by omega) (by omega),wrap64_succ (by omega)]
    cases hb : x.testBit i with
    | true =>
      rw [tabN_true (p := fun x => x.testBit i) hb] at e
      rw [if_pos (bit_eq_one.mpr hb),if_pos (by omega),shl1_of (by omega),or_cast hl (by omega)]
      exact e
    | false =>
      rw [tabN_false (p := fun x => x.testBit i) hb] at e
      rw [if_neg (by rw [bit_eq_one,hb];decide)]
      exact e
theorem spec_var {n i k : Nat} (hn : n ≤ 5) (hi : i < 5) (hk : 32 < k) : spec_l2Variable.f k n i = some ((varW n i : Nat) : Int) := by
  have := pow_le hn
  exact var_loop hn hi (2 ^ n) k 0 (by omega) (by omega)
theorem and255 (a : Int) : ∃ x : Nat,x < 256 ∧ Go.bits .and .i64 a 255 = (x : Int) := by
  have hlt : (BitVec.ofInt 64 a).toNat &&& 255 < 256 := Nat.lt_of_le_of_lt Nat.and_le_right (by decide)
  refine ⟨(BitVec.ofInt 64 a).toNat &&& 255,hlt,?_⟩
  have e : (BitVec.ofInt 64 a &&& BitVec.ofInt 64 255).toNat = (BitVec.ofInt 64 a).toNat &&& 255 := by rw [BitVec.toNat_and];rfl
  simp only [Go.bits,IntKind.bits]
  exact (congrArg (fun m : Nat => IntKind.i64.wrap (m : Int)) e).trans (wrap_of (by omega) (by omega))
theorem byte_some {b : List Int} {i : Int} (h : Int) (hb : b.length ≤ 9223372036854775807) (hi : 0 ≤ i) : ∃ (x : Nat) (i' h' : Int),spec_l1Byte.f b i h = some ((x : Int),i',h') ∧ x < 256 ∧ 0 ≤ i' := by
  unfold spec_l1Byte.f
  by_cases hl : i < (b.length : Int)
  · rw [if_pos hl,if_pos hi]
    obtain ⟨x,hx,e⟩ := and255 (wrap64 ((Go.bits .and .i64 (Go.bits .xor .i64 ((wrap64 ((wrap64 (h * 6364136223846793005)) + 1442695040888963407)) / 8589934592) ((wrap64 ((wrap64 (h * 6364136223846793005)) + 1442695040888963407)) / 35184372088832)) 255) + (wrap64 (rd b i))))
    rw [e]
    exact ⟨x,_,_,rfl,hx,by rw [wrap64_of (by omega) (by omega)];omega⟩
  · rw [if_neg hl]
    obtain ⟨x,hx,e⟩ := and255 (Go.bits .xor .i64 ((wrap64 ((wrap64 (h * 6364136223846793005)) + 1442695040888963407)) / 8589934592) ((wrap64 ((wrap64 (h * 6364136223846793005)) + 1442695040888963407)) / 35184372088832))
    rw [e]
    exact ⟨x,_,_,rfl,hx,hi⟩
theorem four_bytes {x y z v : Nat} (hx : x < 256) (hy : y < 256) (hz : z < 256) (hv : v < 256) : 0 ≤ wrap64 ((wrap64 ((wrap64 ((wrap64 ((x : Int) * 16777216)) + (wrap64 ((y : Int) * 65536)))) + (wrap64 ((z : Int) * 256)))) + (v : Int)) := by
  obtain ⟨p,hp⟩ : ∃ p : Int,p = (x : Int) * 16777216 := ⟨_,rfl⟩
  obtain ⟨q,hq⟩ : ∃ q : Int,q = (y : Int) * 65536 := ⟨_,rfl⟩
  obtain ⟨r,hr⟩ : ∃ r : Int,r = (z : Int) * 256 := ⟨_,rfl⟩
  have p1 : 0 ≤ p ∧ p ≤ 4278190080 := by omega
  have q1 : 0 ≤ q ∧ q ≤ 16711680 := by omega
  have r1 : 0 ≤ r ∧ r ≤ 65280 := by omega
  rw [← hp,← hq,← hr,wrap64_of (n := p) (by omega) (by omega),wrap64_of (n := q) (by omega) (by omega),wrap64_of (n := r) (by omega) (by omega),wrap64_of (n := p + q) (by omega) (by omega),wrap64_of (n := p + q + r) (by omega) (by omega),wrap64_of (n := p + q + r + (v : Int)) (by omega) (by omega)]
  omega
theorem below_some {b : List Int} {i : Int} (h n : Int) (hb : b.length ≤ 9223372036854775807) (hi : 0 ≤ i) : ∃ (x i' h' : Int),spec_l1Below.f b i h n = some (x,i',h') ∧ 0 ≤ i' ∧ 0 ≤ x ∧ (0 < n → x < n) ∧ (n ≤ 0 → x = 0) := by
  unfold spec_l1Below.f
  by_cases h0 : n ≤ 0
  · rw [if_pos h0];exact ⟨0,i,h,rfl,hi,by omega,fun q => by omega,fun _ => rfl⟩
  · rw [if_neg h0]
    have hp : 0 < n := by omega
    by_cases h1 : n ≤ 256
    · obtain ⟨x,i1,h1',e,hx,hi1⟩ := byte_some h hb hi
      rw [if_pos h1,e,Option.bind_some,if_neg (by omega)]
      exact ⟨_,_,_,rfl,hi1,Int.tmod_nonneg n (Int.natCast_nonneg x),fun _ => Int.tmod_lt_of_pos _ hp,fun q => absurd q h0⟩
    · obtain ⟨x,i1,h1',e1,hx,hi1⟩ := byte_some h hb hi
      obtain ⟨y,i2,h2',e2,hy,hi2⟩ := byte_some h1' hb hi1
      obtain ⟨z,i3,h3',e3,hz,hi3⟩ := byte_some h2' hb hi2
      obtain ⟨v,i4,h4',e4,hv,hi4⟩ := byte_some h3' hb hi3
      rw [if_neg h1,e1,Option.bind_some,e2,Option.bind_some,e3,Option.bind_some,e4,Option.bind_some,if_neg (by omega)]
      exact ⟨_,_,_,rfl,hi4,Int.tmod_nonneg n (four_bytes hx hy hz hv),fun _ => Int.tmod_lt_of_pos _ hp,fun q => absurd q h0⟩
theorem once_some {b : List Int} {i : Int} (h n : Int) (hb : b.length ≤ 9223372036854775807) (hi : 0 ≤ i) : ∃ (x : Bool) (i' h' : Int),spec_l1Once.f b i h n = some (x,i',h') ∧ 0 ≤ i' := by
  obtain ⟨x,i1,h1,e,hi1,_⟩ := below_some h n hb hi
  unfold spec_l1Once.f
  rw [e,Option.bind_some]
  exact ⟨_,_,_,rfl,hi1⟩
theorem pick_some {b l : List Int} {i : Int} (h : Int) (hb : b.length ≤ 9223372036854775807) (hi : 0 ≤ i) (hl : 0 < l.length) : ∃ (x i' h' : Int),spec_l1PickInt.f b i h l = some (x,i',h') ∧ 0 ≤ i' ∧ x ∈ l := by
  obtain ⟨x,i1,h1,e,hi1,hx,hxl,_⟩ := below_some h (l.length : Int) hb hi
  have hlt := hxl (by omega)
  unfold spec_l1PickInt.f
  rw [e,Option.bind_some,if_pos hx,if_pos hlt]
  refine ⟨_,_,_,rfl,hi1,?_⟩
  obtain ⟨m,rfl⟩ := Int.eq_ofNat_of_zero_le hx
  show rd l (m : Int) ∈ l
  unfold rd
  have hm : m < l.length := by omega
  rw [Int.toNat_natCast,List.getD_eq_getElem?_getD,List.getElem?_eq_getElem hm]
  exact List.getElem_mem hm
theorem new_loop {b : List Int} (hb : b.length ≤ 9223372036854775807) : ∀ (d k : Nat) (h : Int) (x : Nat),x + d = 4000 → d < k → ∃ h' : Int,spec_l1New.l0 k b h x = some (b,0,h') := by
  intro d
  induction d with
  | zero =>
    intro k h x hx hk
    obtain ⟨k,rfl⟩ : ∃ m,k = m + 1 := ⟨k - 1,by omega⟩
    rw [spec_l1New.l0]
    by_cases hl : (x : Int) < (b.length : Int)
    · rw [if_pos hl,if_neg (by omega)];exact ⟨h,rfl⟩
    · rw [if_neg hl];exact ⟨h,rfl⟩
  | succ d ih =>
    intro k h x hx hk
    obtain ⟨k,rfl⟩ : ∃ m,k = m + 1 := ⟨k - 1,by omega⟩
    rw [spec_l1New.l0]
    by_cases hl : (x : Int) < (b.length : Int)
    · rw [if_pos hl,if_pos (by omega),if_pos (Int.natCast_nonneg _),wrap64_succ (by omega)]
      exact ih k _ (x + 1) (by omega) (by omega)
    · rw [if_neg hl];exact ⟨h,rfl⟩
theorem new_some {b : List Int} (hb : b.length ≤ 9223372036854775807) {k : Nat} (hk : 4000 < k) : ∃ h' : Int,spec_l1New.f k b = some (b,0,h') := new_loop hb 4000 k _ 0 (by omega) (by omega)
def TabR (n : Nat) (o : Option (Int × Int × Int × Int)) : Prop := ∃ (w i h : Int),o = some ((n : Int),w,i,h) ∧ 0 ≤ i ∧ 0 ≤ w ∧ w ≤ 4294967295 ∧ w ≤ ((2 ^ 2 ^ n - 1 : Nat) : Int)
theorem end_some {n : Nat} {w i h : Int} (hn : n ≤ 5) (hi : 0 ≤ i) (x : Nat) (hw : w = (x : Int)) (hx : x < 4294967296) : TabR n (if (n : Int) = 0 then ((spec_l2Full.f n).bind fun t => (some ((n : Int),Go.bits .and .i64 (Go.bits .and .i64 w 1) t,i,h))) else ((spec_l2Full.f n).bind fun t => (some ((n : Int),Go.bits .and .i64 w t,i,h)))) := by
  subst hw
  have hF := full_le hn
  have e1 : Go.bits .and .i64 ((x : Nat) : Int) 1 = ((x &&& 1 : Nat) : Int) := and_cast (b := 1) (by omega) (by decide)
  have l1 : x &&& 1 ≤ x := Nat.and_le_left
  split
  · rw [full_some hn,Option.bind_some,e1,and_cast (by omega) (by omega)]
    have l2 : (x &&& 1) &&& (2 ^ 2 ^ n - 1) ≤ x &&& 1 := Nat.and_le_left
    have l3 : (x &&& 1) &&& (2 ^ 2 ^ n - 1) ≤ 2 ^ 2 ^ n - 1 := Nat.and_le_right
    exact ⟨_,i,h,rfl,hi,Int.natCast_nonneg _,by omega,by omega⟩
  · rw [full_some hn,Option.bind_some,and_cast (by omega) (by omega)]
    have l2 : x &&& (2 ^ 2 ^ n - 1) ≤ x := Nat.and_le_left
    have l3 : x &&& (2 ^ 2 ^ n - 1) ≤ 2 ^ 2 ^ n - 1 := Nat.and_le_right
    exact ⟨_,i,h,rfl,hi,Int.natCast_nonneg _,by omega,by omega⟩
theorem or_lt32 {a b : Nat} (ha : a < 4294967296) (hb : b < 4294967296) : a ||| b < 4294967296 := Nat.or_lt_two_pow (n := 32) ha hb
theorem bit_lt32 {x : Nat} (hx : x < 32) : 2 ^ x < 4294967296 := Nat.lt_of_lt_of_le (Nat.pow_lt_pow_right (by decide) hx) (by decide)
theorem draw_l0 {n : Nat} {b : List Int} (hn : n ≤ 5) : ∀ (d k w x : Nat) (i h : Int),x + d = 2 ^ n → w < 4294967296 → 0 ≤ i → d + 40 < k → TabR n (spec_l2Draw.l0 k n w x b i h) := by
  have hp := pow_le hn
  intro d
  induction d with
  | zero =>
    intro k w x i h hx hw hi hk
    obtain ⟨k,rfl⟩ : ∃ m,k = m + 1 := ⟨k - 1,by omega⟩
    rw [spec_l2Draw.l0,if_pos (Int.natCast_nonneg _),shl1_of (by omega),if_neg (by omega)]
    exact end_some hn hi w rfl hw
  | succ d ih =>
    intro k w x i h hx hw hi hk
    obtain ⟨k,rfl⟩ : ∃ m,k = m + 1 := ⟨k - 1,by omega⟩
    have hx32 : x < 32 := by omega
    have hb := bit_lt32 hx32
    rw [spec_l2Draw.l0,if_pos (Int.natCast_nonneg _),shl1_of (by omega),if_pos (by omega),cnt_ref (by omega) (by omega),Option.bind_some,wrap64_succ (by omega)]
    split
    · rw [if_pos (Int.natCast_nonneg _),shl1_of (by omega),or_cast (by omega) (by omega)]
      exact ih k (w ||| 2 ^ x) (x + 1) i h (by omega) (or_lt32 hw hb) hi (by omega)
    · exact ih k w (x + 1) i h (by omega) hw hi (by omega)
theorem draw_l1 {n : Nat} {b : List Int} (hn : n ≤ 5) : ∀ (d k w x : Nat) (i h : Int),x + d = 2 ^ n → w < 4294967296 → 0 ≤ i → d + 40 < k → TabR n (spec_l2Draw.l1 k n w x b i h) := by
  have hp := pow_le hn
  intro d
  induction d with
  | zero =>
    intro k w x i h hx hw hi hk
    obtain ⟨k,rfl⟩ : ∃ m,k = m + 1 := ⟨k - 1,by omega⟩
    rw [spec_l2Draw.l1,if_pos (Int.natCast_nonneg _),shl1_of (by omega),if_neg (by omega)]
    exact end_some hn hi w rfl hw
  | succ d ih =>
    intro k w x i h hx hw hi hk
    obtain ⟨k,rfl⟩ : ∃ m,k = m + 1 := ⟨k - 1,by omega⟩
    have hx32 : x < 32 := by omega
    have hb := bit_lt32 hx32
    rw [spec_l2Draw.l1,if_pos (Int.natCast_nonneg _),shl1_of (by omega),if_pos (by omega),cnt_ref (by omega) (by omega),Option.bind_some,wrap64_succ (by omega)]
    split
    · rw [if_pos (Int.natCast_nonneg _),shl1_of (by omega),or_cast (by omega) (by omega)]
      exact ih k (w ||| 2 ^ x) (x + 1) i h (by omega) (or_lt32 hw hb) hi (by omega)
    · exact ih k w (x + 1) i h (by omega) hw hi (by omega)
theorem draw_l2 {n : Nat} {b : List Int} (c : Int) (hn : n ≤ 5) : ∀ (d k w x : Nat) (i h : Int),x + d = 2 ^ n → w < 4294967296 → 0 ≤ i → d + 40 < k → TabR n (spec_l2Draw.l2 k n w c x b i h) := by
  have hp := pow_le hn
  intro d
  induction d with
  | zero =>
    intro k w x i h hx hw hi hk
    obtain ⟨k,rfl⟩ : ∃ m,k = m + 1 := ⟨k - 1,by omega⟩
    rw [spec_l2Draw.l2,if_pos (Int.natCast_nonneg _),shl1_of (by omega),if_neg (by omega)]
    exact end_some hn hi w rfl hw
  | succ d ih =>
    intro k w x i h hx hw hi hk
    obtain ⟨k,rfl⟩ : ∃ m,k = m + 1 := ⟨k - 1,by omega⟩
    have hx32 : x < 32 := by omega
    have hb := bit_lt32 hx32
    rw [spec_l2Draw.l2,if_pos (Int.natCast_nonneg _),shl1_of (by omega),if_pos (by omega),wrap64_succ (by omega)]
    split
    · rw [if_pos (Int.natCast_nonneg _),shl1_of (by omega),or_cast (by omega) (by omega)]
      exact ih k (w ||| 2 ^ x) (x + 1) i h (by omega) (or_lt32 hw hb) hi (by omega)
    · exact ih k w (x + 1) i h (by omega) hw hi (by omega)
theorem draw_l3 {n : Nat} {b : List Int} (hl : b.length ≤ 9223372036854775807) (hn : n ≤ 5) : ∀ (d k w x : Nat) (i h : Int),x + d = 2 ^ n → w < 4294967296 → 0 ≤ i → d + 40 < k → TabR n (spec_l2Draw.l3 k n w x b i h) := by
  have hp := pow_le hn
  intro d
  induction d with
  | zero =>
    intro k w x i h hx hw hi hk
    obtain ⟨k,rfl⟩ : ∃ m,k = m + 1 := ⟨k - 1,by omega⟩
    rw [spec_l2Draw.l3,if_pos (Int.natCast_nonneg _),shl1_of (by omega),if_neg (by omega)]
    exact end_some hn hi w rfl hw
  | succ d ih =>
    intro k w x i h hx hw hi hk
    obtain ⟨k,rfl⟩ : ∃ m,k = m + 1 := ⟨k - 1,by omega⟩
    have hx32 : x < 32 := by omega
    have hb := bit_lt32 hx32
    obtain ⟨v,i1,h1,e,hi1,hv0,hv2,_⟩ := below_some h 2 hl hi
    obtain ⟨m,rfl⟩ := Int.eq_ofNat_of_zero_le hv0
    have hm : m < 2 := by have := hv2 (by decide);omega
    have hs : m <<< x < 4294967296 := by
      rw [Nat.shiftLeft_eq]
      have : m * 2 ^ x ≤ 1 * 2 ^ x := Nat.mul_le_mul_right _ (by omega)
      omega
    have hsc : shl .i64 (m : Int) (x : Int) = ((m <<< x : Nat) : Int) := shl_cast (by omega) (by omega)
    rw [spec_l2Draw.l3,if_pos (Int.natCast_nonneg _),shl1_of (by omega),if_pos (by omega),e,Option.bind_some,if_pos (Int.natCast_nonneg _),wrap64_succ (by omega)]
    dsimp only
    rw [hsc,or_cast (by omega) (by omega)]
    exact ih k (w ||| m <<< x) (x + 1) i1 h1 (by omega) (or_lt32 hw hs) hi1 (by omega)
theorem draw_some {n k : Nat} {b : List Int} {i : Int} (h : Int) (hl : b.length ≤ 9223372036854775807) (hn : n ≤ 5) (hi : 0 ≤ i) (hk : 100 < k) : TabR n (spec_l2Draw.f k b i h n) := by
  have hp := pow_le hn
  obtain ⟨c,i1,h1,e,hi1,_,_,_⟩ := below_some h 6 hl hi
  unfold spec_l2Draw.f
  rw [e,Option.bind_some]
  dsimp only
  by_cases c0 : c = 0
  · rw [if_pos c0]
    obtain ⟨v,i2,h2,e2,hi2,hv0,hvn,_⟩ := below_some h1 (mx 1 n) hl hi1
    obtain ⟨m,rfl⟩ := Int.eq_ofNat_of_zero_le hv0
    have hm : m < 5 := by
      have hmx : 1 ≤ mx 1 n ∧ mx 1 n ≤ 5 := by unfold mx;split <;> omega
      have := hvn (by omega)
      omega
    have hw := varW_lt n m
    have hF := full_le hn
    rw [e2,Option.bind_some,spec_var hn hm (by omega),Option.bind_some]
    exact end_some hn hi2 (varW n m) rfl (by omega)
  · rw [if_neg c0]
    by_cases c1 : c = 1
    · rw [if_pos c1];exact draw_l0 hn (2 ^ n) k 0 0 i1 h1 (by omega) (by decide) hi1 (by omega)
    · rw [if_neg c1]
      by_cases c2 : c = 2
      · rw [if_pos c2];exact draw_l1 hn (2 ^ n) k 0 0 i1 h1 (by omega) (by decide) hi1 (by omega)
      · rw [if_neg c2]
        by_cases c3 : c = 3
        · obtain ⟨v,i2,h2,e2,hi2,_,_,_⟩ := below_some h1 (shl .i64 1 n) hl hi1
          rw [if_pos c3,if_pos (Int.natCast_nonneg _),e2,Option.bind_some]
          exact draw_l2 v hn (2 ^ n) k 0 0 i2 h2 (by omega) (by decide) hi2 (by omega)
        · rw [if_neg c3];exact draw_l3 hl hn (2 ^ n) k 0 0 i1 h1 (by omega) (by decide) hi1 (by omega)
def AnyR (o : Option (Int × Int × Int × Int)) : Prop := ∃ (a w i h : Int),o = some (a,w,i,h) ∧ 0 ≤ i ∧ (-9223372036854775808 ≤ a ∧ a ≤ 9223372036854775807) ∧ (-9223372036854775808 ≤ w ∧ w ≤ 9223372036854775807)
def AnyS (o : Option (Int × Int × Int × Int)) : Prop := ∃ (a w i h : Int),o = some (a,w,i,h) ∧ 0 ≤ i ∧ (-9223372036854775808 ≤ a ∧ a ≤ 9223372036854775807) ∧ (-9223372036854775808 ≤ w ∧ w ≤ 9223372036854775807) ∧ (a ≤ 4 ∨ 5 < a ∨ (0 ≤ w ∧ w ≤ 65535))
theorem any_strong {k : Nat} {b : List Int} {i : Int} (h : Int) (hl : b.length ≤ 9223372036854775807) (hi : 0 ≤ i) (hk : 100 < k) : AnyS (spec_l2Any.f k b i h) := by
  obtain ⟨n,i1,h1,e,hi1,hn0,hn5,_⟩ := below_some h 5 hl hi
  obtain ⟨n,rfl⟩ := Int.eq_ofNat_of_zero_le hn0
  have hn : n ≤ 5 := by have := hn5 (by decide);omega
  have hn4 : n ≤ 4 := by have := hn5 (by decide);omega
  have hF := pow_le_pow (pow_le_pow hn4)
  have hF2 : 2 ^ 2 ^ n ≤ 65536 := hF
  obtain ⟨w,i2,h2,e2,hi2,hw0,hw1,hw2⟩ := draw_some (n := n) (k := k) h1 hl hn hi1 hk
  obtain ⟨c,i3,h3,e3,hi3,_,_,_⟩ := below_some h2 14 hl hi2
  unfold spec_l2Any.f
  rw [e,Option.bind_some,e2,Option.bind_some,e3,Option.bind_some]
  dsimp only
  by_cases c0 : c = 0
  · obtain ⟨v,i4,h4,e4,hi4,hv⟩ := pick_some (l := [(-1),6,5,0,9223372036854775807]) h3 hl hi3 (by decide)
    rw [if_pos c0,e4,Option.bind_some]
    refine ⟨_,_,_,_,rfl,hi4,?_,by omega,.inr (.inr (by omega))⟩
    simp only [List.mem_cons,List.not_mem_nil,or_false] at hv
    dsimp only
    omega
  · rw [if_neg c0]
    by_cases c1 : c = 1
    · obtain ⟨v,i4,h4,e4,hi4,hv⟩ := pick_some (l := [(-1),0,1,65536,9223372036854775807]) h3 hl hi3 (by decide)
      rw [if_pos c1,e4,Option.bind_some]
      refine ⟨_,_,_,_,rfl,hi4,by omega,?_,.inl (by omega)⟩
      simp only [List.mem_cons,List.not_mem_nil,or_false] at hv
      dsimp only
      omega
    · rw [if_neg c1]
      exact ⟨_,_,_,_,rfl,hi3,by omega,by omega,.inl (by omega)⟩
theorem any_some {k : Nat} {b : List Int} {i : Int} (h : Int) (hl : b.length ≤ 9223372036854775807) (hi : 0 ≤ i) (hk : 100 < k) : AnyR (spec_l2Any.f k b i h) := by
  obtain ⟨a,w,i2,h2,e,q0,q1,q2,_⟩ := any_strong (k := k) h hl hi hk
  exact ⟨a,w,i2,h2,e,q0,q1,q2⟩
def fmtL (w m : Nat) : List Int := (List.range m).map fun i => ((48 + bitN w i : Nat) : Int)
theorem fmtL_succ (w m : Nat) : fmtL w (m + 1) = fmtL w m ++ [((48 + bitN w m : Nat) : Int)] := by simp [fmtL,List.range_succ]
theorem fmtL_length (w m : Nat) : (fmtL w m).length = m := by simp [fmtL]
theorem fill_next (w x d : Nat) : (fmtL w x ++ List.replicate (d + 1) 0).set x ((48 + bitN w x : Nat) : Int) = fmtL w (x + 1) ++ List.replicate d 0 := by
  rw [List.set_append,if_neg (by rw [fmtL_length];omega),fmtL_length,Nat.sub_self,List.replicate_succ,List.set_cons_zero,fmtL_succ,List.append_assoc]
  rfl
theorem impl_fmt_loop {n w : Nat} (h : Tab n w) : ∀ d k x : Nat,x + d = 2 ^ n → d < k → impl_FormatTable.l0 k (fmtL w x ++ List.replicate d 0) ((2 ^ n : Nat) : Int) x n w = some (strOfNums (fmtL w (2 ^ n))) := by
  have hM := pow_le h.1
  intro d
  induction d with
  | zero =>
    intro k x hx hk
    obtain ⟨k,rfl⟩ : ∃ m,k = m + 1 := ⟨k - 1,by omega⟩
    obtain rfl : x = 2 ^ n := by omega
    rw [impl_FormatTable.l0,if_neg (by omega),List.replicate_zero,List.append_nil]
  | succ d ih =>
    intro k x hx hk
    obtain ⟨k,rfl⟩ : ∃ m,k = m + 1 := ⟨k - 1,by omega⟩
    have hb := bitN_le w x
    have e : (48 + ((bitN w x : Nat) : Int) % 256) % 256 = ((48 + bitN w x : Nat) : Int) := by omega
    rw [impl_FormatTable.l0,if_pos (by omega),at_some' h.lt63 (by omega),Option.bind_some,if_pos (Int.natCast_nonneg _),if_pos (by rw [List.length_append,fmtL_length,List.length_replicate];omega),wrap64_succ (by omega),Int.toNat_natCast,e,fill_next]
    exact ih k (x + 1) (by omega) (by omega)
def fmtS (n w : Nat) : ByteArray := strOfNums (fmtL w (2 ^ n))
theorem impl_fmt {n w k : Nat} (h : Tab n w) (hk : 40 < k) : impl_FormatTable.f k n w = some (fmtS n w) := by
  have hM := pow_le h.1
  have hw := h.lt63
  have hi := isTab_of h
  unfold impl_FormatTable.f
  rw [impl_isTable (by omega) (by omega),hi,Option.bind_some,if_pos rfl,size_some _ (by have := h.1;omega),Option.bind_some,if_pos (Int.natCast_nonneg _),if_pos (by omega),Option.bind_some,Int.toNat_natCast,List.length_replicate]
  have := impl_fmt_loop h (2 ^ n) k 0 (by omega) (by omega)
  exact this
theorem str_snoc (l : List Int) (b : Int) : strOfNums l ++ (⟨#[UInt8.ofNat b.toNat]⟩ : ByteArray) = strOfNums (l ++ [b]) := by
  apply ByteArray.ext
  rw [ByteArray.data_append]
  simp [strOfNums]
theorem spec_fmt_loop {n w : Nat} (h : Tab n w) : ∀ d k x : Nat,x + d = 2 ^ n → 2 * d + 1 < k → spec_FormatTable.l0 k (strOfNums (fmtL w x)) x n w = some (fmtS n w) := by
  have hM := pow_le h.1
  have hi : spec_IsTable.f n w = some true := by rw [spec_isTable,isTab_of h]
  intro d
  induction d with
  | zero =>
    intro k x hx hk
    obtain ⟨k,rfl⟩ : ∃ m,k = m + 2 := ⟨k - 2,by omega⟩
    obtain rfl : x = 2 ^ n := by omega
    rw [spec_FormatTable.l0,hi,Option.bind_some,if_pos rfl,if_pos (Int.natCast_nonneg _),shl1_of (by have := h.1;omega),decide_eq_false (by omega),spec_FormatTable.j1,if_neg (by decide)]
    rfl
  | succ d ih =>
    intro k x hx hk
    obtain ⟨k,rfl⟩ : ∃ m,k = m + 2 := ⟨k - 2,by omega⟩
    have hz : (strOfNums (fmtL w x)).size = x := by rw [strOfNums_size,fmtL_length]
    rw [spec_FormatTable.l0,hi,Option.bind_some,if_pos rfl,if_pos (Int.natCast_nonneg _),shl1_of (by have := h.1;omega),decide_eq_true (by omega),spec_FormatTable.j1,if_pos rfl,if_pos (Int.natCast_nonneg _),bit_cast h.lt63 (by omega),hz,wrap64_succ (by omega)]
    by_cases hb : w.testBit x = true
    · have e : bitN w x = 1 := bitN_eq_one.mpr hb
      rw [if_pos (by rw [e];rfl),if_pos (by omega)]
      have hs : strOfNums (fmtL w x) ++ (⟨#[49]⟩ : ByteArray) = strOfNums (fmtL w (x + 1)) := by rw [fmtL_succ,e];exact str_snoc _ 49
      rw [hs]
      exact ih k (x + 1) (by omega) (by omega)
    · have e : bitN w x = 0 := bitN_eq_zero.mpr (by simpa using hb)
      rw [if_neg (by rw [e];decide),if_pos (by omega)]
      have hs : strOfNums (fmtL w x) ++ (⟨#[48]⟩ : ByteArray) = strOfNums (fmtL w (x + 1)) := by rw [fmtL_succ,e];exact str_snoc _ 48
      rw [hs]
      exact ih k (x + 1) (by omega) (by omega)
theorem spec_fmt {n w k : Nat} (h : Tab n w) (hk : 70 < k) : spec_FormatTable.f k n w = some (fmtS n w) := by
  have hM := pow_le h.1
  exact spec_fmt_loop h (2 ^ n) k 0 (by omega) (by omega)
def fmtI (a b : Int) : ByteArray := if isTab a b = true then fmtS a.toNat b.toNat else ⟨#[]⟩
theorem impl_fmtI {a b : Int} {k : Nat} (h0 : -9223372036854775808 ≤ b) (h1 : b ≤ 9223372036854775807) (hk : 40 < k) : impl_FormatTable.f k a b = some (fmtI a b) := by
  unfold fmtI
  by_cases h : isTab a b = true
  · obtain ⟨n,w,rfl,rfl,ht⟩ := tab_of h
    rw [if_pos h,Int.toNat_natCast,Int.toNat_natCast]
    exact impl_fmt ht hk
  · rw [if_neg h]
    unfold impl_FormatTable.f
    rw [impl_isTable h0 h1,Option.bind_some,if_neg h]
theorem spec_fmtI (a b : Int) {k : Nat} (hk : 70 < k) : spec_FormatTable.f k a b = some (fmtI a b) := by
  unfold fmtI
  by_cases h : isTab a b = true
  · obtain ⟨n,w,rfl,rfl,ht⟩ := tab_of h
    rw [if_pos h,Int.toNat_natCast,Int.toNat_natCast]
    exact spec_fmt ht hk
  · rw [if_neg h]
    obtain ⟨k,rfl⟩ : ∃ m,k = m + 2 := ⟨k - 2,by omega⟩
    unfold spec_FormatTable.f
    rw [spec_FormatTable.l0,spec_isTable,Option.bind_some,if_neg h,spec_FormatTable.j1,if_neg (by decide)]
theorem fmtI_size (a b : Int) : (fmtI a b).size ≤ 32 := by
  unfold fmtI
  by_cases h : isTab a b = true
  · obtain ⟨n,w,rfl,rfl,ht⟩ := tab_of h
    rw [if_pos h,Int.toNat_natCast,Int.toNat_natCast,fmtS,strOfNums_size,fmtL_length]
    exact pow_le ht.1
  · rw [if_neg h];decide
theorem bt_nums {l : List Int} (h : ∀ x ∈ l,0 ≤ x ∧ x < 256) {i : Nat} (hi : i < l.length) : bt (strOfNums l) (i : Int) = l[i] := by
  have hz : (i : Int).toNat < (strOfNums l).size := by rw [strOfNums_size,Int.toNat_natCast];exact hi
  rw [← bt_at _ _ hz]
  have hm := h _ (List.getElem_mem hi)
  have e : (strOfNums l)[(i : Int).toNat]'hz = UInt8.ofNat (l[i]).toNat := by
    rw [ByteArray.getElem_eq_getElem_data]
    simp [strOfNums]
  rw [e]
  rw [UInt8.toNat_ofNat']
  omega
theorem bt_fmt {w m i : Nat} (hi : i < m) : bt (strOfNums (fmtL w m)) (i : Int) = ((48 + bitN w i : Nat) : Int) := by
  rw [bt_nums (l := fmtL w m) (fun x hx => by
    unfold fmtL at hx
    obtain ⟨j,_,rfl⟩ := List.mem_map.mp hx
    have := bitN_le w j
    omega) (by rw [fmtL_length];exact hi)]
  simp [fmtL]
theorem bt_ext {s t : ByteArray} (hz : s.size = t.size) (h : ∀ i : Nat,i < s.size → bt s (i : Int) = bt t (i : Int)) : s = t := by
  apply ByteArray.ext
  apply Array.ext
  · exact hz
  · intro i h1 h2
    have h1' : ((i : Nat) : Int).toNat < s.size := h1
    have h2' : ((i : Nat) : Int).toNat < t.size := h2
    have := h i h1
    rw [← bt_at s i h1',← bt_at t i h2'] at this
    have e : (s[((i : Nat) : Int).toNat]'h1').toNat = (t[((i : Nat) : Int).toNat]'h2').toNat := by omega
    have e := UInt8.toNat_inj.mp e
    rw [ByteArray.getElem_eq_getElem_data,ByteArray.getElem_eq_getElem_data] at e
    exact e
def okL (s : ByteArray) (x : Nat) : Bool := bt s x == 49 || bt s x == 48
theorem read_back {s : ByteArray} {n : Nat} (hs : s.size = 2 ^ n) : (fmtS n (tabN (impl_ParseTable.p s) (2 ^ n)) = s) ↔ allN (okL s) (2 ^ n) = true := by
  rw [allN_iff]
  constructor
  · intro h i hi
    have hb := bt_fmt (w := tabN (impl_ParseTable.p s) (2 ^ n)) hi
    have h : strOfNums (fmtL (tabN (impl_ParseTable.p s) (2 ^ n)) (2 ^ n)) = s := h
    rw [h] at hb
    have hl := bitN_le (tabN (impl_ParseTable.p s) (2 ^ n)) i
    unfold okL
    rw [Bool.or_eq_true,beq_iff_eq,beq_iff_eq]
    omega
  · intro h
    refine bt_ext (by rw [fmtS,strOfNums_size,fmtL_length,hs]) fun i hi => ?_
    rw [fmtS,strOfNums_size,fmtL_length] at hi
    have hk := h i hi
    rw [fmtS,bt_fmt hi]
    unfold okL at hk
    rw [Bool.or_eq_true,beq_iff_eq,beq_iff_eq] at hk
    unfold bitN
    rw [testBit_tabN,decide_eq_true hi,Bool.true_and]
    unfold impl_ParseTable.p
    rcases hk with e | e <;> rw [e] <;> rfl
def parseN (s : ByteArray) : Nat → Nat → Int × Int × Bool
  | 0,_ => (0,0,false)
  | d + 1,n => if s.size = 2 ^ n then (if allN (okL s) (2 ^ n) = true then ((n : Int),((tabN (impl_ParseTable.p s) (2 ^ n) : Nat) : Int),true) else (0,0,false)) else parseN s d (n + 1)
theorem impl_parse_loop (s : ByteArray) {k : Nat} (hk : 40 < k) : ∀ d n : Nat,n + d = 6 → impl_ParseTable.l0 k s d n = some (parseN s d n) := by
  intro d
  induction d with
  | zero => intro n _;rfl
  | succ d ih =>
    intro n hn
    rw [impl_ParseTable.l0,parseN]
    by_cases hs : s.size = 2 ^ n
    · have ht : Tab n (tabN (impl_ParseTable.p s) (2 ^ n)) := ⟨by omega,tabN_lt _ _⟩
      rw [if_pos hs,if_pos hs,impl_fmt ht hk,Option.bind_some]
      by_cases ha : allN (okL s) (2 ^ n) = true
      · rw [if_pos ha,if_pos ((read_back hs).mpr ha)]
      · rw [if_neg ha,if_neg (fun h => ha ((read_back hs).mp h))]
    · rw [if_neg hs,if_neg hs];exact ih (n + 1) (by omega)
theorem spec_parse_in (s : ByteArray) {n : Nat} (hn : n ≤ 5) (hs : s.size = 2 ^ n) : ∀ d k x : Nat,x + d = 2 ^ n → d < k → allN (okL s) x = true →
    spec_ParseTable.l1 k s n ((tabN (impl_ParseTable.p s) x : Nat) : Int) x = some (if allN (okL s) (2 ^ n) = true then ((n : Int),((tabN (impl_ParseTable.p s) (2 ^ n) : Nat) : Int),true) else (0,0,false)) := by
  have hM := pow_le hn
  intro d
  induction d with
  | zero =>
    intro k x hx hk ha
    obtain ⟨k,rfl⟩ : ∃ m,k = m + 1 := ⟨k - 1,by omega⟩
    obtain rfl : x = 2 ^ n := by omega
    rw [spec_ParseTable.l1,if_neg (by omega),if_pos ha]
  | succ d ih =>
    intro k x hx hk ha
    obtain ⟨k,rfl⟩ : ∃ m,k = m + 1 := ⟨k - 1,by omega⟩
    have hT := tabN_lt63 (impl_ParseTable.p s) (show x ≤ 32 by omega)
    have hp := pow_le_pow (n := x) (m := 32) (by omega)
    rw [spec_ParseTable.l1,if_pos (by omega),if_pos (Int.natCast_nonneg _),wrap64_succ (by omega)]
    by_cases h9 : bt s (x : Int) = 49
    · have hpx : impl_ParseTable.p s x = true := by unfold impl_ParseTable.p;rw [h9];rfl
      rw [if_pos h9,shl1_of (by omega),or_cast hT (by omega),← tabN_true hpx]
      exact ih k (x + 1) (by omega) (by omega) (allN_next ha (by unfold okL;rw [h9];rfl))
    · rw [if_neg h9]
      have hpx : impl_ParseTable.p s x = false := by unfold impl_ParseTable.p;rw [beq_eq_false_iff_ne];exact h9
      by_cases h8 : bt s (x : Int) = 48
      · rw [if_pos h8,← tabN_false hpx]
        exact ih k (x + 1) (by omega) (by omega) (allN_next ha (by unfold okL;rw [h8];rfl))
      · have hno : okL s x = false := by unfold okL;rw [Bool.or_eq_false_iff,beq_eq_false_iff_ne,beq_eq_false_iff_ne];exact ⟨h9,h8⟩
        rw [if_neg h8,if_neg (by rw [allN_miss (show x < 2 ^ n by omega) hno];decide)]
theorem spec_parse_loop (s : ByteArray) : ∀ d n k : Nat,n + d = 6 → d + 50 < k → spec_ParseTable.l0 k s n = some (parseN s d n) := by
  intro d
  induction d with
  | zero =>
    intro n k hn hk
    obtain ⟨k,rfl⟩ : ∃ m,k = m + 1 := ⟨k - 1,by omega⟩
    rw [spec_ParseTable.l0,if_neg (by omega)];rfl
  | succ d ih =>
    intro n k hn hk
    obtain ⟨k,rfl⟩ : ∃ m,k = m + 1 := ⟨k - 1,by omega⟩
    have hM := pow_le (show n ≤ 5 by omega)
    rw [spec_ParseTable.l0,if_pos (by omega),if_pos (Int.natCast_nonneg _),shl1_of (by omega),parseN,wrap64_succ (by omega)]
    by_cases hs : s.size = 2 ^ n
    · rw [if_pos (by omega),if_pos hs]
      exact spec_parse_in s (by omega) hs (2 ^ n) k 0 (by omega) (by omega) rfl
    · rw [if_neg (by omega),if_neg hs];exact ih (n + 1) k (by omega) (by omega)
def parseI (s : ByteArray) : Int × Int × Bool := parseN s 6 0
theorem impl_parse (s : ByteArray) {k : Nat} (hk : 40 < k) : impl_ParseTable.f k s = some (parseI s) := impl_parse_loop s hk 6 0 rfl
theorem spec_parse (s : ByteArray) {k : Nat} (hk : 60 < k) : spec_ParseTable.f k s = some (parseI s) := spec_parse_loop s 6 0 k rfl (by omega)
theorem parse_fmt {n w : Nat} (h : Tab n w) : ∀ d m : Nat,m ≤ n → n < m + d → parseN (fmtS n w) d m = ((n : Int),(w : Int),true) := by
  have hz : (fmtS n w).size = 2 ^ n := by rw [fmtS,strOfNums_size,fmtL_length]
  intro d
  induction d with
  | zero => intro m h1 h2;omega
  | succ d ih =>
    intro m h1 h2
    rw [parseN,hz]
    by_cases e : m = n
    · subst e
      have hw : tabN (impl_ParseTable.p (fmtS m w)) (2 ^ m) = w := by
        refine Eq.trans (tabN_congr fun i hi => ?_) (tabN_testBit h.2)
        unfold impl_ParseTable.p
        rw [fmtS,bt_fmt hi]
        unfold bitN
        cases w.testBit i <;> rfl
      have ha : allN (okL (fmtS m w)) (2 ^ m) = true := (read_back hz).mp (by rw [hw])
      rw [if_pos rfl,if_pos ha,hw]
    · rw [if_neg (by have := pow_lt (show m < n by omega);omega)]
      exact ih (m + 1) (by omega) (by omega)
theorem parse_none : parseI ⟨#[]⟩ = (0,0,false) := by
  have h : ∀ d m : Nat,parseN ⟨#[]⟩ d m = (0,0,false) := by
    intro d
    induction d with
    | zero => intro m;rfl
    | succ d ih =>
      intro m
      have := pow_pos m
      rw [parseN,if_neg (by show ¬ (0 : Nat) = 2 ^ m;omega)]
      exact ih _
  exact h 6 0
theorem parse_fmtI (a b : Int) : (parseI (fmtI a b)).2.2 = isTab a b ∧ (isTab a b = true → (parseI (fmtI a b)).1 = a ∧ (parseI (fmtI a b)).2.1 = b) := by
  unfold fmtI
  by_cases h : isTab a b = true
  · obtain ⟨n,w,rfl,rfl,ht⟩ := tab_of h
    rw [if_pos h,Int.toNat_natCast,Int.toNat_natCast,show parseI (fmtS n w) = ((n : Int),(w : Int),true) from parse_fmt ht 6 0 (by omega) (by have := ht.1;omega)]
    exact ⟨h.symm,fun _ => ⟨rfl,rfl⟩⟩
  · rw [if_neg h,parse_none]
    exact ⟨(Bool.eq_false_iff.mpr h).symm,fun q => absurd q h⟩
theorem isBits_some (a : Int) : impl_isBits.f a = some (decide (0 ≤ a ∧ a ≤ 5)) := by
  unfold impl_isBits.f
  by_cases h : a ≥ 0
  · rw [if_pos h];congr 1;exact decide_eq_decide.mpr (by omega)
  · rw [if_neg h];congr 1;symm;exact decide_eq_false (by omega)
def noInp (n : Nat) (x : Int) : Bool := !decide (0 ≤ x ∧ x < ((2 ^ n : Nat) : Int))
theorem isInput_some {n : Nat} (hn : n ≤ 5) (x : Int) : impl_isInput.f n x = some (!noInp n x) := by
  have hM := pow_le hn
  unfold impl_isInput.f noInp
  rw [Bool.not_not]
  by_cases h : x ≥ 0
  · rw [if_pos h,if_pos (Int.natCast_nonneg _),shl1_of (by omega)];congr 1;exact decide_eq_decide.mpr (by omega)
  · rw [if_neg h];congr 1;symm;exact decide_eq_false (by omega)
theorem bito {w x : Nat} : ((((bitN w x : Nat) : Int)) = 1) ↔ w.testBit x = true := by unfold bitN;cases w.testBit x <;> decide
end Go.Proofs.Ytgojehaneegaeaa.U
namespace Go.Proofs.Ytgojehaneegaeaa.U
open Go.RowKit Go.Proofs.YtgojehaneegaeaaW.PrintWords Go.Proofs.YtgojehaneegaeaaW.PrintLast Go.Proofs.YtgojehaneegaeaaW.PrintMore Go.Proofs.Ytgojehaneegaeaa.F Go.Proofs.Ytgojehaneegaeaa.B
set_option linter.unusedVariables false
set_option linter.unusedSimpArgs false
set_option maxRecDepth 100000
def varC (n i : Nat) : Nat := tabN (fun x => x.testBit i) (2 ^ n)
theorem impl_varC {n i : Nat} (hn : n ≤ 5) (hi : i ≤ 62) : impl_variable.f n i = some ((n : Int),((varC n i : Nat) : Int)) := by
  unfold impl_variable.f
  rw [if_pos (by omega),Int.toNat_natCast,Int.toNat_natCast]
  rfl
theorem spec_varC_loop {n i : Nat} (hn : n ≤ 5) (hi : i ≤ 62) : ∀ (d k x : Nat),x + d = 2 ^ n → d < k →
    spec_l2Variable.l0 k n i ((tabN (fun x => x.testBit i) x : Nat) : Int) x = some ((varC n i : Nat) : Int) := by
  have hM := pow_le hn
  intro d
  induction d with
  | zero =>
    intro k x hx hk
    obtain ⟨k,rfl⟩ : ∃ m,k = m + 1 := ⟨k - 1,by omega⟩
    obtain rfl : x = 2 ^ n := by omega
    simp only [spec_l2Variable.l0]
    rw [if_pos (Int.natCast_nonneg _),shl1_of (by omega),if_neg (by omega)]
    rfl
  | succ d ih =>
    intro k x hx hk
    obtain ⟨k,rfl⟩ : ∃ m,k = m + 1 := ⟨k - 1,by omega⟩
    have hT := tabN_lt63 (fun x => x.testBit i) (show x ≤ 32 by omega)
    have hp := pow_le_pow (n := x) (m := 32) (by omega)
    simp only [spec_l2Variable.l0]
    rw [if_pos (Int.natCast_nonneg _),shl1_of (by omega),if_pos (by omega),if_pos (Int.natCast_nonneg _),bit_cast (by omega) (by omega),wrap64_succ (by omega)]
    by_cases h : x.testBit i = true
    · rw [if_pos (bito.mpr h),if_pos (Int.natCast_nonneg _),shl1_of (by omega),or_cast hT (by omega),← tabN_true (p := fun x => x.testBit i) h]
      exact ih k (x + 1) (by omega) (by omega)
    · rw [if_neg (fun q => h (bito.mp q)),← tabN_false (p := fun x => x.testBit i) (m := x) (by simpa using h)]
      exact ih k (x + 1) (by omega) (by omega)
theorem spec_varC {n i k : Nat} (hn : n ≤ 5) (hi : i ≤ 62) (hk : 40 < k) : spec_l2Variable.f k n i = some ((varC n i : Nat) : Int) := by
  have hM := pow_le hn
  exact spec_varC_loop hn hi (2 ^ n) k 0 (by omega) (by omega)
end Go.Proofs.Ytgojehaneegaeaa.U
namespace Go.Proofs.Ytgojehaneegaeaa.U
open Go.RowKit Go.Proofs.YtgojehaneegaeaaW.PrintWords Go.Proofs.YtgojehaneegaeaaW.PrintLast Go.Proofs.YtgojehaneegaeaaW.PrintMore Go.Proofs.Ytgojehaneegaeaa.F Go.Proofs.Ytgojehaneegaeaa.B
set_option linter.unusedVariables false
set_option linter.unusedSimpArgs false
def I64 (x : Int) : Prop := -9223372036854775808 ≤ x ∧ x ≤ 9223372036854775807
theorem isTab_I {a b : Int} (h : I64 b) : impl_IsTable.f a b = some (isTab a b) := impl_isTable h.1 h.2
def fit (a b c d : Int) : Bool := isTab a b && (isTab c d && (a == c))
theorem impl_fit {a b c d : Int} (hb : I64 b) (hd : I64 d) : impl_areTables.f a b c d = some (fit a b c d) := by
  unfold impl_areTables.f fit
  rw [isTab_I hb,isTab_I hd,Option.bind_some]
  cases isTab a b with
  | false => rfl
  | true => cases isTab c d <;> rfl
theorem spec_fit (a b c d : Int) : spec_l2Fit.f a b c d = some (fit a b c d) := by
  unfold spec_l2Fit.f fit
  rw [spec_isTable,spec_isTable,Option.bind_some]
  cases isTab a b with
  | false => rfl
  | true => cases isTab c d <;> rfl
theorem fit_of {a b c d : Int} (h : fit a b c d = true) : ∃ n w v : Nat,a = n ∧ b = w ∧ c = n ∧ d = v ∧ Tab n w ∧ Tab n v := by
  unfold fit at h
  rw [Bool.and_eq_true,Bool.and_eq_true,beq_iff_eq] at h
  obtain ⟨n,w,rfl,rfl,h1⟩ := tab_of h.1
  obtain ⟨m,v,e,rfl,h2⟩ := tab_of h.2.1
  obtain rfl : n = m := by have := h.2.2;omega
  exact ⟨n,w,v,rfl,rfl,e,rfl,h1,h2⟩
theorem fit_to {n w v : Nat} (h1 : Tab n w) (h2 : Tab n v) : fit n w n v = true := by
  unfold fit
  rw [isTab_of h1,isTab_of h2]
  simp
def andI (a b c d : Int) : Int × Int × Bool := if fit a b c d = true then (a,Go.bits .and .i64 b d,true) else (0,0,false)
def orI (a b c d : Int) : Int × Int × Bool := if fit a b c d = true then (a,Go.bits .or .i64 b d,true) else (0,0,false)
def xorI (a b c d : Int) : Int × Int × Bool := if fit a b c d = true then (a,Go.bits .xor .i64 b d,true) else (0,0,false)
theorem impl_and {a b c d : Int} (hb : I64 b) (hd : I64 d) : impl_AndTables.f a b c d = some (andI a b c d) := by
  unfold impl_AndTables.f andI
  rw [impl_fit hb hd,Option.bind_some]
  cases fit a b c d <;> rfl
theorem spec_and (a b c d : Int) : spec_AndTables.f a b c d = some (andI a b c d) := by
  unfold spec_AndTables.f andI
  rw [spec_fit,Option.bind_some]
  cases fit a b c d <;> rfl
theorem impl_or {a b c d : Int} (hb : I64 b) (hd : I64 d) : impl_OrTables.f a b c d = some (orI a b c d) := by
  unfold impl_OrTables.f orI
  rw [impl_fit hb hd,Option.bind_some]
  cases fit a b c d <;> rfl
theorem spec_or (a b c d : Int) : spec_OrTables.f a b c d = some (orI a b c d) := by
  unfold spec_OrTables.f orI
  rw [spec_fit,Option.bind_some]
  cases fit a b c d <;> rfl
theorem impl_xor {a b c d : Int} (hb : I64 b) (hd : I64 d) : impl_XorTables.f a b c d = some (xorI a b c d) := by
  unfold impl_XorTables.f xorI
  rw [impl_fit hb hd,Option.bind_some]
  cases fit a b c d <;> rfl
theorem spec_xor (a b c d : Int) : spec_XorTables.f a b c d = some (xorI a b c d) := by
  unfold spec_XorTables.f xorI
  rw [spec_fit,Option.bind_some]
  cases fit a b c d <;> rfl
def notI (a b : Int) : Int × Int × Bool := if isTab a b = true then (a,((notW a.toNat b.toNat : Nat) : Int),true) else (0,0,false)
theorem impl_notI {a b : Int} (hb : I64 b) : impl_NotTable.f a b = some (notI a b) := by
  unfold impl_NotTable.f notI
  rw [isTab_I hb,Option.bind_some]
  by_cases h : isTab a b = true
  · obtain ⟨n,w,rfl,rfl,ht⟩ := tab_of h
    rw [if_pos h,if_pos h,not_some ht,Option.bind_some,Int.toNat_natCast,Int.toNat_natCast]
  · rw [if_neg h,if_neg h]
theorem spec_notI (a b : Int) : spec_NotTable.f a b = some (notI a b) := by
  unfold spec_NotTable.f notI
  rw [spec_isTable,Option.bind_some]
  by_cases h : isTab a b = true
  · obtain ⟨n,w,rfl,rfl,ht⟩ := tab_of h
    have hF := full_le ht.1
    have hw := ht.2
    have hp := pow_pos (2 ^ n)
    rw [if_pos h,if_pos h,full_some ht.1,Option.bind_some,Int.toNat_natCast,Int.toNat_natCast,wrap64_of (by omega) (by omega)]
    have e : ((2 ^ 2 ^ n - 1 : Nat) : Int) - (w : Int) = ((notW n w : Nat) : Int) := by unfold notW;omega
    rw [e]
  · rw [if_neg h,if_neg h]
def cntI (a b : Int) : Int := if isTab a b = true then ((cnt b.toNat : Nat) : Int) else -1
theorem impl_cntI {a b : Int} (hb : I64 b) : impl_CountOnes.f a b = some (cntI a b) := by
  unfold impl_CountOnes.f cntI
  rw [isTab_I hb,Option.bind_some]
  by_cases h : isTab a b = true
  · obtain ⟨n,w,rfl,rfl,ht⟩ := tab_of h
    rw [if_pos h,if_pos h,cnt_ones ht.lt,Option.bind_some,Int.toNat_natCast]
  · rw [if_neg h,if_neg h]
theorem spec_cntI (a b : Int) {k : Nat} (hk : 33 ≤ k) : spec_CountOnes.f k a b = some (cntI a b) := by
  unfold spec_CountOnes.f cntI
  rw [spec_isTable,Option.bind_some]
  by_cases h : isTab a b = true
  · obtain ⟨n,w,rfl,rfl,ht⟩ := tab_of h
    rw [if_pos h,if_pos h,cnt_ref ht.lt hk,Option.bind_some,Int.toNat_natCast]
  · rw [if_neg h,if_neg h]
theorem xor_lt32 {a b : Nat} (ha : a < 4294967296) (hb : b < 4294967296) : a ^^^ b < 4294967296 := Nat.xor_lt_two_pow (n := 32) ha hb
def distI (a b c d : Int) : Int := if fit a b c d = true then ((cnt (b.toNat ^^^ d.toNat) : Nat) : Int) else -1
theorem impl_distI {a b c d : Int} (hb : I64 b) (hd : I64 d) : impl_DistanceBetween.f a b c d = some (distI a b c d) := by
  unfold impl_DistanceBetween.f distI
  rw [impl_fit hb hd,Option.bind_some]
  by_cases h : fit a b c d = true
  · obtain ⟨n,w,v,rfl,rfl,rfl,rfl,h1,h2⟩ := fit_of h
    rw [if_pos h,if_pos h,xor_cast h1.lt63 h2.lt63,cnt_ones (xor_lt32 h1.lt h2.lt),Option.bind_some,Int.toNat_natCast,Int.toNat_natCast]
  · rw [if_neg h,if_neg h]
theorem spec_distI (a b c d : Int) {k : Nat} (hk : 33 ≤ k) : spec_DistanceBetween.f k a b c d = some (distI a b c d) := by
  unfold spec_DistanceBetween.f distI
  rw [spec_fit,Option.bind_some]
  by_cases h : fit a b c d = true
  · obtain ⟨n,w,v,rfl,rfl,rfl,rfl,h1,h2⟩ := fit_of h
    rw [if_pos h,if_pos h,xor_cast h1.lt63 h2.lt63,cnt_ref (xor_lt32 h1.lt h2.lt) hk,Option.bind_some,Int.toNat_natCast,Int.toNat_natCast]
  · rw [if_neg h,if_neg h]
def valI (a b x : Int) : Int := if isTab a b = true then (if noInp a.toNat x = true then -1 else ((bitN b.toNat x.toNat : Nat) : Int)) else -1
theorem impl_valI {a b : Int} (x : Int) (hb : I64 b) : impl_ValueAt.f a b x = some (valI a b x) := by
  unfold impl_ValueAt.f impl_hasInput.f valI
  rw [isTab_I hb,Option.bind_some]
  by_cases h : isTab a b = true
  · obtain ⟨n,w,rfl,rfl,ht⟩ := tab_of h
    have hM := pow_le ht.1
    rw [if_pos h,if_pos h,isInput_some ht.1,Option.bind_some,Option.bind_some,Int.toNat_natCast,Int.toNat_natCast]
    by_cases hx : noInp n x = true
    · rw [hx,if_neg (by decide),if_pos rfl]
    · have hx' : noInp n x = false := by simpa using hx
      have hd : decide (0 ≤ x ∧ x < ((2 ^ n : Nat) : Int)) = true := by unfold noInp at hx';simpa using hx'
      have hd := of_decide_eq_true hd
      obtain ⟨x,rfl⟩ := Int.eq_ofNat_of_zero_le hd.1
      rw [hx',if_pos (show (!false) = true from rfl),if_neg (by decide),at_some' ht.lt63 (by omega),Option.bind_some,Int.toNat_natCast]
  · rw [if_neg h,if_neg h,Option.bind_some,if_neg (by decide)]
theorem spec_valI (a b x : Int) : spec_ValueAt.f a b x = some (valI a b x) := by
  unfold spec_ValueAt.f valI
  rw [spec_isTable,Option.bind_some]
  by_cases h : isTab a b = true
  · obtain ⟨n,w,rfl,rfl,ht⟩ := tab_of h
    have hM := pow_le ht.1
    have hp := pow_pos n
    rw [if_pos h,if_pos h,if_pos (Int.natCast_nonneg _),shl1_of (by have := ht.1;omega),wrap64_of (by omega) (by omega),Int.toNat_natCast,Int.toNat_natCast]
    by_cases h0 : 0 ≤ x
    · obtain ⟨x,rfl⟩ := Int.eq_ofNat_of_zero_le h0
      have e : spec_l1In.f (x : Int) 0 (((2 ^ n : Nat) : Int) - 1) = some (decide ((x : Int) ≤ ((2 ^ n : Nat) : Int) - 1)) := by unfold spec_l1In.f;rw [if_pos (by omega)]
      rw [e,Option.bind_some]
      by_cases hx : x < 2 ^ n
      · rw [decide_eq_true (by omega),if_pos rfl,if_pos h0,bit_cast ht.lt63 (by omega),if_neg (by unfold noInp;rw [decide_eq_true (by omega)];decide),Int.toNat_natCast]
      · rw [decide_eq_false (by omega),if_neg (by decide),if_pos (by unfold noInp;rw [decide_eq_false (by omega)];rfl)]
    · have e : spec_l1In.f x 0 (((2 ^ n : Nat) : Int) - 1) = some false := by unfold spec_l1In.f;rw [if_neg (by omega)]
      rw [e,Option.bind_some,if_neg (by decide),if_pos (by unfold noInp;rw [decide_eq_false (by omega)];rfl)]
  · rw [if_neg h,if_neg h]
def varI (a b : Int) : Int × Int × Bool := if 0 ≤ a ∧ a ≤ 5 ∧ 0 ≤ b ∧ b < a then (a,((varC a.toNat b.toNat : Nat) : Int),true) else (0,0,false)
theorem impl_varI (a b : Int) : impl_VariableTable.f a b = some (varI a b) := by
  unfold impl_VariableTable.f varI
  rw [isBits_some,Option.bind_some]
  by_cases h1 : 0 ≤ a ∧ a ≤ 5
  · rw [decide_eq_true h1,if_pos rfl]
    by_cases h2 : b < 0
    · rw [if_pos h2,if_neg (by omega)]
    · rw [if_neg h2]
      by_cases h3 : b ≥ a
      · rw [if_pos h3,if_neg (by omega)]
      · obtain ⟨n,rfl⟩ := Int.eq_ofNat_of_zero_le h1.1
        obtain ⟨i,rfl⟩ := Int.eq_ofNat_of_zero_le (show 0 ≤ b by omega)
        rw [if_neg h3,impl_varC (by omega) (by omega),Option.bind_some,if_pos (by omega),Int.toNat_natCast,Int.toNat_natCast]
  · rw [decide_eq_false h1,if_neg (by decide),if_neg (by omega)]
theorem spec_varI (a b : Int) {k : Nat} (hk : 40 < k) : spec_VariableTable.f k a b = some (varI a b) := by
  unfold spec_VariableTable.f varI
  by_cases h1 : 0 ≤ a ∧ a ≤ 5
  · have e1 : spec_l1In.f a 0 5 = some true := by unfold spec_l1In.f;rw [if_pos h1.1,decide_eq_true h1.2]
    rw [e1,Option.bind_some,if_pos rfl,wrap64_of (by omega) (by omega)]
    by_cases h2 : 0 ≤ b ∧ b < a
    · have e2 : spec_l1In.f b 0 (a - 1) = some true := by unfold spec_l1In.f;rw [if_pos h2.1,decide_eq_true (by omega)]
      obtain ⟨n,rfl⟩ := Int.eq_ofNat_of_zero_le h1.1
      obtain ⟨i,rfl⟩ := Int.eq_ofNat_of_zero_le h2.1
      rw [e2,Option.bind_some,if_pos rfl,spec_varC (by omega) (by omega) hk,Option.bind_some,if_pos (by omega),Int.toNat_natCast,Int.toNat_natCast]
    · have e2 : spec_l1In.f b 0 (a - 1) = some false := by
        unfold spec_l1In.f
        by_cases h0 : b ≥ 0
        · rw [if_pos h0,decide_eq_false (by omega)]
        · rw [if_neg h0]
      rw [e2,Option.bind_some,if_neg (by decide),if_neg (by omega)]
  · have e1 : spec_l1In.f a 0 5 = some false := by
      unfold spec_l1In.f
      by_cases h0 : a ≥ 0
      · rw [if_pos h0,decide_eq_false (by omega)]
      · rw [if_neg h0]
    rw [e1,Option.bind_some,if_neg (by decide),if_neg (by omega)]
def constI (a b : Int) : Bool := isTab a b && (decide (b = 0) || decide (b = ((2 ^ 2 ^ a.toNat - 1 : Nat) : Int)))
theorem impl_constI {a b : Int} (hb : I64 b) : impl_IsConstant.f a b = some (constI a b) := by
  unfold impl_IsConstant.f constI
  rw [isTab_I hb,Option.bind_some]
  by_cases h : isTab a b = true
  · obtain ⟨n,w,rfl,rfl,ht⟩ := tab_of h
    have hw := ht.2
    rw [if_pos h,h,Bool.true_and,Int.toNat_natCast]
    unfold impl_Table_isSame.f
    by_cases h0 : (w : Int) = 0
    · rw [if_pos h0,decide_eq_true h0];rfl
    · rw [if_neg h0,decide_eq_false h0,not_some ht,Option.bind_some,Option.bind_some,Bool.false_or]
      congr 1
      unfold notW
      by_cases hf : w = 2 ^ 2 ^ n - 1
      · rw [decide_eq_true (by omega),beq_iff_eq];dsimp only;omega
      · rw [decide_eq_false (by omega),beq_eq_false_iff_ne];dsimp only;omega
  · rw [if_neg h,Bool.eq_false_iff.mpr h];rfl
theorem spec_constI (a b : Int) : spec_IsConstant.f a b = some (constI a b) := by
  unfold spec_IsConstant.f constI
  rw [spec_isTable,Option.bind_some]
  by_cases h : isTab a b = true
  · obtain ⟨n,w,rfl,rfl,ht⟩ := tab_of h
    rw [if_pos h,h,Bool.true_and,Int.toNat_natCast]
    by_cases h0 : (w : Int) = 0
    · rw [if_pos h0,decide_eq_true h0];rfl
    · rw [if_neg h0,decide_eq_false h0,full_some ht.1,Option.bind_some,Bool.false_or]
      rfl
  · rw [if_neg h,Bool.eq_false_iff.mpr h];rfl
theorem cntN_and_or (p q : Nat → Bool) (m : Nat) : cntN p m + cntN q m = cntN (fun i => p i && q i) m + cntN (fun i => p i || q i) m := by
  induction m with
  | zero => rfl
  | succ m ih =>
    rw [cntN,cntN,cntN,cntN]
    cases p m <;> cases q m <;> simp <;> omega
theorem cntN_xor (p q : Nat → Bool) (m : Nat) : cntN (fun i => (p i ^^ q i)) m + cntN (fun i => p i && q i) m = cntN (fun i => p i || q i) m := by
  induction m with
  | zero => rfl
  | succ m ih =>
    rw [cntN,cntN,cntN]
    cases p m <;> cases q m <;> simp <;> omega
theorem cnt_and_or (w v : Nat) : cnt w + cnt v = cnt (w &&& v) + cnt (w ||| v) := by
  unfold cnt
  have := cntN_and_or (fun i => w.testBit i) (fun i => v.testBit i) 32
  simp only [Nat.testBit_and,Nat.testBit_or]
  exact this
theorem cnt_xor (w v : Nat) : cnt (w ^^^ v) + cnt (w &&& v) = cnt (w ||| v) := by
  unfold cnt
  have := cntN_xor (fun i => w.testBit i) (fun i => v.testBit i) 32
  simp only [Nat.testBit_and,Nat.testBit_or,Nat.testBit_xor]
  exact this
theorem tab_and {n w v : Nat} (h1 : Tab n w) (h2 : Tab n v) : Tab n (w &&& v) := ⟨h1.1,Nat.lt_of_le_of_lt Nat.and_le_left h1.2⟩
theorem tab_or {n w v : Nat} (h1 : Tab n w) (h2 : Tab n v) : Tab n (w ||| v) := ⟨h1.1,Nat.or_lt_two_pow h1.2 h2.2⟩
theorem tab_xor {n w v : Nat} (h1 : Tab n w) (h2 : Tab n v) : Tab n (w ^^^ v) := ⟨h1.1,Nat.xor_lt_two_pow h1.2 h2.2⟩
theorem tab_not {n w : Nat} (h1 : Tab n w) : Tab n (notW n w) := ⟨h1.1,notW_lt n w⟩
theorem de_morgan {n w v : Nat} (h1 : Tab n w) (h2 : Tab n v) : notW n (notW n w ||| notW n v) = w &&& v := by
  have h3 := tab_or (tab_not h1) (tab_not h2)
  refine word_ext (m := 2 ^ n) (notW_lt n _) (tab_and h1 h2).2 fun i hi => ?_
  rw [testBit_notW h3.2,Nat.testBit_or,testBit_notW h1.2,testBit_notW h2.2,Nat.testBit_and,decide_eq_true hi]
  cases w.testBit i <;> cases v.testBit i <;> rfl
theorem xor_back (w v : Nat) : (w ^^^ v) ^^^ v = w := by rw [Nat.xor_assoc,Nat.xor_self,Nat.xor_zero]
theorem I64_of {x : Nat} (h : x < 9223372036854775808) : I64 (x : Int) := ⟨by omega,by omega⟩
theorem algebra {n w v : Nat} (h1 : Tab n w) (h2 : Tab n v) : ∃ n1 n2 m1 m2 p1 p2 q1 q2 q3 q4 q5 : Int,impl_NotTable.f n w = some (n1,n2,true) ∧ impl_NotTable.f n v = some (m1,m2,true) ∧ impl_OrTables.f n1 n2 m1 m2 = some (p1,p2,true) ∧ impl_NotTable.f p1 p2 = some ((n : Int),((w &&& v : Nat) : Int),true) ∧ impl_XorTables.f n ((w ^^^ v : Nat) : Int) n v = some ((n : Int),(w : Int),true) ∧ impl_CountOnes.f n w = some q1 ∧ impl_CountOnes.f n v = some q2 ∧ impl_CountOnes.f n ((w &&& v : Nat) : Int) = some q3 ∧ impl_CountOnes.f n ((w ||| v : Nat) : Int) = some q4 ∧ impl_CountOnes.f n ((w ^^^ v : Nat) : Int) = some q5 ∧ impl_DistanceBetween.f n w n v = some q5 ∧ wrap64 (q1 + q2) = wrap64 (q3 + q4) ∧ wrap64 (q4 - q3) = q5 := by
  have t1 := tab_and h1 h2
  have t2 := tab_or h1 h2
  have t3 := tab_xor h1 h2
  have t4 := tab_not h1
  have t5 := tab_not h2
  have t6 := tab_or t4 t5
  have I := fun {x : Nat} (h : Tab n x) => I64_of h.lt63
  have c1 := cnt_and_or w v
  have c2 := cnt_xor w v
  have l1 := cnt_le (w ||| v)
  refine ⟨n,((notW n w : Nat) : Int),n,((notW n v : Nat) : Int),n,((notW n w ||| notW n v : Nat) : Int),((cnt w : Nat) : Int),((cnt v : Nat) : Int),((cnt (w &&& v) : Nat) : Int),((cnt (w ||| v) : Nat) : Int),((cnt (w ^^^ v) : Nat) : Int),?_,?_,?_,?_,?_,?_,?_,?_,?_,?_,?_,?_,?_⟩
  · rw [impl_notI (I h1),notI,if_pos (isTab_of h1)];rfl
  · rw [impl_notI (I h2),notI,if_pos (isTab_of h2)];rfl
  · rw [impl_or (I t4) (I t5),orI,if_pos (fit_to t4 t5),or_cast t4.lt63 t5.lt63]
  · rw [impl_notI (I t6),notI,if_pos (isTab_of t6),Int.toNat_natCast,Int.toNat_natCast,de_morgan h1 h2]
  · rw [impl_xor (I t3) (I h2),xorI,if_pos (fit_to t3 h2),xor_cast t3.lt63 h2.lt63,xor_back]
  · rw [impl_cntI (I h1),cntI,if_pos (isTab_of h1)];rfl
  · rw [impl_cntI (I h2),cntI,if_pos (isTab_of h2)];rfl
  · rw [impl_cntI (I t1),cntI,if_pos (isTab_of t1)];rfl
  · rw [impl_cntI (I t2),cntI,if_pos (isTab_of t2)];rfl
  · rw [impl_cntI (I t3),cntI,if_pos (isTab_of t3)];rfl
  · rw [impl_distI (I h1) (I h2),distI,if_pos (fit_to h1 h2)];rfl
  · congr 1;omega
  · rw [wrap64_of (by omega) (by omega)];omega
theorem two_j0 {k : Nat} {b : List Int} {i : Int} (x : Bool) (h : Int) {a w : Int} (hl : b.length ≤ 9223372036854775807) (hi : 0 ≤ i) (hk : 101 < k) (hx : x = true → isTab a w = true) : ∃ c d : Int,spec_l2Two.j0 k x b i h a w = some (a,w,c,d) ∧ I64 d := by
  obtain ⟨k,rfl⟩ : ∃ m,k = m + 1 := ⟨k - 1,by omega⟩
  rw [spec_l2Two.j0]
  by_cases hc : x = true
  · obtain ⟨n,v,rfl,rfl,ht⟩ := tab_of (hx hc)
    obtain ⟨w1,i1,h1,e,hi1,hw0,hw1,_⟩ := draw_some (n := n) (k := k) h hl ht.1 hi (by omega)
    rw [if_pos hc,e,Option.bind_some]
    exact ⟨_,_,rfl,by show I64 w1;exact ⟨by omega,by omega⟩⟩
  · obtain ⟨c,d,i1,h1,e,hi1,q1,q2⟩ := any_some (k := k) h hl hi (by omega)
    rw [if_neg hc,e,Option.bind_some]
    exact ⟨_,_,rfl,q2⟩
theorem two_some {k : Nat} {b : List Int} (hl : b.length ≤ 9223372036854775807) (hk : 5000 < k) : ∃ a w c d : Int,spec_l2Two.f k b = some (a,w,c,d) ∧ I64 w ∧ I64 d := by
  obtain ⟨h,e⟩ := new_some hl (k := k) (by omega)
  obtain ⟨a,w,i1,h1,e1,hi1,q1,q2⟩ := any_some (k := k) h hl (Int.le_refl 0) (by omega)
  unfold spec_l2Two.f
  rw [e,Option.bind_some,e1,Option.bind_some,spec_isTable,Option.bind_some]
  dsimp only
  by_cases ht : isTab a w = true
  · obtain ⟨x,i2,h2,e2,hi2⟩ := once_some h1 6 hl hi1
    rw [if_pos ht,e2,Option.bind_some]
    obtain ⟨c,d,e3,q3⟩ := two_j0 (k := k) (!x) h2 (a := a) (w := w) hl hi2 (by omega) (fun _ => ht)
    exact ⟨a,w,c,d,e3,q2,q3⟩
  · rw [if_neg ht]
    obtain ⟨c,d,e3,q3⟩ := two_j0 (k := k) false h1 (a := a) (w := w) hl hi1 (by omega) (fun q => by cases q)
    exact ⟨a,w,c,d,e3,q2,q3⟩
theorem drawAnd_some {k : Nat} {b : List Int} (hl : b.length ≤ 9223372036854775807) (hk : 5000 < k) : ∃ a w c d : Int,spec_DrawAndTables.f k b = some (a,w,c,d) ∧ I64 w ∧ I64 d := by
  obtain ⟨a,w,c,d,e,q1,q2⟩ := two_some (k := k) hl hk
  unfold spec_DrawAndTables.f
  rw [e,Option.bind_some]
  exact ⟨_,_,_,_,rfl,q1,q2⟩
theorem drawDist_some {k : Nat} {b : List Int} (hl : b.length ≤ 9223372036854775807) (hk : 5000 < k) : ∃ a w c d : Int,spec_DrawDistanceBetween.f k b = some (a,w,c,d) ∧ I64 w ∧ I64 d := by
  obtain ⟨a,w,c,d,e,q1,q2⟩ := two_some (k := k) hl hk
  unfold spec_DrawDistanceBetween.f
  rw [e,Option.bind_some]
  exact ⟨_,_,_,_,rfl,q1,q2⟩
theorem text_loop {b : List Int} (c : Int) (hl : b.length ≤ 9223372036854775807) : ∀ (d k : Nat) (v : List Int) (i h : Int),0 ≤ i → v.length + d ≤ 1000 → d < k → ∃ (s : ByteArray) (i' h' : Int),spec_l1Text.l0 k v c (d : Nat) b i h = some (s,i',h') ∧ 0 ≤ i' ∧ s.size ≤ v.length + d := by
  intro d
  induction d with
  | zero =>
    intro k v i h hi hv hk
    obtain ⟨k,rfl⟩ : ∃ m,k = m + 1 := ⟨k - 1,by omega⟩
    rw [spec_l1Text.l0,if_neg (by omega)]
    exact ⟨_,_,_,rfl,hi,by rw [strOfNums_size];omega⟩
  | succ d ih =>
    intro k v i h hi hv hk
    obtain ⟨k,rfl⟩ : ∃ m,k = m + 1 := ⟨k - 1,by omega⟩
    obtain ⟨x,i1,h1,e,hx,hi1⟩ := byte_some h hl hi
    have hw : wrap64 (((d + 1 : Nat) : Int) - 1) = (d : Int) := by rw [wrap64_of (by omega) (by omega)];omega
    have hlen : ∀ y : Int,(v ++ [y]).length = v.length + 1 := fun y => by simp
    have hgo : ∀ y : Int,∃ (s : ByteArray) (i' h' : Int),spec_l1Text.l0 k (v ++ [y]) c (d : Nat) b i1 h1 = some (s,i',h') ∧ 0 ≤ i' ∧ s.size ≤ v.length + (d + 1) := fun y => by
      obtain ⟨s,i',h',e',q1,q2⟩ := ih k (v ++ [y]) i1 h1 hi1 (by rw [hlen];omega) (by omega)
      exact ⟨s,i',h',e',q1,by rw [hlen] at q2;omega⟩
    rw [spec_l1Text.l0,if_pos (by omega),e,Option.bind_some]
    dsimp only
    rw [hw]
    have hvl : v.length < 140737488355328 := by omega
    by_cases c1 : c = 1
    · rw [if_pos c1,if_neg (by omega),if_pos hvl];exact hgo _
    · rw [if_neg c1]
      by_cases c2 : c = 2
      · rw [if_pos c2,if_pos hvl];exact hgo _
      · rw [if_neg c2,if_pos hvl];exact hgo _
theorem text_some {k : Nat} {b : List Int} {i : Int} (h : Int) {m : Nat} (hm : m ≤ 500) (hl : b.length ≤ 9223372036854775807) (hi : 0 ≤ i) (hk : 600 < k) : ∃ (s : ByteArray) (i' h' : Int),spec_l1Text.f k b i h m = some (s,i',h') ∧ 0 ≤ i' ∧ s.size ≤ m := by
  obtain ⟨c,i1,h1,e1,hi1,_,_,_⟩ := below_some h 4 hl hi
  obtain ⟨n,i2,h2,e2,hi2,hn0,hn,_⟩ := below_some h1 ((m : Int) + 1) hl hi1
  have hn := hn (by omega)
  obtain ⟨n,rfl⟩ := Int.eq_ofNat_of_zero_le hn0
  unfold spec_l1Text.f
  rw [e1,Option.bind_some,wrap64_of (by omega) (by omega)]
  dsimp only
  rw [e2,Option.bind_some]
  obtain ⟨s,i',h',e',q1,q2⟩ := text_loop c hl n k [] i2 h2 hi2 (by simp;omega) (by omega)
  exact ⟨s,i',h',e',q1,by simp at q2;omega⟩
theorem one_size (x : Int) : (strOfNums [x]).size = 1 := by rw [strOfNums_size];rfl
theorem spoil_some {k : Nat} {b : List Int} {i : Int} (h : Int) (s : ByteArray) (hs : s.size ≤ 1000) (hl : b.length ≤ 9223372036854775807) (hi : 0 ≤ i) (hk : 600 < k) : ∃ (t : ByteArray) (i' h' : Int),spec_l1Spoil.f k b i h s = some (t,i',h') ∧ 0 ≤ i' ∧ t.size ≤ s.size + 3 := by
  unfold spec_l1Spoil.f
  by_cases h0 : (s.size : Int) = 0
  · obtain ⟨t,i1,h1,e,hi1,ht⟩ := text_some (k := k) h (m := 3) (by omega) hl hi hk
    have e : spec_l1Text.f k b i h 3 = some (t,i1,h1) := e
    rw [if_pos h0,e,Option.bind_some]
    exact ⟨_,_,_,rfl,hi1,by dsimp only;omega⟩
  · obtain ⟨x,i1,h1,e1,hi1,hx0,hx,_⟩ := below_some h (s.size : Int) hl hi
    have hx := hx (by omega)
    obtain ⟨x,rfl⟩ := Int.eq_ofNat_of_zero_le hx0
    obtain ⟨c,i2,h2,e2,hi2,hc0,hc,_⟩ := below_some h1 4 hl hi1
    have hw : wrap64 ((x : Int) + 1) = ((x + 1 : Nat) : Int) := wrap64_succ (by omega)
    have z1 : (s.extract 0 x).size = x := by rw [ByteArray.size_extract];omega
    have z2 : (s.extract (x + 1) s.size).size = s.size - (x + 1) := by rw [ByteArray.size_extract];omega
    have z3 : (s.extract x s.size).size = s.size - x := by rw [ByteArray.size_extract];omega
    rw [if_neg h0,e1,Option.bind_some]
    dsimp only
    rw [e2,Option.bind_some]
    dsimp only
    rw [hw]
    simp only [Int.toNat_natCast]
    have hA : (0 : Int) ≤ (x : Int) := by omega
    have hB : (x : Int) ≤ (s.size : Int) := by omega
    have hC : (0 : Int) ≤ ((x + 1 : Nat) : Int) := by omega
    have hD : ((x + 1 : Nat) : Int) ≤ (s.size : Int) := by omega
    have hE : (x : Int) < (s.size : Int) := by omega
    by_cases c0 : c = 0
    · rw [if_pos c0,if_pos hA,if_pos hB,if_pos hC,if_pos hD,if_pos (by rw [z1,z2];omega)]
      exact ⟨_,_,_,rfl,hi2,by rw [ByteArray.size_append,z1,z2];omega⟩
    · rw [if_neg c0]
      by_cases c1 : c = 1
      · obtain ⟨y,i3,h3,e3,hy,hi3⟩ := byte_some h2 hl hi2
        rw [if_pos c1,if_pos hA,if_pos hB,e3,Option.bind_some,Option.bind_some]
        dsimp only
        rw [if_pos (by rw [z1,one_size];omega),if_pos (by rw [ByteArray.size_append,z1,one_size,z3];omega)]
        exact ⟨_,_,_,rfl,hi3,by rw [ByteArray.size_append,ByteArray.size_append,z1,one_size,z3];omega⟩
      · rw [if_neg c1]
        by_cases c2 : c = 2
        · rw [if_pos c2,if_pos hA,if_pos hB]
          exact ⟨_,_,_,rfl,hi2,by rw [z1];omega⟩
        · obtain ⟨y,i3,h3,e3,hi3,_,_,_⟩ := below_some h2 255 hl hi2
          rw [if_neg c2,if_pos hA,if_pos hB,if_pos hE,e3,Option.bind_some,Option.bind_some]
          dsimp only
          rw [if_pos (by rw [z1,one_size];omega),if_pos hC,if_pos hD,if_pos (by rw [ByteArray.size_append,z1,one_size,z2];omega)]
          exact ⟨_,_,_,rfl,hi3,by rw [ByteArray.size_append,ByteArray.size_append,z1,one_size,z2];omega⟩
theorem drawParse_some {k : Nat} {b : List Int} (hl : b.length ≤ 9223372036854775807) (hk : 5000 < k) : ∃ s : ByteArray,spec_DrawParseTable.f k b = some s := by
  obtain ⟨h,e⟩ := new_some hl (k := k) (by omega)
  obtain ⟨a,w,i1,h1,e1,hi1,q1,q2⟩ := any_some (k := k) h hl (Int.le_refl 0) (by omega)
  obtain ⟨x,i2,h2,e2,hi2⟩ := once_some h1 4 hl hi1
  have hz := fmtI_size a w
  obtain ⟨t,i3,h3,e3,_,_⟩ := spoil_some (k := k) h2 (fmtI a w) (by omega) hl hi2 (by omega)
  unfold spec_DrawParseTable.f
  rw [e,Option.bind_some,e1,Option.bind_some]
  dsimp only
  rw [spec_fmtI a w (by omega),Option.bind_some,e2,Option.bind_some]
  dsimp only
  by_cases hx : x = true
  · rw [if_pos hx,e3,Option.bind_some];exact ⟨_,rfl⟩
  · rw [if_neg hx];exact ⟨_,rfl⟩
theorem drawValue_some {k : Nat} {b : List Int} (hl : b.length ≤ 9223372036854775807) (hk : 5000 < k) : ∃ a w x : Int,spec_DrawValueAt.f k b = some (a,w,x) ∧ I64 w := by
  obtain ⟨h,e⟩ := new_some hl (k := k) (by omega)
  obtain ⟨a,w,i1,h1,e1,hi1,q1,q2⟩ := any_some (k := k) h hl (Int.le_refl 0) (by omega)
  obtain ⟨x,i2,h2,e2,_,_,_,_⟩ := below_some h1 18 hl hi1
  unfold spec_DrawValueAt.f
  rw [e,Option.bind_some,e1,Option.bind_some]
  dsimp only
  rw [e2,Option.bind_some]
  exact ⟨_,_,_,rfl,q2⟩
theorem drawNot_some {k : Nat} {b : List Int} (hl : b.length ≤ 9223372036854775807) (hk : 5000 < k) : ∃ a w : Int,spec_DrawNotTable.f k b = some (a,w) ∧ I64 w := by
  obtain ⟨h,e⟩ := new_some hl (k := k) (by omega)
  obtain ⟨a,w,i1,h1,e1,hi1,q1,q2⟩ := any_some (k := k) h hl (Int.le_refl 0) (by omega)
  unfold spec_DrawNotTable.f
  rw [e,Option.bind_some,e1,Option.bind_some]
  exact ⟨_,_,rfl,q2⟩
theorem drawConst_some {k : Nat} {b : List Int} (hl : b.length ≤ 9223372036854775807) (hk : 5000 < k) : ∃ a w : Int,spec_DrawIsConstant.f k b = some (a,w) ∧ I64 w := by
  obtain ⟨h,e⟩ := new_some hl (k := k) (by omega)
  obtain ⟨a,w,i1,h1,e1,hi1,q1,q2⟩ := any_some (k := k) h hl (Int.le_refl 0) (by omega)
  unfold spec_DrawIsConstant.f
  rw [e,Option.bind_some,e1,Option.bind_some]
  exact ⟨_,_,rfl,q2⟩
theorem drawVar_some {k : Nat} {b : List Int} (hl : b.length ≤ 9223372036854775807) (hk : 5000 < k) : ∃ a i : Int,spec_DrawVariableTable.f k b = some (a,i) := by
  obtain ⟨h,e⟩ := new_some hl (k := k) (by omega)
  obtain ⟨x,i1,h1,e1,hi1,_,_,_⟩ := below_some h 8 hl (Int.le_refl 0)
  obtain ⟨y,i2,h2,e2,_,_,_,_⟩ := below_some h1 7 hl hi1
  unfold spec_DrawVariableTable.f
  rw [e,Option.bind_some,e1,Option.bind_some]
  dsimp only
  rw [e2,Option.bind_some]
  exact ⟨_,_,rfl⟩
theorem andI_snd (a b c d : Int) : (andI a b c d).2.2 = fit a b c d := by unfold andI;cases fit a b c d <;> rfl
theorem orI_snd (a b c d : Int) : (orI a b c d).2.2 = fit a b c d := by unfold orI;cases fit a b c d <;> rfl
theorem xorI_snd (a b c d : Int) : (xorI a b c d).2.2 = fit a b c d := by unfold xorI;cases fit a b c d <;> rfl
theorem FnTables (l : List Int) (_ : l.length ≤ maxLen) (hy : l.length * 1 ≤ 140737488351232) (_ : ∀ x ∈ l,(Lit.int .u8 x).wf = true) : ∃ k,laws_FnTables.f k l = some true := by
  refine ⟨70000,?_⟩
  unfold laws_FnTables.f
  refine if_pos ?_
  by_cases hb : (l.length : Int) > 1048576
  · left
    unfold laws_big.f
    rw [decide_eq_true hb]
  · right
    have hl : l.length ≤ 9223372036854775807 := by omega
    obtain ⟨f1,f2,g1,g2,hd,q1,q2⟩ := drawAnd_some (k := 70000) hl (by decide)
    obtain ⟨t,hdt⟩ := drawParse_some (k := 70000) hl (by decide)
    obtain ⟨v1,v2,vx,hdv,q3⟩ := drawValue_some (k := 70000) hl (by decide)
    obtain ⟨y1,y2,hdn,q4⟩ := drawNot_some (k := 70000) hl (by decide)
    obtain ⟨vb,vc,hdb⟩ := drawVar_some (k := 70000) hl (by decide)
    obtain ⟨c1,c2,hdc,q5⟩ := drawConst_some (k := 70000) hl (by decide)
    obtain ⟨h1,h2,h3,h4,hdd,q6,q7⟩ := drawDist_some (k := 70000) hl (by decide)
    have hpf := parse_fmtI f1 f2
    refine ⟨f1,f2,g1,g2,(andI f1 f2 g1 g2).1,(andI f1 f2 g1 g2).2.1,(orI f1 f2 g1 g2).1,(orI f1 f2 g1 g2).2.1,(xorI f1 f2 g1 g2).1,(xorI f1 f2 g1 g2).2.1,fit f1 f2 g1 g2,fmtI f1 f2,(parseI (fmtI f1 f2)).1,(parseI (fmtI f1 f2)).2.1,isTab f1 f2,t,(parseI t).1,(parseI t).2.1,(parseI t).2.2,v1,v2,vx,y1,y2,(notI y1 y2).1,(notI y1 y2).2.1,(notI y1 y2).2.2,vb,vc,(varI vb vc).1,(varI vb vc).2.1,(varI vb vc).2.2,c1,c2,h1,h2,h3,h4,valI v1 v2 vx,constI c1 c2,distI h1 h2 h3 h4,cntI c1 c2,?_⟩
    exact {
      small := by unfold laws_big.f;rw [decide_eq_false hb]
      draw := hd
      and1 := by rw [← andI_snd];exact impl_and q1 q2
      and2 := by rw [← andI_snd];exact spec_and f1 f2 g1 g2
      or1 := by rw [← orI_snd];exact impl_or q1 q2
      or2 := by rw [← orI_snd];exact spec_or f1 f2 g1 g2
      xor1 := by rw [← xorI_snd];exact impl_xor q1 q2
      xor2 := by rw [← xorI_snd];exact spec_xor f1 f2 g1 g2
      alg := fun h => by
        obtain ⟨n,w,v,rfl,rfl,rfl,rfl,t1,t2⟩ := fit_of h
        unfold andI orI xorI
        rw [if_pos h,if_pos h,if_pos h]
        dsimp only
        rw [and_cast t1.lt63 t2.lt63,or_cast t1.lt63 t2.lt63,xor_cast t1.lt63 t2.lt63]
        exact algebra t1 t2
      fm := impl_fmtI q1.1 q1.2 (by decide)
      ps := by rw [← hpf.1];exact impl_parse _ (by decide)
      fm2 := spec_fmtI f1 f2 (by decide)
      it := spec_isTable f1 f2
      it2 := isTab_I q1
      back := hpf.2
      dp := hdt
      pt := impl_parse t (by decide)
      pt2 := spec_parse t (by decide)
      dv := hdv
      dn := hdn
      nt := impl_notI q4
      nt2 := spec_notI y1 y2
      dva := hdb
      vt := impl_varI vb vc
      vt2 := spec_varI vb vc (by decide)
      dc := hdc
      dd := hdd
      va := impl_valI vx q3
      va2 := spec_valI v1 v2 vx
      ic := impl_constI q5
      ic2 := spec_constI c1 c2
      di := impl_distI q6 q7
      di2 := spec_distI h1 h2 h3 h4 (by decide)
      co := impl_cntI q5
      co2 := spec_cntI c1 c2 (by decide) }
end Go.Proofs.Ytgojehaneegaeaa.U
