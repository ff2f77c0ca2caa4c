/- Walks of Go functions and lemmas on what they compute, for the row of FnLinear (a part of several): each call ends as the Lean function of its name tells; the conditions are those of each theorem. -/
import Derived.Test.YtgojehaneegaeacM1FnLinear
import Derived.Test.YtgojehaneegaeacM2FnLinear
import Derived.Test.YtgojehaneegaeacM3FnLinear
import Derived.Test.YtgojehaneegaeacM4FnLinear
import Derived.Test.YtgojehaneegaeacM5FnLinear
import Derived.Test.YtgojehaneegaeacM6FnLinear
import Derived.Test.YtgojehaneegaeacM7FnLinear
import Derived.Test.YtgojehaneegaeacM8FnLinear
import Derived.Test.YtgojehaneegaeacM9FnLinear
import Derived.Test.YtgojehaneegaeacM10FnLinear
import Derived.Test.YtgojehaneegaeacM11FnLinear
import Derived.Test.YtgojehaneegaeacM12FnLinear
namespace Go.Proofs.Ytgojehaneegaeac.U
open Go.RowKit Go.Proofs.YtgojehaneegaeacW.PrintWords Go.Proofs.YtgojehaneegaeacW.PrintLast Go.Proofs.YtgojehaneegaeacW.PrintMore Go.Proofs.Ytgojehaneegaeac.F Go.Proofs.Ytgojehaneegaeac.B
set_option linter.unusedVariables false
set_option linter.unusedSimpArgs false
def sumR (q : Nat → Nat) : Nat → Nat
  | 0 => 0
  | m + 1 => sumR q m + q m
theorem sumR_le {q : Nat → Nat} {c : Nat} (h : ∀ i,q i ≤ c) : ∀ m,sumR q m ≤ c * m := by
  intro m
  induction m with
  | zero => exact Nat.le_refl _
  | succ m ih => have := h m;rw [sumR,Nat.mul_succ];omega
theorem sumR_zero {q : Nat → Nat} : ∀ m,sumR q m = 0 ↔ ∀ i,i < m → q i = 0 := by
  intro m
  induction m with
  | zero => exact ⟨fun _ i hi => by omega,fun _ => rfl⟩
  | succ m ih =>
    rw [sumR]
    constructor
    · intro h i hi
      by_cases e : i = m
      · subst e;omega
      · exact (ih.mp (by omega)) i (by omega)
    · intro h
      have := h m (by omega)
      have := ih.mpr fun i hi => h i (by omega)
      omega
theorem cntN_none {p : Nat → Bool} : ∀ m,cntN p m = 0 ↔ ∀ i,i < m → p i = false := by
  intro m
  constructor
  · intro h i hi
    cases e : p i with
    | false => rfl
    | true => have := cntN_pos hi e;omega
  · intro h
    induction m with
    | zero => rfl
    | succ m ih => rw [cntN,ih (fun i hi => h i (by omega)),h m (by omega)];rfl
def rejP (w x y : Nat) : Bool := (w.testBit x ^^ w.testBit y) ^^ w.testBit (x ^^^ y)
theorem bit_b (w x : Nat) : ((bitN w x : Nat) : Int) = (((w.testBit x).toNat : Nat) : Int) := rfl
theorem xor_b (a b : Bool) : Go.bits .xor .i64 ((a.toNat : Nat) : Int) ((b.toNat : Nat) : Int) = (((a ^^ b).toNat : Nat) : Int) := by
  rw [xor_cast (by cases a <;> decide) (by cases b <;> decide)]
  cases a <;> cases b <;> rfl
theorem xor_in {n x y : Nat} (hx : x < 2 ^ n) (hy : y < 2 ^ n) : x ^^^ y < 2 ^ n := Nat.xor_lt_two_pow hx hy
theorem impl_rej_in {n w x : Nat} (ht : Tab n w) (hx : x < 2 ^ n) (a : Nat) (ha : a ≤ 5000) : ∀ d k y : Nat,y + d = 2 ^ n →
    impl_TestRejects.l1 (k + d + 1) ((a + cntN (rejP w x) y : Nat) : Int) x ((2 ^ n : Nat) : Int) x ((2 ^ n : Nat) : Int) y n w = impl_TestRejects.l0 k ((a + cntN (rejP w x) (2 ^ n) : Nat) : Int) ((2 ^ n : Nat) : Int) ((x + 1 : Nat) : Int) n w := by
  have hM := pow_le ht.1
  intro d
  induction d with
  | zero =>
    intro k y hy
    obtain rfl : y = 2 ^ n := by omega
    rw [Nat.add_zero,impl_TestRejects.l1,if_neg (by omega),wrap64_succ (by omega)]
  | succ d ih =>
    intro k y hy
    have hc := cntN_le (rejP w x) y
    have hxy := xor_in hx (show y < 2 ^ n by omega)
    rw [show k + (d + 1) + 1 = (k + d + 1) + 1 by omega,impl_TestRejects.l1,if_pos (by omega),at_some' ht.lt63 (by omega),Option.bind_some,at_some' ht.lt63 (by omega),Option.bind_some,xor_cast (by omega) (by omega),at_some' ht.lt63 (by omega),Option.bind_some,bit_b,bit_b,bit_b,xor_b,xor_b,wrap64_succ (by omega)]
    have e : wrap64 (((a + cntN (rejP w x) y : Nat) : Int) + ((((w.testBit x ^^ w.testBit y) ^^ w.testBit (x ^^^ y)).toNat : Nat) : Int)) = ((a + cntN (rejP w x) (y + 1) : Nat) : Int) := by
      have hb : ((w.testBit x ^^ w.testBit y) ^^ w.testBit (x ^^^ y)).toNat ≤ 1 := by cases ((w.testBit x ^^ w.testBit y) ^^ w.testBit (x ^^^ y)) <;> decide
      rw [wrap64_of (by omega) (by omega),cntN]
      show _ = ((a + (cntN (rejP w x) y + ((w.testBit x ^^ w.testBit y) ^^ w.testBit (x ^^^ y)).toNat) : Nat) : Int)
      omega
    rw [e]
    exact ih k (y + 1) (by omega)
theorem shr_bits {w x y z : Nat} : ((w >>> x ^^^ w >>> y) ^^^ w >>> z) &&& 1 = (((w.testBit x ^^ w.testBit y) ^^ w.testBit z)).toNat := by
  have h : ∀ v : Nat,v &&& 1 = (v.testBit 0).toNat := fun v => by
    have := shr_and_one v 0
    rw [Nat.shiftRight_zero] at this
    exact this
  rw [h,Nat.testBit_xor,Nat.testBit_xor,Nat.testBit_shiftRight,Nat.testBit_shiftRight,Nat.testBit_shiftRight]
  simp
theorem spec_rej_in {n w x : Nat} (ht : Tab n w) (hx : x < 2 ^ n) (a : Nat) (ha : a ≤ 5000) : ∀ d k y : Nat,y + d = 2 ^ n →
    spec_TestRejects.l1 (k + d + 1) ((a + cntN (rejP w x) y : Nat) : Int) x y n w = spec_TestRejects.l0 k ((a + cntN (rejP w x) (2 ^ n) : Nat) : Int) ((x + 1 : Nat) : Int) n w := by
  have hM := pow_le ht.1
  have hn := ht.1
  intro d
  induction d with
  | zero =>
    intro k y hy
    obtain rfl : y = 2 ^ n := by omega
    rw [Nat.add_zero,spec_TestRejects.l1,if_pos (Int.natCast_nonneg _),shl1_of (by omega),if_neg (by omega),wrap64_succ (by omega)]
  | succ d ih =>
    intro k y hy
    have hc := cntN_le (rejP w x) y
    have hxy := xor_in hx (show y < 2 ^ n by omega)
    have hw := ht.lt63
    have s1 := shr_lt (w := w) (x := x) hw
    have s2 := shr_lt (w := w) (x := y) hw
    have s3 := shr_lt (w := w) (x := x ^^^ y) hw
    have s4 : w >>> x ^^^ w >>> y < 9223372036854775808 := Nat.xor_lt_two_pow (n := 63) s1 s2
    have s5 : (w >>> x ^^^ w >>> y) ^^^ w >>> (x ^^^ y) < 9223372036854775808 := Nat.xor_lt_two_pow (n := 63) s4 s3
    have e1 : Go.bits .and .i64 (((w >>> x ^^^ w >>> y) ^^^ w >>> (x ^^^ y) : Nat) : Int) 1 = ((((w >>> x ^^^ w >>> y) ^^^ w >>> (x ^^^ y)) &&& 1 : Nat) : Int) := and_cast (b := 1) s5 (by decide)
    rw [show k + (d + 1) + 1 = (k + d + 1) + 1 by omega,spec_TestRejects.l1,if_pos (Int.natCast_nonneg _),shl1_of (by omega),if_pos (by omega),if_pos (Int.natCast_nonneg _),if_pos (Int.natCast_nonneg _),xor_cast (a := x) (b := y) (by omega) (by omega),if_pos (Int.natCast_nonneg _),shr_cast _ _ (by omega),shr_cast _ _ (by omega),shr_cast _ _ (by omega),xor_cast s1 s2,xor_cast s4 s3,e1,shr_bits,wrap64_succ (by omega)]
    have e : wrap64 (((a + cntN (rejP w x) y : Nat) : Int) + ((((w.testBit x ^^ w.testBit y) ^^ w.testBit (x ^^^ y)).toNat : Nat) : Int)) = ((a + cntN (rejP w x) (y + 1) : Nat) : Int) := by
      have hb : ((w.testBit x ^^ w.testBit y) ^^ w.testBit (x ^^^ y)).toNat ≤ 1 := by cases ((w.testBit x ^^ w.testBit y) ^^ w.testBit (x ^^^ y)) <;> decide
      rw [wrap64_of (by omega) (by omega),cntN]
      show _ = ((a + (cntN (rejP w x) y + ((w.testBit x ^^ w.testBit y) ^^ w.testBit (x ^^^ y)).toNat) : Nat) : Int)
      omega
    rw [e]
    exact ih k (y + 1) (by omega)
def rejN (n w : Nat) : Nat := sumR (fun x => cntN (rejP w x) (2 ^ n)) (2 ^ n)
theorem row_le {n w : Nat} (ht : Tab n w) (x : Nat) : sumR (fun x => cntN (rejP w x) (2 ^ n)) x ≤ 32 * x := sumR_le (fun i => Nat.le_trans (cntN_le _ _) (pow_le ht.1)) x
theorem impl_rej_out {n w : Nat} (ht : Tab n w) : ∀ d k x : Nat,x + d = 2 ^ n → d * 40 < k → impl_TestRejects.l0 k ((sumR (fun x => cntN (rejP w x) (2 ^ n)) x : Nat) : Int) ((2 ^ n : Nat) : Int) x n w = some ((rejN n w : Nat) : Int) := by
  have hM := pow_le ht.1
  intro d
  induction d with
  | zero =>
    intro k x hx hk
    obtain ⟨k,rfl⟩ : ∃ m,k = m + 1 := ⟨k - 1,by omega⟩
    obtain rfl : x = 2 ^ n := by omega
    rw [impl_TestRejects.l0,if_neg (by omega)]
    rfl
  | succ d ih =>
    intro k x hx hk
    obtain ⟨k,rfl⟩ : ∃ m,k = m + 2 ^ n + 1 + 1 := ⟨k - 2 ^ n - 2,by omega⟩
    have hr := row_le ht x
    rw [impl_TestRejects.l0,if_pos (by omega),size_some _ (by have := ht.1;omega),Option.bind_some]
    have h := impl_rej_in ht (show x < 2 ^ n by omega) (sumR (fun x => cntN (rejP w x) (2 ^ n)) x) (by omega) (2 ^ n) k 0 (by omega)
    exact h.trans (ih k (x + 1) (by omega) (by omega))
theorem spec_rej_out {n w : Nat} (ht : Tab n w) : ∀ d k x : Nat,x + d = 2 ^ n → d * 40 < k → spec_TestRejects.l0 k ((sumR (fun x => cntN (rejP w x) (2 ^ n)) x : Nat) : Int) x n w = some ((rejN n w : Nat) : Int) := by
  have hM := pow_le ht.1
  have hn := ht.1
  intro d
  induction d with
  | zero =>
    intro k x hx hk
    obtain ⟨k,rfl⟩ : ∃ m,k = m + 1 := ⟨k - 1,by omega⟩
    obtain rfl : x = 2 ^ n := by omega
    rw [spec_TestRejects.l0,if_pos (Int.natCast_nonneg _),shl1_of (by omega),if_neg (by omega)]
    rfl
  | succ d ih =>
    intro k x hx hk
    obtain ⟨k,rfl⟩ : ∃ m,k = m + 2 ^ n + 1 + 1 := ⟨k - 2 ^ n - 2,by omega⟩
    have hr := row_le ht x
    rw [spec_TestRejects.l0,if_pos (Int.natCast_nonneg _),shl1_of (by omega),if_pos (by omega)]
    have h := spec_rej_in ht (show x < 2 ^ n by omega) (sumR (fun x => cntN (rejP w x) (2 ^ n)) x) (by omega) (2 ^ n) k 0 (by omega)
    exact h.trans (ih k (x + 1) (by omega) (by omega))
def rejI (a b : Int) : Int := if isTab a b = true then ((rejN a.toNat b.toNat : Nat) : Int) else -1
theorem impl_rejI {a b : Int} (h0 : -9223372036854775808 ≤ b) (h1 : b ≤ 9223372036854775807) {k : Nat} (hk : 1400 < k) : impl_TestRejects.f k a b = some (rejI a b) := by
  unfold impl_TestRejects.f rejI
  rw [impl_isTable h0 h1,Option.bind_some]
  by_cases h : isTab a b = true
  · obtain ⟨n,w,rfl,rfl,ht⟩ := tab_of h
    have hM := pow_le ht.1
    rw [if_pos h,if_pos h,size_some _ (by have := ht.1;omega),Option.bind_some,Int.toNat_natCast,Int.toNat_natCast]
    exact impl_rej_out ht (2 ^ n) k 0 (by omega) (by omega)
  · rw [if_neg h,if_neg h]
theorem spec_rejI (a b : Int) {k : Nat} (hk : 1400 < k) : spec_TestRejects.f k a b = some (rejI a b) := by
  unfold spec_TestRejects.f rejI
  rw [spec_isTable,Option.bind_some]
  by_cases h : isTab a b = true
  · obtain ⟨n,w,rfl,rfl,ht⟩ := tab_of h
    have hM := pow_le ht.1
    rw [if_pos h,if_pos h,Int.toNat_natCast,Int.toNat_natCast]
    exact spec_rej_out ht (2 ^ n) k 0 (by omega) (by omega)
  · rw [if_neg h,if_neg h]
theorem rej_zero {n w : Nat} : rejN n w = 0 ↔ ∀ x y,x < 2 ^ n → y < 2 ^ n → w.testBit (x ^^^ y) = (w.testBit x ^^ w.testBit y) := by
  unfold rejN
  rw [sumR_zero]
  constructor
  · intro h x y hx hy
    have := (cntN_none _).mp (h x hx) y hy
    unfold rejP at this
    cases h1 : w.testBit x <;> cases h2 : w.testBit y <;> cases h3 : w.testBit (x ^^^ y) <;> rw [h1,h2,h3] at this <;> first | rfl | cases this
  · intro h x hx
    refine (cntN_none _).mpr fun y hy => ?_
    unfold rejP
    rw [h x y hx hy]
    cases w.testBit x <;> cases w.testBit y <;> rfl
theorem aff_bit {n u b x : Nat} (hx : x < 2 ^ n) : (affW n u b).testBit x = affB u b x := by unfold affW;rw [testBit_tabN,decide_eq_true hx,Bool.true_and]
theorem low_bit {x j : Nat} (hj : j < 5) (hx : x < 2 ^ (j + 1)) : (x < 2 ^ j) ∨ (x ^^^ 2 ^ j < 2 ^ j ∧ x = (x ^^^ 2 ^ j) ^^^ 2 ^ j) := by
  by_cases h : x < 2 ^ j
  · exact .inl h
  · right
    refine ⟨?_,(xor_xor x (2 ^ j)).symm⟩
    have hh : ∀ j : Fin 5,∀ x : Fin 32,x.val < 2 ^ (j.val + 1) → ¬ x.val < 2 ^ j.val → x.val ^^^ 2 ^ j.val < 2 ^ j.val := by decide +kernel
    have := pow_le_pow (show j + 1 ≤ 5 by omega)
    exact hh ⟨j,hj⟩ ⟨x,by omega⟩ hx h
theorem pop_bit {u j : Nat} (hu : u < 32) (hj : j < 5) : (pop (u &&& 2 ^ j) % 2 == 1) = u.testBit j := by
  have hh : ∀ u : Fin 32,∀ j : Fin 5,(pop (u.val &&& 2 ^ j.val) % 2 == 1) = u.val.testBit j.val := by decide +kernel
  exact hh ⟨u,hu⟩ ⟨j,hj⟩
theorem par_add (a b : Nat) : ((a + b) % 2 == 1) = ((a % 2 == 1) ^^ (b % 2 == 1)) := by
  rcases Nat.mod_two_eq_zero_or_one a with h1 | h1 <;> rcases Nat.mod_two_eq_zero_or_one b with h2 | h2 <;> rw [Nat.add_mod,h1,h2] <;> rfl
theorem affB_xor {u x y : Nat} (hu : u < 32) (hx : x < 32) (hy : y < 32) : affB u 0 (x ^^^ y) = (affB u 0 x ^^ affB u 0 y) := by
  unfold affB
  rw [Nat.add_zero,Nat.add_zero,Nat.add_zero,pop_xor hu hx hy]
  exact par_add _ _
theorem lin_of {n w : Nat} (hn : n ≤ 5) (h : ∀ x y,x < 2 ^ n → y < 2 ^ n → w.testBit (x ^^^ y) = (w.testBit x ^^ w.testBit y)) : ∀ j : Nat,j ≤ n → ∀ x : Nat,x < 2 ^ j → w.testBit x = affB (tabN (fun i => w.testBit (2 ^ i)) n) 0 x := by
  have hul := tabN_lt (fun i => w.testBit (2 ^ i)) n
  have hM := pow_le hn
  have h00 := h 0 0 (pow_pos n) (pow_pos n)
  rw [Nat.xor_self] at h00
  have h0 : w.testBit 0 = false := by rw [h00];cases w.testBit 0 <;> rfl
  intro j
  induction j with
  | zero =>
    intro _ x hx
    obtain rfl : x = 0 := by simpa using hx
    rw [h0]
    unfold affB
    rw [Nat.and_zero]
    rfl
  | succ j ih =>
    intro hj x hx
    rcases low_bit (show j < 5 by omega) hx with h1 | ⟨h1,h2⟩
    · exact ih (by omega) x h1
    · have hp := pow_lt (show j < n by omega)
      have hpj := pow_le_pow (show j + 1 ≤ n by omega)
      generalize hz : x ^^^ 2 ^ j = z at h1 h2
      clear hz
      subst h2
      rw [h _ _ (by omega) hp,ih (by omega) _ h1,affB_xor (by omega) (by omega) (by omega)]
      congr 1
      show w.testBit (2 ^ j) = (pop (tabN (fun i => w.testBit (2 ^ i)) n &&& 2 ^ j) % 2 == 1)
      rw [pop_bit (by omega) (by omega),testBit_tabN,decide_eq_true (show j < n by omega),Bool.true_and]
theorem rej_iff {n w : Nat} (ht : Tab n w) : rejN n w = 0 ↔ Affine n w ∧ w.testBit 0 = false := by
  have hM := pow_le ht.1
  rw [rej_zero]
  constructor
  · intro h
    have hl := lin_of ht.1 h n (Nat.le_refl n)
    have hw : w = affW n (tabN (fun i => w.testBit (2 ^ i)) n) 0 := by
      refine word_ext (m := 2 ^ n) ht.2 (tabN_lt _ _) fun x hx => ?_
      rw [aff_bit hx]
      exact hl x hx
    refine ⟨⟨_,0,tabN_lt _ _,by decide,hw⟩,?_⟩
    rw [hl 0 (pow_pos n)]
    unfold affB
    rw [Nat.and_zero]
    rfl
  · rintro ⟨⟨u,b,hu,hb,rfl⟩,h0⟩ x y hx hy
    rw [aff_bit (pow_pos n)] at h0
    have hb0 : b = 0 := by
      unfold affB at h0
      rw [Nat.and_zero] at h0
      rcases (show b = 0 ∨ b = 1 by omega) with rfl | rfl
      · rfl
      · cases h0
    subst hb0
    rw [aff_bit (xor_in hx hy),aff_bit hx,aff_bit hy]
    exact affB_xor (by omega) (by omega) (by omega)
def resW (m w i b : Nat) : Nat := tabN (fun x => w.testBit (ins x i b)) (2 ^ m)
theorem impl_restrict {m w i b : Nat} (ht : Tab (m + 1) w) (hi : i < m + 1) (hb : b ≤ 1) : impl_Table_restrict.f ((m + 1 : Nat) : Int) w i b = some ((m : Int),((resW m w i b : Nat) : Int)) := by
  have := ht.lt
  have := ht.1
  unfold impl_Table_restrict.f
  rw [if_pos (by omega)]
  simp only [Int.toNat_natCast,Nat.add_sub_cancel]
  rw [show (((m + 1 : Nat) : Int) - 1) = (m : Int) by omega]
  rfl
end Go.Proofs.Ytgojehaneegaeac.U
namespace Go.Proofs.Ytgojehaneegaeac.U
open Go.RowKit Go.Proofs.YtgojehaneegaeacW.PrintWords Go.Proofs.YtgojehaneegaeacW.PrintLast Go.Proofs.YtgojehaneegaeacW.PrintMore Go.Proofs.Ytgojehaneegaeac.F Go.Proofs.Ytgojehaneegaeac.B
set_option linter.unusedVariables false
set_option linter.unusedSimpArgs false
def dep (n w i : Nat) : Bool := resW (n - 1) w i 0 != resW (n - 1) w i 1
theorem int_ne (a b : Nat) : (((a : Nat) : Int) != ((b : Nat) : Int)) = (a != b) := by
  by_cases h : a = b
  · subst h;simp
  · have : ((a : Int)) ≠ b := by omega
    rw [bne_iff_ne.mpr h,bne_iff_ne.mpr this]
theorem impl_depends {n w i : Nat} (ht : Tab n w) (hi : i < n) : impl_Table_depends.f n w i = some (dep n w i) := by
  obtain ⟨m,rfl⟩ : ∃ m,n = m + 1 := ⟨n - 1,by omega⟩
  have e0 : impl_Table_restrict.f ((m + 1 : Nat) : Int) w i 0 = some ((m : Int),((resW m w i 0 : Nat) : Int)) := impl_restrict (b := 0) ht (by omega) (by omega)
  have e1 : impl_Table_restrict.f ((m + 1 : Nat) : Int) w i 1 = some ((m : Int),((resW m w i 1 : Nat) : Int)) := impl_restrict (b := 1) ht (by omega) (by omega)
  unfold impl_Table_depends.f
  rw [e0]
  simp only [Option.bind_some]
  rw [e1]
  simp only [Option.bind_some,beq_self_eq_true,Bool.not_true,Bool.false_or]
  congr 1
  exact int_ne _ _
end Go.Proofs.Ytgojehaneegaeac.U
namespace Go.Proofs.Ytgojehaneegaeac.U
open Go.RowKit Go.Proofs.YtgojehaneegaeacW.PrintWords Go.Proofs.YtgojehaneegaeacW.PrintLast Go.Proofs.YtgojehaneegaeacW.PrintMore Go.Proofs.Ytgojehaneegaeac.F Go.Proofs.Ytgojehaneegaeac.B
set_option linter.unusedVariables false
set_option linter.unusedSimpArgs false
end Go.Proofs.Ytgojehaneegaeac.U
namespace Go.Proofs.Ytgojehaneegaeac.U
open Go.RowKit Go.Proofs.YtgojehaneegaeacW.PrintWords Go.Proofs.YtgojehaneegaeacW.PrintLast Go.Proofs.YtgojehaneegaeacW.PrintMore Go.Proofs.Ytgojehaneegaeac.F Go.Proofs.Ytgojehaneegaeac.B
set_option linter.unusedVariables false
set_option linter.unusedSimpArgs false
set_option maxRecDepth 100000
end Go.Proofs.Ytgojehaneegaeac.U
namespace Go.Proofs.Ytgojehaneegaeac.U
open Go.RowKit Go.Proofs.YtgojehaneegaeacW.PrintWords Go.Proofs.YtgojehaneegaeacW.PrintLast Go.Proofs.YtgojehaneegaeacW.PrintMore Go.Proofs.Ytgojehaneegaeac.F Go.Proofs.Ytgojehaneegaeac.B
set_option linter.unusedVariables false
set_option linter.unusedSimpArgs false
set_option maxRecDepth 100000
end Go.Proofs.Ytgojehaneegaeac.U
namespace Go.Proofs.Ytgojehaneegaeac.U
open Go.RowKit Go.Proofs.YtgojehaneegaeacW.PrintWords Go.Proofs.YtgojehaneegaeacW.PrintLast Go.Proofs.YtgojehaneegaeacW.PrintMore Go.Proofs.Ytgojehaneegaeac.F Go.Proofs.Ytgojehaneegaeac.B
set_option linter.unusedVariables false
set_option linter.unusedSimpArgs false
theorem insert_some {x i b : Nat} (hx : x < 16) (hi : i < 5) (hb : b ≤ 1) : spec_l3Insert.f x i b = some ((ins x i b : Nat) : Int) := by
  have h : ∀ x : Fin 16,∀ i : Fin 5,∀ b : Fin 2,spec_l3Insert.f ((x : Nat) : Int) ((i : Nat) : Int) ((b : Nat) : Int) = some ((ins x i b : Nat) : Int) := by decide +kernel
  exact h ⟨x,hx⟩ ⟨i,hi⟩ ⟨b,by omega⟩
theorem pred_succ_cast {m : Nat} (h : m < 9223372036854775807) : wrap64 (((m + 1 : Nat) : Int) - 1) = (m : Int) := by rw [wrap64_of (by omega) (by omega)];omega
theorem restrict_loop {m w i b : Nat} (ht : Tab (m + 1) w) (hi : i < m + 1) (hb : b ≤ 1) : ∀ d k x,x + d = 2 ^ m → d < k →
    spec_l3Restrict.l0 k i b ((orN (fun x => bitN w (ins x i b) <<< x) x : Nat) : Int) x ((m + 1 : Nat) : Int) w = some ((m : Int),((orN (fun x => bitN w (ins x i b) <<< x) (2 ^ m) : Nat) : Int)) := by
  have hm := ht.1
  have hM := pow_le_pow (n := m) (m := 4) (by omega)
  intro d
  induction d with
  | zero =>
    intro k x hx hk
    obtain ⟨k,rfl⟩ : ∃ m,k = m + 1 := ⟨k - 1,by omega⟩
    obtain rfl : x = 2 ^ m := by omega
    simp only [spec_l3Restrict.l0]
    rw [pred_succ_cast (by omega),if_pos (by omega),shl1_of (by omega),if_neg (by omega)]
  | succ d ih =>
    intro k x hx hk
    obtain ⟨k,rfl⟩ : ∃ m,k = m + 1 := ⟨k - 1,by omega⟩
    have hlt : x < 2 ^ m := by omega
    have hy := ins_lt (show x < 16 by omega) (show i < 5 by omega) hb
    have hc := @bitN_shl_lt w (ins x i b) x 32 (by omega)
    have ho : orN (fun x => bitN w (ins x i b) <<< x) x < 2 ^ 32 := orN_lt fun j hj => bitN_shl_lt (by omega)
    simp only [spec_l3Restrict.l0]
    rw [pred_succ_cast (by omega),if_pos (by omega),shl1_of (by omega),if_pos (by exact_mod_cast hlt),insert_some (by omega) (by omega) hb]
    simp only [Option.bind_some]
    rw [if_pos (Int.natCast_nonneg _),if_pos (Int.natCast_nonneg _),bit_cast ht.lt63 (by omega),shl_cast (by omega) (by omega),or_cast (by omega) (by omega),wrap64_succ (by omega)]
    exact ih k (x + 1) (by omega) (by omega)
theorem spec_restrict {m w i b k : Nat} (ht : Tab (m + 1) w) (hi : i < m + 1) (hb : b ≤ 1) (hk : 32 < k) : spec_l3Restrict.f k ((m + 1 : Nat) : Int) w i b = some ((m : Int),((resW m w i b : Nat) : Int)) := by
  have hm := ht.1
  have hM := pow_le_pow (n := m) (m := 4) (by omega)
  have h := restrict_loop ht hi hb (2 ^ m) k 0 (by omega) (by omega)
  rw [orN_tab w (fun x => ins x i b) (2 ^ m)] at h
  exact h
def monoAt (n w i : Nat) : Bool := ldiff (resW (n - 1) w i 0) (resW (n - 1) w i 1) == 0
def mono (n w : Nat) : Bool := allN (monoAt n w) n
end Go.Proofs.Ytgojehaneegaeac.U
namespace Go.Proofs.Ytgojehaneegaeac.U
open Go.RowKit Go.Proofs.YtgojehaneegaeacW.PrintWords Go.Proofs.YtgojehaneegaeacW.PrintLast Go.Proofs.YtgojehaneegaeacW.PrintMore Go.Proofs.Ytgojehaneegaeac.F Go.Proofs.Ytgojehaneegaeac.B
set_option linter.unusedVariables false
set_option linter.unusedSimpArgs false
theorem bit_eq_one {w x : Nat} : ((((bitN w x : Nat) : Int)) = 1) ↔ w.testBit x = true := by
  rw [← bitN_eq_one]
  exact ⟨fun h => by exact_mod_cast h,fun h => by exact_mod_cast h⟩
def filtN (p : Nat → Bool) : Nat → List Int
  | 0 => []
  | m + 1 => if p m then filtN p m ++ [(m : Int)] else filtN p m
theorem filtN_length (p : Nat → Bool) (m : Nat) : (filtN p m).length ≤ m := by
  induction m with
  | zero => exact Nat.le_refl _
  | succ m ih => rw [filtN];split
                 · rw [List.length_append,List.length_singleton];omega
                 · omega
def difP (w s x : Nat) : Bool := w.testBit x ^^ w.testBit (x ^^^ s)
def autA (w s m : Nat) : Int := (m : Int) - 2 * ((cntN (difP w s) m : Nat) : Int)
theorem autA_succ (w s m : Nat) : autA w s (m + 1) = autA w s m + (if difP w s m = true then -1 else 1) := by
  unfold autA
  rw [cntN]
  cases difP w s m with
  | true => rw [if_pos rfl];show ((m + 1 : Nat) : Int) - 2 * ((cntN (difP w s) m + 1 : Nat) : Int) = _;omega
  | false => rw [if_neg (by decide)];show ((m + 1 : Nat) : Int) - 2 * ((cntN (difP w s) m + 0 : Nat) : Int) = _;omega
theorem autA_le (w s m : Nat) : -(m : Int) ≤ autA w s m ∧ autA w s m ≤ m := by
  have := cntN_le (difP w s) m
  unfold autA
  omega
theorem sign_two (a b : Bool) : impl_sign.f (wrap64 (((a.toNat : Nat) : Int) + ((b.toNat : Nat) : Int))) = some (if (a ^^ b) = true then -1 else 1) := by
  cases a <;> cases b <;> decide +kernel
def autL (n w : Nat) (m : Nat) : List Int := (List.range m).map fun s => autA w s (2 ^ n)
theorem autL_succ (n w m : Nat) : autL n w (m + 1) = autL n w m ++ [autA w m (2 ^ n)] := by simp [autL,List.range_succ]
theorem autL_length (n w m : Nat) : (autL n w m).length = m := by simp [autL]
theorem aut_set (n w s d : Nat) (a b : Int) : (autL n w s ++ a :: List.replicate d 0).set s b = autL n w s ++ b :: List.replicate d 0 := by
  rw [List.set_append,if_neg (by rw [autL_length];omega),autL_length,Nat.sub_self,List.set_cons_zero]
theorem aut_get (n w s d : Nat) (a : Int) : rd (autL n w s ++ a :: List.replicate d 0) (s : Int) = a := by
  unfold rd
  rw [Int.toNat_natCast,List.getD_eq_getElem?_getD,List.getElem?_append_right (by rw [autL_length];omega),autL_length,Nat.sub_self]
  rfl
theorem bit_b2 (w x : Nat) : ((bitN w x : Nat) : Int) = (((w.testBit x).toNat : Nat) : Int) := rfl
theorem impl_aut_in {n w s e : Nat} (ht : Tab n w) (hs : s + e + 1 = 2 ^ n) : ∀ d k x : Nat,x + d = 2 ^ n →
    impl_Table_autocorrelation.l1 (k + d + 1) (autL n w s ++ autA w s x :: List.replicate e 0) s ((2 ^ n : Nat) : Int) s ((2 ^ n : Nat) : Int) x n w = impl_Table_autocorrelation.l0 k (autL n w (s + 1) ++ List.replicate e 0) ((2 ^ n : Nat) : Int) ((s + 1 : Nat) : Int) n w := by
  have hM := pow_le ht.1
  intro d
  induction d with
  | zero =>
    intro k x hx
    obtain rfl : x = 2 ^ n := by omega
    rw [Nat.add_zero,impl_Table_autocorrelation.l1,if_neg (by omega),wrap64_succ (by omega),autL_succ,List.append_assoc]
    rfl
  | succ d ih =>
    intro k x hx
    have hxs : x ^^^ s < 2 ^ n := Nat.xor_lt_two_pow (by omega) (by omega)
    have ha := autA_le w s x
    have e1 := autA_succ w s x
    rw [show k + (d + 1) + 1 = (k + d + 1) + 1 by omega,impl_Table_autocorrelation.l1,if_pos (by omega),if_pos (Int.natCast_nonneg _),if_pos (by rw [List.length_append,autL_length,List.length_cons,List.length_replicate];omega),at_some' ht.lt63 (by omega),Option.bind_some,xor_cast (by omega) (by omega),at_some' ht.lt63 (by omega),Option.bind_some,bit_b2,bit_b2,sign_two,Option.bind_some,aut_get,Int.toNat_natCast,aut_set,wrap64_succ (by omega)]
    have e2 : wrap64 (autA w s x + (if (w.testBit x ^^ w.testBit (x ^^^ s)) = true then -1 else 1)) = autA w s (x + 1) := by
      rw [e1]
      unfold difP
      rw [wrap64_of (by split <;> omega) (by split <;> omega)]
    rw [e2]
    exact ih k (x + 1) (by omega)
theorem impl_aut_out {n w : Nat} (ht : Tab n w) : ∀ d k s : Nat,s + d = 2 ^ n → d * 40 < k → impl_Table_autocorrelation.l0 k (autL n w s ++ List.replicate d 0) ((2 ^ n : Nat) : Int) s n w = some (autL n w (2 ^ n)) := by
  have hM := pow_le ht.1
  intro d
  induction d with
  | zero =>
    intro k s hs hk
    obtain ⟨k,rfl⟩ : ∃ m,k = m + 1 := ⟨k - 1,by omega⟩
    obtain rfl : s = 2 ^ n := by omega
    rw [impl_Table_autocorrelation.l0,if_neg (by omega),List.replicate_zero,List.append_nil]
  | succ d ih =>
    intro k s hs hk
    obtain ⟨k,rfl⟩ : ∃ m,k = m + 2 ^ n + 1 + 1 := ⟨k - 2 ^ n - 2,by omega⟩
    rw [impl_Table_autocorrelation.l0,if_pos (by omega),size_some _ (by have := ht.1;omega),Option.bind_some]
    have h := impl_aut_in ht (show s + d + 1 = 2 ^ n by omega) (2 ^ n) k 0 (by omega)
    have e : autA w s 0 = 0 := rfl
    rw [e] at h
    exact h.trans (ih k (s + 1) (by omega) (by omega))
theorem impl_aut {n w k : Nat} (ht : Tab n w) (hk : 1400 < k) : impl_Table_autocorrelation.f k n w = some (autL n w (2 ^ n)) := by
  have hM := pow_le ht.1
  unfold impl_Table_autocorrelation.f
  rw [size_some _ (by have := ht.1;omega),Option.bind_some,if_pos (Int.natCast_nonneg _),if_pos (by omega),Option.bind_some,Int.toNat_natCast,List.length_replicate]
  exact impl_aut_out ht (2 ^ n) k 0 (by omega) (by omega)
theorem sign12 {k : Nat} (b : Bool) (hk : 40 ≤ k) : spec_l12Sign.f k ((b.toNat : Nat) : Int) = some (if b = true then -1 else 1) := by
  unfold spec_l12Sign.f
  have hc : ∀ b : Bool,cnt b.toNat = b.toNat := by decide +kernel
  rw [cnt_ref (by cases b <;> decide) (by omega),Option.bind_some,hc]
  cases b <;> rfl
theorem spec_aut_in {n w s : Nat} (ht : Tab n w) (hs : s < 2 ^ n) (L : List Int) (hL : L.length ≤ 1000) : ∀ d k x : Nat,60 ≤ k → x + d = 2 ^ n →
    spec_AutocorrelationOf.l1 (k + d + 1) L s (autA w s x) x n w = spec_AutocorrelationOf.l0 k (L ++ [autA w s (2 ^ n)]) ((s + 1 : Nat) : Int) n w := by
  have hM := pow_le ht.1
  have hn := ht.1
  intro d
  induction d with
  | zero =>
    intro k x hk hx
    obtain rfl : x = 2 ^ n := by omega
    rw [Nat.add_zero,spec_AutocorrelationOf.l1,if_pos (Int.natCast_nonneg _),shl1_of (by omega),if_neg (by omega),if_pos (by omega),wrap64_succ (by omega)]
  | succ d ih =>
    intro k x hk hx
    have hxs : x ^^^ s < 2 ^ n := Nat.xor_lt_two_pow (by omega) hs
    have ha := autA_le w s x
    have e1 := autA_succ w s x
    rw [show k + (d + 1) + 1 = (k + d + 1) + 1 by omega,spec_AutocorrelationOf.l1,if_pos (Int.natCast_nonneg _),shl1_of (by omega),if_pos (by omega),if_pos (Int.natCast_nonneg _),bit_cast ht.lt63 (by omega),bit_b2,sign12 _ (by omega),Option.bind_some,xor_cast (by omega) (by omega),if_pos (Int.natCast_nonneg _),bit_cast ht.lt63 (by omega),bit_b2,sign12 _ (by omega),Option.bind_some,wrap64_succ (by omega)]
    have e2 : wrap64 (autA w s x + wrap64 ((if w.testBit x = true then (-1 : Int) else 1) * (if w.testBit (x ^^^ s) = true then (-1 : Int) else 1))) = autA w s (x + 1) := by
      rw [e1]
      unfold difP
      cases w.testBit x <;> cases w.testBit (x ^^^ s)
      · show wrap64 (autA w s x + wrap64 (1 * 1)) = autA w s x + 1
        rw [wrap64_of (n := 1 * 1) (by decide) (by decide),wrap64_of (by omega) (by omega)];rfl
      · show wrap64 (autA w s x + wrap64 (1 * -1)) = autA w s x + -1
        rw [wrap64_of (n := 1 * -1) (by decide) (by decide),wrap64_of (by omega) (by omega)];rfl
      · show wrap64 (autA w s x + wrap64 (-1 * 1)) = autA w s x + -1
        rw [wrap64_of (n := -1 * 1) (by decide) (by decide),wrap64_of (by omega) (by omega)];rfl
      · show wrap64 (autA w s x + wrap64 (-1 * -1)) = autA w s x + 1
        rw [wrap64_of (n := -1 * -1) (by decide) (by decide),wrap64_of (by omega) (by omega)];rfl
    rw [e2]
    exact ih k (x + 1) hk (by omega)
theorem spec_aut_out {n w : Nat} (ht : Tab n w) : ∀ d k s : Nat,s + d = 2 ^ n → d * 40 + 70 < k → spec_AutocorrelationOf.l0 k (autL n w s) s n w = some (autL n w (2 ^ n)) := by
  have hM := pow_le ht.1
  have hn := ht.1
  have hi : spec_IsTable.f n w = some true := by rw [spec_isTable,isTab_of ht]
  intro d
  induction d with
  | zero =>
    intro k s hs hk
    obtain ⟨k,rfl⟩ : ∃ m,k = m + 2 := ⟨k - 2,by omega⟩
    obtain rfl : s = 2 ^ n := by omega
    rw [spec_AutocorrelationOf.l0,hi,Option.bind_some,if_pos rfl,if_pos (Int.natCast_nonneg _),shl1_of (by omega),decide_eq_false (by omega),spec_AutocorrelationOf.j1,if_neg (by decide)]
  | succ d ih =>
    intro k s hs hk
    obtain ⟨k,rfl⟩ : ∃ m,k = m + 2 ^ n + 1 + 1 + 1 := ⟨k - 2 ^ n - 3,by omega⟩
    rw [spec_AutocorrelationOf.l0,hi,Option.bind_some,if_pos rfl,if_pos (Int.natCast_nonneg _),shl1_of (by omega),decide_eq_true (by omega),spec_AutocorrelationOf.j1,if_pos rfl]
    have h := spec_aut_in ht (show s < 2 ^ n by omega) (autL n w s) (by rw [autL_length];omega) (2 ^ n) k 0 (by omega) (by omega)
    rw [← autL_succ] at h
    exact h.trans (ih k (s + 1) (by omega) (by omega))
theorem spec_aut_I (a b : Int) {k : Nat} (hk : 1500 < k) : spec_AutocorrelationOf.f k a b = some (if isTab a b = true then autL a.toNat b.toNat (2 ^ a.toNat) else []) := by
  unfold spec_AutocorrelationOf.f
  by_cases h : isTab a b = true
  · obtain ⟨n,w,rfl,rfl,ht⟩ := tab_of h
    have hM := pow_le ht.1
    rw [if_pos h,Int.toNat_natCast,Int.toNat_natCast]
    exact spec_aut_out ht (2 ^ n) k 0 (by omega) (by omega)
  · obtain ⟨k,rfl⟩ : ∃ m,k = m + 2 := ⟨k - 2,by omega⟩
    rw [if_neg h,spec_AutocorrelationOf.l0,spec_isTable,Option.bind_some,if_neg h,spec_AutocorrelationOf.j1,if_neg (by decide)]
def strP (n w s : Nat) : Bool := allN (fun x => difP w s x) (2 ^ n) || allN (fun x => !difP w s x) (2 ^ n)
theorem cntN_full {p : Nat → Bool} : ∀ m,cntN p m = m ↔ ∀ i,i < m → p i = true := by
  intro m
  induction m with
  | zero => exact ⟨fun _ i hi => by omega,fun _ => rfl⟩
  | succ m ih =>
    have hl := cntN_le p m
    rw [cntN]
    constructor
    · intro h i hi
      have hb : (p m).toNat ≤ 1 := by cases p m <;> decide
      by_cases e : i = m
      · subst e
        cases hp : p i with
        | true => rfl
        | false => rw [hp] at h;have : cntN p i + 0 = i + 1 := h;omega
      · exact (ih.mp (by omega)) i (by omega)
    · intro h
      rw [ih.mpr fun i hi => h i (by omega),h m (by omega)]
      rfl
theorem aut_str {n w s : Nat} (hn : n ≤ 5) : (autA w s (2 ^ n) = ((2 ^ n : Nat) : Int) ∨ autA w s (2 ^ n) = -((2 ^ n : Nat) : Int)) ↔ strP n w s = true := by
  have hl := cntN_le (difP w s) (2 ^ n)
  unfold strP autA
  rw [Bool.or_eq_true,allN_iff,allN_iff,← cntN_full]
  constructor
  · rintro (h | h)
    · right
      intro i hi
      have h0 : cntN (difP w s) (2 ^ n) = 0 := by omega
      cases e : difP w s i with
      | false => rfl
      | true => have := cntN_pos hi e;omega
    · left;omega
  · rintro (h | h)
    · right;omega
    · left
      have h0 : cntN (difP w s) (2 ^ n) = 0 := by
        have : ∀ m,m ≤ 2 ^ n → cntN (difP w s) m = 0 := by
          intro m
          induction m with
          | zero => intro _;rfl
          | succ m ih =>
            intro hm
            have := h m (by omega)
            rw [cntN,ih (by omega)]
            cases e : difP w s m with
            | false => rfl
            | true => rw [e] at this;cases this
        exact this _ (Nat.le_refl _)
      omega
theorem autL_get {n w m s : Nat} (h : s < m) : rd (autL n w m) (s : Int) = autA w s (2 ^ n) := by
  unfold rd autL
  rw [Int.toNat_natCast,List.getD_eq_getElem?_getD,List.getElem?_map,List.getElem?_range h]
  rfl
theorem size1_some {x : Int} (h0 : -100 ≤ x) (h1 : x ≤ 100) : impl_size1.f x = some (if x < 0 then -x else x) := by
  unfold impl_size1.f
  rw [wrap64_of (by omega) (by omega)]
  congr 1
  unfold mx
  split <;> split <;> omega
theorem impl_str_loop {n w : Nat} (ht : Tab n w) : ∀ d k s : Nat,s + d = 2 ^ n → d < k → impl_LinearStructures.l0 k (filtN (strP n w) s) (autL n w (2 ^ n)) ((2 ^ n : Nat) : Int) s n w = some (filtN (strP n w) (2 ^ n),true) := by
  have hM := pow_le ht.1
  intro d
  induction d with
  | zero =>
    intro k s hs hk
    obtain ⟨k,rfl⟩ : ∃ m,k = m + 1 := ⟨k - 1,by omega⟩
    obtain rfl : s = 2 ^ n := by omega
    rw [impl_LinearStructures.l0,if_neg (by omega)]
  | succ d ih =>
    intro k s hs hk
    obtain ⟨k,rfl⟩ : ∃ m,k = m + 1 := ⟨k - 1,by omega⟩
    have ha := autA_le w s (2 ^ n)
    have hl := filtN_length (strP n w) s
    have hst := @aut_str n w s ht.1
    have hn := ih k (s + 1) (by omega) (by omega)
    rw [filtN] at hn
    rw [impl_LinearStructures.l0,if_pos (by omega),if_pos (Int.natCast_nonneg _),if_pos (by rw [autL_length];omega),autL_get (by omega),size1_some (by omega) (by omega),Option.bind_some,size_some _ (by have := ht.1;omega),Option.bind_some,wrap64_succ (by omega)]
    by_cases h : strP n w s = true
    · have hq := hst.mpr h
      rw [if_pos (by split <;> omega),if_pos (by omega)]
      rw [if_pos h] at hn
      exact hn
    · have hq : ¬ (autA w s (2 ^ n) = ((2 ^ n : Nat) : Int) ∨ autA w s (2 ^ n) = -((2 ^ n : Nat) : Int)) := fun z => h (hst.mp z)
      rw [if_neg (by split <;> omega)]
      rw [if_neg h] at hn
      exact hn
theorem spec_str_loop {n w : Nat} (ht : Tab n w) : ∀ d k s : Nat,s + d = 2 ^ n → d < k → spec_LinearStructures.l0 k (filtN (strP n w) s) (autL n w (2 ^ n)) s = some (filtN (strP n w) (2 ^ n),true) := by
  have hM := pow_le ht.1
  have hp := pow_pos n
  intro d
  induction d with
  | zero =>
    intro k s hs hk
    obtain ⟨k,rfl⟩ : ∃ m,k = m + 1 := ⟨k - 1,by omega⟩
    obtain rfl : s = 2 ^ n := by omega
    rw [spec_LinearStructures.l0,autL_length,if_neg (by omega),decide_eq_true (by omega)]
  | succ d ih =>
    intro k s hs hk
    obtain ⟨k,rfl⟩ : ∃ m,k = m + 1 := ⟨k - 1,by omega⟩
    have ha := autA_le w s (2 ^ n)
    have hl := filtN_length (strP n w) s
    have hst := @aut_str n w s ht.1
    have hn := ih k (s + 1) (by omega) (by omega)
    rw [filtN] at hn
    rw [spec_LinearStructures.l0,autL_length,if_pos (by omega),if_pos (Int.natCast_nonneg _),autL_get (by omega),wrap64_succ (by omega),wrap64_of (n := -((2 ^ n : Nat) : Int)) (by omega) (by omega)]
    by_cases h : strP n w s = true
    · rw [if_pos h] at hn
      by_cases h1 : autA w s (2 ^ n) = ((2 ^ n : Nat) : Int)
      · rw [if_pos h1,if_pos (by omega)];exact hn
      · have h2 := (hst.mpr h).resolve_left h1
        rw [if_neg h1,if_pos h2,if_pos (by omega)];exact hn
    · rw [if_neg h] at hn
      rw [if_neg (fun z => h (hst.mp (.inl z))),if_neg (fun z => h (hst.mp (.inr z)))]
      exact hn
def strI (a b : Int) : List Int × Bool := if isTab a b = true then (filtN (strP a.toNat b.toNat) (2 ^ a.toNat),true) else ([],false)
theorem impl_strI {a b : Int} (h0 : -9223372036854775808 ≤ b) (h1 : b ≤ 9223372036854775807) {k : Nat} (hk : 1500 < k) : impl_LinearStructures.f k a b = some (strI a b) := by
  unfold impl_LinearStructures.f strI
  rw [impl_isTable h0 h1,Option.bind_some]
  by_cases h : isTab a b = true
  · obtain ⟨n,w,rfl,rfl,ht⟩ := tab_of h
    have hM := pow_le ht.1
    rw [if_pos h,if_pos h,impl_aut ht (by omega),Option.bind_some,Int.toNat_natCast,Int.toNat_natCast,autL_length]
    exact impl_str_loop ht (2 ^ n) k 0 (by omega) (by omega)
  · rw [if_neg h,if_neg h]
theorem spec_strI (a b : Int) {k : Nat} (hk : 1600 < k) : spec_LinearStructures.f k a b = some (strI a b) := by
  unfold spec_LinearStructures.f strI
  rw [spec_aut_I a b (by omega),Option.bind_some]
  by_cases h : isTab a b = true
  · obtain ⟨n,w,rfl,rfl,ht⟩ := tab_of h
    have hM := pow_le ht.1
    rw [if_pos h,if_pos h,Int.toNat_natCast,Int.toNat_natCast]
    exact spec_str_loop ht (2 ^ n) k 0 (by omega) (by omega)
  · obtain ⟨k,rfl⟩ : ∃ m,k = m + 1 := ⟨k - 1,by omega⟩
    rw [if_neg h,if_neg h,spec_LinearStructures.l0]
    rfl
theorem str_iff {n w s : Nat} : strP n w s = true ↔ ∃ c : Bool,∀ x,x < 2 ^ n → w.testBit (x ^^^ s) = (w.testBit x ^^ c) := by
  unfold strP
  rw [Bool.or_eq_true,allN_iff,allN_iff]
  constructor
  · rintro (h | h)
    · refine ⟨true,fun x hx => ?_⟩
      have := h x hx
      unfold difP at this
      cases h1 : w.testBit x <;> cases h2 : w.testBit (x ^^^ s) <;> rw [h1,h2] at this <;> first | rfl | cases this
    · refine ⟨false,fun x hx => ?_⟩
      have := h x hx
      unfold difP at this
      cases h1 : w.testBit x <;> cases h2 : w.testBit (x ^^^ s) <;> rw [h1,h2] at this <;> first | rfl | cases this
  · rintro ⟨c,h⟩
    cases c with
    | true => left;intro x hx;unfold difP;rw [h x hx];cases w.testBit x <;> rfl
    | false => right;intro x hx;unfold difP;rw [h x hx];cases w.testBit x <;> rfl
theorem str_xor {n w s t : Nat} (hs : s < 2 ^ n) (h1 : strP n w s = true) (h2 : strP n w t = true) : strP n w (s ^^^ t) = true := by
  obtain ⟨c,hc⟩ := str_iff.mp h1
  obtain ⟨e,he⟩ := str_iff.mp h2
  refine str_iff.mpr ⟨c ^^ e,fun x hx => ?_⟩
  rw [← Nat.xor_assoc,he _ (Nat.xor_lt_two_pow hx hs),hc x hx,Bool.xor_assoc]
end Go.Proofs.Ytgojehaneegaeac.U
namespace Go.Proofs.Ytgojehaneegaeac.U
open Go.RowKit Go.Proofs.YtgojehaneegaeacW.PrintWords Go.Proofs.YtgojehaneegaeacW.PrintLast Go.Proofs.YtgojehaneegaeacW.PrintMore Go.Proofs.Ytgojehaneegaeac.F Go.Proofs.Ytgojehaneegaeac.B
set_option linter.unusedVariables false
set_option linter.unusedSimpArgs false
set_option maxRecDepth 100000
def anfW (n w : Nat) : Nat := tabN (impl_Table_anf.p n w) (2 ^ n)
theorem anfW_lt (n w : Nat) : anfW n w < 2 ^ 2 ^ n := tabN_lt _ _
theorem anf_x_xor (a b m : Nat) : ∀ x,impl_Table_anf.x (a ^^^ b) m x = (impl_Table_anf.x a m x ^^ impl_Table_anf.x b m x) := by
  intro x
  induction x with
  | zero => rfl
  | succ x ih =>
    rw [impl_Table_anf.x,impl_Table_anf.x,impl_Table_anf.x,ih,Nat.testBit_xor]
    cases impl_Table_anf.x a m x <;> cases impl_Table_anf.x b m x <;> cases (ldiff x m == 0) <;> cases a.testBit x <;> cases b.testBit x <;> rfl
theorem anfW_xor (n a b : Nat) : anfW n (a ^^^ b) = anfW n a ^^^ anfW n b := by
  refine word_ext (m := 2 ^ n) (anfW_lt _ _) (Nat.xor_lt_two_pow (anfW_lt _ _) (anfW_lt _ _)) fun m hm => ?_
  unfold anfW
  rw [Nat.testBit_xor,testBit_tabN,testBit_tabN,testBit_tabN,decide_eq_true hm,Bool.true_and,Bool.true_and,Bool.true_and]
  exact anf_x_xor _ _ _ _
theorem anfW_zero (n : Nat) : anfW n 0 = 0 := by
  have h := anfW_xor n 0 0
  rw [Nat.xor_self,Nat.xor_self] at h
  exact h
theorem anf_one {n j : Nat} (hn : n ≤ 5) (hj : j < 2 ^ n) : anfW n (anfW n (2 ^ j)) = 2 ^ j := by
  have hh : ∀ n : Fin 6,∀ j : Fin 32,j.val < 2 ^ n.val → anfW n.val (anfW n.val (2 ^ j.val)) = 2 ^ j.val := by decide +kernel
  have := pow_le hn
  exact hh ⟨n,by omega⟩ ⟨j,by omega⟩ hj
theorem split_top {w j : Nat} (h : w < 2 ^ (j + 1)) : w < 2 ^ j ∨ (w ^^^ 2 ^ j < 2 ^ j ∧ w = (w ^^^ 2 ^ j) ^^^ 2 ^ j) := by
  by_cases h0 : w.testBit j = true
  · right
    refine ⟨lt_pow_of_testBit fun i hi => ?_,(xor_xor w (2 ^ j)).symm⟩
    rw [Nat.testBit_xor,Nat.testBit_two_pow]
    by_cases e : j = i
    · subst e;rw [h0,decide_eq_true rfl];rfl
    · rw [testBit_ge h (by omega),decide_eq_false e];rfl
  · left
    refine lt_pow_of_testBit fun i hi => ?_
    by_cases e : j = i
    · subst e;simpa using h0
    · exact testBit_ge h (by omega)
theorem anf_back {n : Nat} (hn : n ≤ 5) : ∀ m : Nat,m ≤ 2 ^ n → ∀ w : Nat,w < 2 ^ m → anfW n (anfW n w) = w := by
  intro m
  induction m with
  | zero =>
    intro _ w hw
    obtain rfl : w = 0 := by simpa using hw
    rw [anfW_zero,anfW_zero]
  | succ m ih =>
    intro hm w hw
    rcases split_top hw with h | ⟨h,e⟩
    · exact ih (by omega) w h
    · rw [e,anfW_xor,anfW_xor,ih (by omega) _ h,anf_one hn (by omega)]
def linB (n u b m : Nat) : Bool := (m == 0 && b == 1) || exN (fun i => u.testBit i && m == 2 ^ i) n
def linW (n u b : Nat) : Nat := tabN (linB n u b) (2 ^ n)
theorem lin_anf {n u b : Nat} (hn : n ≤ 5) (hu : u < 2 ^ n) (hb : b ≤ 1) : anfW n (linW n u b) = affW n u b := by
  have hh : ∀ n : Fin 6,∀ u : Fin 32,∀ b : Fin 2,u.val < 2 ^ n.val → anfW n.val (linW n.val u.val b.val) = affW n.val u.val b.val := by decide +kernel
  have := pow_le hn
  exact hh ⟨n,by omega⟩ ⟨u,by omega⟩ ⟨b,by omega⟩ hu
theorem small_set {n m : Nat} (hn : n ≤ 5) (hm : m < 2 ^ n) (hp : pop m ≤ 1) : m = 0 ∨ ∃ i,i < n ∧ m = 2 ^ i := by
  have hh : ∀ n : Fin 6,∀ m : Fin 32,m.val < 2 ^ n.val → pop m.val ≤ 1 → m.val = 0 ∨ ∃ i : Fin 5,i.val < n.val ∧ m.val = 2 ^ i.val := by decide +kernel
  have := pow_le hn
  rcases hh ⟨n,by omega⟩ ⟨m,by omega⟩ hm hp with h | ⟨i,h1,h2⟩
  · exact .inl h
  · exact .inr ⟨i.val,h1,h2⟩
theorem pop_pow {i : Nat} (hi : i < 5) : pop (2 ^ i) = 1 := by
  have hh : ∀ i : Fin 5,pop (2 ^ i.val) = 1 := by decide +kernel
  exact hh ⟨i,hi⟩
def LowDeg (n w : Nat) : Prop := ∀ m,m < 2 ^ n → (anfW n w).testBit m = true → pop m ≤ 1
theorem low_iff {n w : Nat} (ht : Tab n w) : LowDeg n w ↔ Affine n w := by
  have hn := ht.1
  have hM := pow_le hn
  constructor
  · intro h
    have hul := tabN_lt (fun i => (anfW n w).testBit (2 ^ i)) n
    have hb : ((anfW n w).testBit 0).toNat ≤ 1 := by cases (anfW n w).testBit 0 <;> decide
    have e : anfW n w = linW n (tabN (fun i => (anfW n w).testBit (2 ^ i)) n) ((anfW n w).testBit 0).toNat := by
      refine word_ext (m := 2 ^ n) (anfW_lt _ _) (tabN_lt _ _) fun m hm => ?_
      unfold linW
      rw [testBit_tabN,decide_eq_true hm,Bool.true_and]
      unfold linB
      by_cases hp : pop m ≤ 1
      · rcases small_set hn hm hp with rfl | ⟨i,hi,rfl⟩
        · have hx : exN (fun i => (tabN (fun i => (anfW n w).testBit (2 ^ i)) n).testBit i && 0 == 2 ^ i) n = false := by
            cases hq : exN (fun i => (tabN (fun i => (anfW n w).testBit (2 ^ i)) n).testBit i && 0 == 2 ^ i) n with
            | false => rfl
            | true =>
              obtain ⟨i,_,hz⟩ := exN_iff.mp hq
              rw [Bool.and_eq_true,beq_iff_eq] at hz
              have := pow_pos i
              omega
          rw [hx]
          cases (anfW n w).testBit 0 <;> rfl
        · have h0 : ((2 ^ i : Nat) == 0) = false := by rw [beq_eq_false_iff_ne];have := pow_pos i;omega
          rw [h0,Bool.false_and,Bool.false_or,Bool.eq_iff_iff,exN_iff]
          constructor
          · intro hz
            exact ⟨i,hi,by rw [testBit_tabN,decide_eq_true hi,hz,beq_self_eq_true];rfl⟩
          · rintro ⟨j,hj,hz⟩
            rw [Bool.and_eq_true,beq_iff_eq] at hz
            obtain ⟨z1,z2⟩ := hz
            rw [testBit_tabN,decide_eq_true hj,Bool.true_and] at z1
            rw [z2];exact z1
      · have hz : (anfW n w).testBit m = false := by
          cases e : (anfW n w).testBit m with
          | false => rfl
          | true => exact absurd (h m hm e) hp
        have h0 : (m == 0) = false := by
          rw [beq_eq_false_iff_ne]
          rintro rfl
          exact hp (by decide)
        rw [hz,h0,Bool.false_and,Bool.false_or]
        symm
        cases hq : exN (fun i => (tabN (fun i => (anfW n w).testBit (2 ^ i)) n).testBit i && m == 2 ^ i) n with
        | false => rfl
        | true =>
          obtain ⟨i,hi,hx⟩ := exN_iff.mp hq
          rw [Bool.and_eq_true,beq_iff_eq] at hx
          rw [hx.2,pop_pow (by omega)] at hp
          exact absurd (Nat.le_refl 1) hp
    refine ⟨_,_,hul,hb,?_⟩
    rw [← lin_anf hn hul hb,← e]
    exact (anf_back hn (2 ^ n) (Nat.le_refl _) w ht.2).symm
  · rintro ⟨u,b,hu,hb,rfl⟩ m hm hbit
    have hlt : linW n u b < 2 ^ 2 ^ n := tabN_lt _ _
    rw [← lin_anf hn hu hb,anf_back hn (2 ^ n) (Nat.le_refl _) _ hlt] at hbit
    unfold linW at hbit
    rw [testBit_tabN,decide_eq_true hm,Bool.true_and] at hbit
    unfold linB at hbit
    rw [Bool.or_eq_true,Bool.and_eq_true,beq_iff_eq] at hbit
    rcases hbit with ⟨rfl,_⟩ | h
    · decide
    · obtain ⟨i,hi,hx⟩ := exN_iff.mp h
      rw [Bool.and_eq_true,beq_iff_eq] at hx
      rw [hx.2,pop_pow (by omega)]
      decide
theorem deg_le {p : Nat → Bool} {c : Nat → Int} {t : Int} (ht : -1 ≤ t) : ∀ m,impl_degree.v p c m ≤ t ↔ ∀ x,x < m → p x = true → c x ≤ t := by
  intro m
  induction m with
  | zero => exact ⟨fun _ x hx => by omega,fun _ => ht⟩
  | succ m ih =>
    rw [impl_degree.v]
    constructor
    · intro h x hx hp
      by_cases e : x = m
      · subst e;rw [if_pos hp] at h;omega
      · refine ih.mp ?_ x (by omega) hp
        split at h <;> omega
    · intro h
      have h1 := ih.mpr fun x hx hp => h x (by omega) hp
      split
      next hp => have := h m (by omega) hp;omega
      next => exact h1
theorem deg_c {x : Nat} (hx : x < 32) : impl_DegreeMod2.c x = ((pop x : Nat) : Int) := by
  have hh : ∀ x : Fin 32,impl_DegreeMod2.c x.val = ((pop x.val : Nat) : Int) := by decide +kernel
  exact hh ⟨x,hx⟩
def degI (n w : Nat) : Int := impl_degree.v (fun x => (anfW n w).testBit x) impl_DegreeMod2.c (2 ^ n)
theorem impl_deg {n w : Nat} (ht : Tab n w) : impl_DegreeMod2.f n w = some (degI n w) := by
  have hM := pow_le ht.1
  have hw := ht.lt
  unfold impl_DegreeMod2.f
  rw [impl_isTable (by omega) (by omega),isTab_of ht,Option.bind_some,if_pos rfl,Int.toNat_natCast,Int.toNat_natCast,if_pos ⟨by have := ht.1;omega,allN_iff.mpr fun x hx => by
    unfold impl_DegreeMod2.okx
    rw [ones_small (by omega),deg_c (by omega)]
    exact decide_eq_true rfl⟩]
  rfl
theorem deg_iff {n w : Nat} (ht : Tab n w) : degI n w ≤ 1 ↔ Affine n w := by
  have hM := pow_le ht.1
  rw [← low_iff ht]
  unfold degI LowDeg
  rw [deg_le (by decide)]
  constructor
  · intro h m hm hb
    have := h m hm hb
    rw [deg_c (by omega)] at this
    omega
  · intro h m hm hb
    have := h m hm hb
    rw [deg_c (by omega)]
    omega
end Go.Proofs.Ytgojehaneegaeac.U
namespace Go.Proofs.Ytgojehaneegaeac.U
open Go.RowKit Go.Proofs.YtgojehaneegaeacW.PrintWords Go.Proofs.YtgojehaneegaeacW.PrintLast Go.Proofs.YtgojehaneegaeacW.PrintMore Go.Proofs.Ytgojehaneegaeac.F Go.Proofs.Ytgojehaneegaeac.B
set_option linter.unusedVariables false
set_option linter.unusedSimpArgs false
theorem spec_depends {n w i k : Nat} (ht : Tab n w) (hi : i < n) (hk : 32 < k) : spec_l3Depends.f k n w i = some (dep n w i) := by
  obtain ⟨m,rfl⟩ : ∃ m,n = m + 1 := ⟨n - 1,by omega⟩
  have e0 : spec_l3Restrict.f k ((m + 1 : Nat) : Int) w i 0 = some ((m : Int),((resW m w i 0 : Nat) : Int)) := spec_restrict (b := 0) ht (by omega) (by omega) hk
  have e1 : spec_l3Restrict.f k ((m + 1 : Nat) : Int) w i 1 = some ((m : Int),((resW m w i 1 : Nat) : Int)) := spec_restrict (b := 1) ht (by omega) (by omega) hk
  unfold spec_l3Depends.f
  rw [e0]
  simp only [Option.bind_some]
  rw [e1]
  simp only [Option.bind_some]
  congr 1
  exact int_ne _ _
def varW (n i : Nat) : Nat := tabN (fun x => x.testBit i) (2 ^ n)
theorem varW_lt (n i : Nat) : varW n i < 2 ^ 2 ^ n := tabN_lt _ _
theorem var_loop {n i : Nat} (hn : n ≤ 5) (hi : i < 5) : ∀ d k x,x + d = 2 ^ n → d < k →
    spec_l2Variable.l0 k n i ((tabN (fun x => x.testBit i) x : Nat) : Int) x = some ((varW n i : Nat) : Int) := by
  have hM := pow_le hn
  intro d
  induction d with
  | zero =>
    intro k x hx hk
    obtain ⟨k,rfl⟩ : ∃ m,k = m + 1 := ⟨k - 1,by omega⟩
    obtain rfl : x = 2 ^ n := by omega
    simp only [spec_l2Variable.l0]
    rw [if_pos (by omega),shl1_of (by omega),if_neg (by omega)]
    rfl
  | succ d ih =>
    intro k x hx hk
    obtain ⟨k,rfl⟩ : ∃ m,k = m + 1 := ⟨k - 1,by omega⟩
    have hlt : x < 2 ^ n := by omega
    have hl := tabN_lt63 (fun x => x.testBit i) (m := x) (by omega)
    have hp := pow_lt (n := x) (m := 32) (by omega)
    have e := ih k (x + 1) (by omega) (by omega)
    simp only [spec_l2Variable.l0]
    rw [if_pos (by omega),shl1_of (by omega),if_pos (by exact_mod_cast hlt),if_pos (by omega),bit_cast (by omega) (by omega),wrap64_succ (by omega)]
    cases hb : x.testBit i with
    | true =>
      rw [tabN_true (p := fun x => x.testBit i) hb] at e
      rw [if_pos (bit_eq_one.mpr hb),if_pos (by omega),shl1_of (by omega),or_cast hl (by omega)]
      exact e
    | false =>
      rw [tabN_false (p := fun x => x.testBit i) hb] at e
      rw [if_neg (by rw [bit_eq_one,hb];decide)]
      exact e
theorem spec_var {n i k : Nat} (hn : n ≤ 5) (hi : i < 5) (hk : 32 < k) : spec_l2Variable.f k n i = some ((varW n i : Nat) : Int) := by
  have := pow_le hn
  exact var_loop hn hi (2 ^ n) k 0 (by omega) (by omega)
theorem and255 (a : Int) : ∃ x : Nat,x < 256 ∧ Go.bits .and .i64 a 255 = (x : Int) := by
  have hlt : (BitVec.ofInt 64 a).toNat &&& 255 < 256 := Nat.lt_of_le_of_lt Nat.and_le_right (by decide)
  refine ⟨(BitVec.ofInt 64 a).toNat &&& 255,hlt,?_⟩
  have e : (BitVec.ofInt 64 a &&& BitVec.ofInt 64 255).toNat = (BitVec.ofInt 64 a).toNat &&& 255 := by rw [BitVec.toNat_and];rfl
  simp only [Go.bits,IntKind.bits]
  exact (congrArg (fun m : Nat => IntKind.i64.wrap (m : Int)) e).trans (wrap_of (by omega) (by omega))
theorem byte_some {b : List Int} {i : Int} (h : Int) (hb : b.length ≤ 9223372036854775807) (hi : 0 ≤ i) : ∃ (x : Nat) (i' h' : Int),spec_l1Byte.f b i h = some ((x : Int),i',h') ∧ x < 256 ∧ 0 ≤ i' := by
  unfold spec_l1Byte.f
  by_cases hl : i < (b.length : Int)
  · rw [if_pos hl,if_pos hi]
    obtain ⟨x,hx,e⟩ := and255 (wrap64 ((Go.bits .and .i64 (Go.bits .xor .i64 ((wrap64 ((wrap64 (h * 6364136223846793005)) + 1442695040888963407)) / 8589934592) ((wrap64 ((wrap64 (h * 6364136223846793005)) + 1442695040888963407)) / 35184372088832)) 255) + (wrap64 (rd b i))))
    rw [e]
    exact ⟨x,_,_,rfl,hx,by rw [wrap64_of (by omega) (by omega)];omega⟩
  · rw [if_neg hl]
    obtain ⟨x,hx,e⟩ := and255 (Go.bits .xor .i64 ((wrap64 ((wrap64 (h * 6364136223846793005)) + 1442695040888963407)) / 8589934592) ((wrap64 ((wrap64 (h * 6364136223846793005)) + 1442695040888963407)) / 35184372088832))
    rw [e]
    exact ⟨x,_,_,rfl,hx,hi⟩
theorem four_bytes {x y z v : Nat} (hx : x < 256) (hy : y < 256) (hz : z < 256) (hv : v < 256) : 0 ≤ wrap64 ((wrap64 ((wrap64 ((wrap64 ((x : Int) * 16777216)) + (wrap64 ((y : Int) * 65536)))) + (wrap64 ((z : Int) * 256)))) + (v : Int)) := by
  obtain ⟨p,hp⟩ : ∃ p : Int,p = (x : Int) * 16777216 := ⟨_,rfl⟩
  obtain ⟨q,hq⟩ : ∃ q : Int,q = (y : Int) * 65536 := ⟨_,rfl⟩
  obtain ⟨r,hr⟩ : ∃ r : Int,r = (z : Int) * 256 := ⟨_,rfl⟩
  have p1 : 0 ≤ p ∧ p ≤ 4278190080 := by omega
  have q1 : 0 ≤ q ∧ q ≤ 16711680 := by omega
  have r1 : 0 ≤ r ∧ r ≤ 65280 := by omega
  rw [← hp,← hq,← hr,wrap64_of (n := p) (by omega) (by omega),wrap64_of (n := q) (by omega) (by omega),wrap64_of (n := r) (by omega) (by omega),wrap64_of (n := p + q) (by omega) (by omega),wrap64_of (n := p + q + r) (by omega) (by omega),wrap64_of (n := p + q + r + (v : Int)) (by omega) (by omega)]
  omega
theorem below_some {b : List Int} {i : Int} (h n : Int) (hb : b.length ≤ 9223372036854775807) (hi : 0 ≤ i) : ∃ (x i' h' : Int),spec_l1Below.f b i h n = some (x,i',h') ∧ 0 ≤ i' ∧ 0 ≤ x ∧ (0 < n → x < n) ∧ (n ≤ 0 → x = 0) := by
  unfold spec_l1Below.f
  by_cases h0 : n ≤ 0
  · rw [if_pos h0];exact ⟨0,i,h,rfl,hi,by omega,fun q => by omega,fun _ => rfl⟩
  · rw [if_neg h0]
    have hp : 0 < n := by omega
    by_cases h1 : n ≤ 256
    · obtain ⟨x,i1,h1',e,hx,hi1⟩ := byte_some h hb hi
      rw [if_pos h1,e,Option.bind_some,if_neg (by omega)]
      exact ⟨_,_,_,rfl,hi1,Int.tmod_nonneg n (Int.natCast_nonneg x),fun _ => Int.tmod_lt_of_pos _ hp,fun q => absurd q h0⟩
    · obtain ⟨x,i1,h1',e1,hx,hi1⟩ := byte_some h hb hi
      obtain ⟨y,i2,h2',e2,hy,hi2⟩ := byte_some h1' hb hi1
      obtain ⟨z,i3,h3',e3,hz,hi3⟩ := byte_some h2' hb hi2
      obtain ⟨v,i4,h4',e4,hv,hi4⟩ := byte_some h3' hb hi3
      rw [if_neg h1,e1,Option.bind_some,e2,Option.bind_some,e3,Option.bind_some,e4,Option.bind_some,if_neg (by omega)]
      exact ⟨_,_,_,rfl,hi4,Int.tmod_nonneg n (four_bytes hx hy hz hv),fun _ => Int.tmod_lt_of_pos _ hp,fun q => absurd q h0⟩
theorem once_some {b : List Int} {i : Int} (h n : Int) (hb : b.length ≤ 9223372036854775807) (hi : 0 ≤ i) : ∃ (x : Bool) (i' h' : Int),spec_l1Once.f b i h n = some (x,i',h') ∧ 0 ≤ i' := by
  obtain ⟨x,i1,h1,e,hi1,_⟩ := below_some h n hb hi
  unfold spec_l1Once.f
  rw [e,Option.bind_some]
  exact ⟨_,_,_,rfl,hi1⟩
theorem pick_some {b l : List Int} {i : Int} (h : Int) (hb : b.length ≤ 9223372036854775807) (hi : 0 ≤ i) (hl : 0 < l.length) : ∃ (x i' h' : Int),spec_l1PickInt.f b i h l = some (x,i',h') ∧ 0 ≤ i' ∧ x ∈ l := by
  obtain ⟨x,i1,h1,e,hi1,hx,hxl,_⟩ := below_some h (l.length : Int) hb hi
  have hlt := hxl (by omega)
  unfold spec_l1PickInt.f
  rw [e,Option.bind_some,if_pos hx,if_pos hlt]
  refine ⟨_,_,_,rfl,hi1,?_⟩
  obtain ⟨m,rfl⟩ := Int.eq_ofNat_of_zero_le hx
  show rd l (m : Int) ∈ l
  unfold rd
  have hm : m < l.length := by omega
  rw [Int.toNat_natCast,List.getD_eq_getElem?_getD,List.getElem?_eq_getElem hm]
  exact List.getElem_mem hm
theorem new_loop {b : List Int} (hb : b.length ≤ 9223372036854775807) : ∀ (d k : Nat) (h : Int) (x : Nat),x + d = 4000 → d < k → ∃ h' : Int,spec_l1New.l0 k b h x = some (b,0,h') := by
  intro d
  induction d with
  | zero =>
    intro k h x hx hk
    obtain ⟨k,rfl⟩ : ∃ m,k = m + 1 := ⟨k - 1,by omega⟩
    rw [spec_l1New.l0]
    by_cases hl : (x : Int) < (b.length : Int)
    · rw [if_pos hl,if_neg (by omega)];exact ⟨h,rfl⟩
    · rw [if_neg hl];exact ⟨h,rfl⟩
  | succ d ih =>
    intro k h x hx hk
    obtain ⟨k,rfl⟩ : ∃ m,k = m + 1 := ⟨k - 1,by omega⟩
    rw [spec_l1New.l0]
    by_cases hl : (x : Int) < (b.length : Int)
    · rw [if_pos hl,if_pos (by omega),if_pos (Int.natCast_nonneg _),wrap64_succ (by omega)]
      exact ih k _ (x + 1) (by omega) (by omega)
    · rw [if_neg hl];exact ⟨h,rfl⟩
theorem new_some {b : List Int} (hb : b.length ≤ 9223372036854775807) {k : Nat} (hk : 4000 < k) : ∃ h' : Int,spec_l1New.f k b = some (b,0,h') := new_loop hb 4000 k _ 0 (by omega) (by omega)
def TabR (n : Nat) (o : Option (Int × Int × Int × Int)) : Prop := ∃ (w i h : Int),o = some ((n : Int),w,i,h) ∧ 0 ≤ i ∧ 0 ≤ w ∧ w ≤ 4294967295 ∧ w ≤ ((2 ^ 2 ^ n - 1 : Nat) : Int)
theorem end_some {n : Nat} {w i h : Int} (hn : n ≤ 5) (hi : 0 ≤ i) (x : Nat) (hw : w = (x : Int)) (hx : x < 4294967296) : TabR n (if (n : Int) = 0 then ((spec_l2Full.f n).bind fun t => (some ((n : Int),Go.bits .and .i64 (Go.bits .and .i64 w 1) t,i,h))) else ((spec_l2Full.f n).bind fun t => (some ((n : Int),Go.bits .and .i64 w t,i,h)))) := by
  subst hw
  have hF := full_le hn
  have e1 : Go.bits .and .i64 ((x : Nat) : Int) 1 = ((x &&& 1 : Nat) : Int) := and_cast (b := 1) (by omega) (by decide)
  have l1 : x &&& 1 ≤ x := Nat.and_le_left
  split
  · rw [full_some hn,Option.bind_some,e1,and_cast (by omega) (by omega)]
    have l2 : (x &&& 1) &&& (2 ^ 2 ^ n - 1) ≤ x &&& 1 := Nat.and_le_left
    have l3 : (x &&& 1) &&& (2 ^ 2 ^ n - 1) ≤ 2 ^ 2 ^ n - 1 := Nat.and_le_right
    exact ⟨_,i,h,rfl,hi,Int.natCast_nonneg _,by omega,by omega⟩
  · rw [full_some hn,Option.bind_some,and_cast (by omega) (by omega)]
    have l2 : x &&& (2 ^ 2 ^ n - 1) ≤ x := Nat.and_le_left
    have l3 : x &&& (2 ^ 2 ^ n - 1) ≤ 2 ^ 2 ^ n - 1 := Nat.and_le_right
    exact ⟨_,i,h,rfl,hi,Int.natCast_nonneg _,by omega,by omega⟩
theorem or_lt32 {a b : Nat} (ha : a < 4294967296) (hb : b < 4294967296) : a ||| b < 4294967296 := Nat.or_lt_two_pow (n := 32) ha hb
theorem bit_lt32 {x : Nat} (hx : x < 32) : 2 ^ x < 4294967296 := Nat.lt_of_lt_of_le (Nat.pow_lt_pow_right (by decide) hx) (by decide)
theorem draw_l0 {n : Nat} {b : List Int} (hn : n ≤ 5) : ∀ (d k w x : Nat) (i h : Int),x + d = 2 ^ n → w < 4294967296 → 0 ≤ i → d + 40 < k → TabR n (spec_l2Draw.l0 k n w x b i h) := by
  have hp := pow_le hn
  intro d
  induction d with
  | zero =>
    intro k w x i h hx hw hi hk
    obtain ⟨k,rfl⟩ : ∃ m,k = m + 1 := ⟨k - 1,by omega⟩
    rw [spec_l2Draw.l0,if_pos (Int.natCast_nonneg _),shl1_of (by omega),if_neg (by omega)]
    exact end_some hn hi w rfl hw
  | succ d ih =>
    intro k w x i h hx hw hi hk
    obtain ⟨k,rfl⟩ : ∃ m,k = m + 1 := ⟨k - 1,by omega⟩
    have hx32 : x < 32 := by omega
    have hb := bit_lt32 hx32
    rw [spec_l2Draw.l0,if_pos (Int.natCast_nonneg _),shl1_of (by omega),if_pos (by omega),cnt_ref (by omega) (by omega),Option.bind_some,wrap64_succ (by omega)]
    split
    · rw [if_pos (Int.natCast_nonneg _),shl1_of (by omega),or_cast (by omega) (by omega)]
      exact ih k (w ||| 2 ^ x) (x + 1) i h (by omega) (or_lt32 hw hb) hi (by omega)
    · exact ih k w (x + 1) i h (by omega) hw hi (by omega)
theorem draw_l1 {n : Nat} {b : List Int} (hn : n ≤ 5) : ∀ (d k w x : Nat) (i h : Int),x + d = 2 ^ n → w < 4294967296 → 0 ≤ i → d + 40 < k → TabR n (spec_l2Draw.l1 k n w x b i h) := by
  have hp := pow_le hn
  intro d
  induction d with
  | zero =>
    intro k w x i h hx hw hi hk
    obtain ⟨k,rfl⟩ : ∃ m,k = m + 1 := ⟨k - 1,by omega⟩
    rw [spec_l2Draw.l1,if_pos (Int.natCast_nonneg _),shl1_of (by omega),if_neg (by omega)]
    exact end_some hn hi w rfl hw
  | succ d ih =>
    intro k w x i h hx hw hi hk
    obtain ⟨k,rfl⟩ : ∃ m,k = m + 1 := ⟨k - 1,by omega⟩
    have hx32 : x < 32 := by omega
    have hb := bit_lt32 hx32
    rw [spec_l2Draw.l1,if_pos (Int.natCast_nonneg _),shl1_of (by omega),if_pos (by omega),cnt_ref (by omega) (by omega),Option.bind_some,wrap64_succ (by omega)]
    split
    · rw [if_pos (Int.natCast_nonneg _),shl1_of (by omega),or_cast (by omega) (by omega)]
      exact ih k (w ||| 2 ^ x) (x + 1) i h (by omega) (or_lt32 hw hb) hi (by omega)
    · exact ih k w (x + 1) i h (by omega) hw hi (by omega)
theorem draw_l2 {n : Nat} {b : List Int} (c : Int) (hn : n ≤ 5) : ∀ (d k w x : Nat) (i h : Int),x + d = 2 ^ n → w < 4294967296 → 0 ≤ i → d + 40 < k → TabR n (spec_l2Draw.l2 k n w c x b i h) := by
  have hp := pow_le hn
  intro d
  induction d with
  | zero =>
    intro k w x i h hx hw hi hk
    obtain ⟨k,rfl⟩ : ∃ m,k = m + 1 := ⟨k - 1,by omega⟩
    rw [spec_l2Draw.l2,if_pos (Int.natCast_nonneg _),shl1_of (by omega),if_neg (by omega)]
    exact end_some hn hi w rfl hw
  | succ d ih =>
    intro k w x i h hx hw hi hk
    obtain ⟨k,rfl⟩ : ∃ m,k = m + 1 := ⟨k - 1,by omega⟩
    have hx32 : x < 32 := by omega
    have hb := bit_lt32 hx32
    rw [spec_l2Draw.l2,if_pos (Int.natCast_nonneg _),shl1_of (by omega),if_pos (by omega),wrap64_succ (by omega)]
    split
    · rw [if_pos (Int.natCast_nonneg _),shl1_of (by omega),or_cast (by omega) (by omega)]
      exact ih k (w ||| 2 ^ x) (x + 1) i h (by omega) (or_lt32 hw hb) hi (by omega)
    · exact ih k w (x + 1) i h (by omega) hw hi (by omega)
theorem draw_l3 {n : Nat} {b : List Int} (hl : b.length ≤ 9223372036854775807) (hn : n ≤ 5) : ∀ (d k w x : Nat) (i h : Int),x + d = 2 ^ n → w < 4294967296 → 0 ≤ i → d + 40 < k → TabR n (spec_l2Draw.l3 k n w x b i h) := by
  have hp := pow_le hn
  intro d
  induction d with
  | zero =>
    intro k w x i h hx hw hi hk
    obtain ⟨k,rfl⟩ : ∃ m,k = m + 1 := ⟨k - 1,by omega⟩
    rw [spec_l2Draw.l3,if_pos (Int.natCast_nonneg _),shl1_of (by omega),if_neg (by omega)]
    exact end_some hn hi w rfl hw
  | succ d ih =>
    intro k w x i h hx hw hi hk
    obtain ⟨k,rfl⟩ : ∃ m,k = m + 1 := ⟨k - 1,by omega⟩
    have hx32 : x < 32 := by omega
    have hb := bit_lt32 hx32
    obtain ⟨v,i1,h1,e,hi1,hv0,hv2,_⟩ := below_some h 2 hl hi
    obtain ⟨m,rfl⟩ := Int.eq_ofNat_of_zero_le hv0
    have hm : m < 2 := by have := hv2 (by decide);omega
    have hs : m <<< x < 4294967296 := by
      rw [Nat.shiftLeft_eq]
      have : m * 2 ^ x ≤ 1 * 2 ^ x := Nat.mul_le_mul_right _ (by omega)
      omega
    have hsc : shl .i64 (m : Int) (x : Int) = ((m <<< x : Nat) : Int) := shl_cast (by omega) (by omega)
    rw [spec_l2Draw.l3,if_pos (Int.natCast_nonneg _),shl1_of (by omega),if_pos (by omega),e,Option.bind_some,if_pos (Int.natCast_nonneg _),wrap64_succ (by omega)]
    dsimp only
    rw [hsc,or_cast (by omega) (by omega)]
    exact ih k (w ||| m <<< x) (x + 1) i1 h1 (by omega) (or_lt32 hw hs) hi1 (by omega)
theorem draw_some {n k : Nat} {b : List Int} {i : Int} (h : Int) (hl : b.length ≤ 9223372036854775807) (hn : n ≤ 5) (hi : 0 ≤ i) (hk : 100 < k) : TabR n (spec_l2Draw.f k b i h n) := by
  have hp := pow_le hn
  obtain ⟨c,i1,h1,e,hi1,_,_,_⟩ := below_some h 6 hl hi
  unfold spec_l2Draw.f
  rw [e,Option.bind_some]
  dsimp only
  by_cases c0 : c = 0
  · rw [if_pos c0]
    obtain ⟨v,i2,h2,e2,hi2,hv0,hvn,_⟩ := below_some h1 (mx 1 n) hl hi1
    obtain ⟨m,rfl⟩ := Int.eq_ofNat_of_zero_le hv0
    have hm : m < 5 := by
      have hmx : 1 ≤ mx 1 n ∧ mx 1 n ≤ 5 := by unfold mx;split <;> omega
      have := hvn (by omega)
      omega
    have hw := varW_lt n m
    have hF := full_le hn
    rw [e2,Option.bind_some,spec_var hn hm (by omega),Option.bind_some]
    exact end_some hn hi2 (varW n m) rfl (by omega)
  · rw [if_neg c0]
    by_cases c1 : c = 1
    · rw [if_pos c1];exact draw_l0 hn (2 ^ n) k 0 0 i1 h1 (by omega) (by decide) hi1 (by omega)
    · rw [if_neg c1]
      by_cases c2 : c = 2
      · rw [if_pos c2];exact draw_l1 hn (2 ^ n) k 0 0 i1 h1 (by omega) (by decide) hi1 (by omega)
      · rw [if_neg c2]
        by_cases c3 : c = 3
        · obtain ⟨v,i2,h2,e2,hi2,_,_,_⟩ := below_some h1 (shl .i64 1 n) hl hi1
          rw [if_pos c3,if_pos (Int.natCast_nonneg _),e2,Option.bind_some]
          exact draw_l2 v hn (2 ^ n) k 0 0 i2 h2 (by omega) (by decide) hi2 (by omega)
        · rw [if_neg c3];exact draw_l3 hl hn (2 ^ n) k 0 0 i1 h1 (by omega) (by decide) hi1 (by omega)
def AnyR (o : Option (Int × Int × Int × Int)) : Prop := ∃ (a w i h : Int),o = some (a,w,i,h) ∧ 0 ≤ i ∧ (-9223372036854775808 ≤ a ∧ a ≤ 9223372036854775807) ∧ (-9223372036854775808 ≤ w ∧ w ≤ 9223372036854775807)
def AnyS (o : Option (Int × Int × Int × Int)) : Prop := ∃ (a w i h : Int),o = some (a,w,i,h) ∧ 0 ≤ i ∧ (-9223372036854775808 ≤ a ∧ a ≤ 9223372036854775807) ∧ (-9223372036854775808 ≤ w ∧ w ≤ 9223372036854775807) ∧ (a ≤ 4 ∨ 5 < a ∨ (0 ≤ w ∧ w ≤ 65535))
theorem any_strong {k : Nat} {b : List Int} {i : Int} (h : Int) (hl : b.length ≤ 9223372036854775807) (hi : 0 ≤ i) (hk : 100 < k) : AnyS (spec_l2Any.f k b i h) := by
  obtain ⟨n,i1,h1,e,hi1,hn0,hn5,_⟩ := below_some h 5 hl hi
  obtain ⟨n,rfl⟩ := Int.eq_ofNat_of_zero_le hn0
  have hn : n ≤ 5 := by have := hn5 (by decide);omega
  have hn4 : n ≤ 4 := by have := hn5 (by decide);omega
  have hF := pow_le_pow (pow_le_pow hn4)
  have hF2 : 2 ^ 2 ^ n ≤ 65536 := hF
  obtain ⟨w,i2,h2,e2,hi2,hw0,hw1,hw2⟩ := draw_some (n := n) (k := k) h1 hl hn hi1 hk
  obtain ⟨c,i3,h3,e3,hi3,_,_,_⟩ := below_some h2 14 hl hi2
  unfold spec_l2Any.f
  rw [e,Option.bind_some,e2,Option.bind_some,e3,Option.bind_some]
  dsimp only
  by_cases c0 : c = 0
  · obtain ⟨v,i4,h4,e4,hi4,hv⟩ := pick_some (l := [(-1),6,5,0,9223372036854775807]) h3 hl hi3 (by decide)
    rw [if_pos c0,e4,Option.bind_some]
    refine ⟨_,_,_,_,rfl,hi4,?_,by omega,.inr (.inr (by omega))⟩
    simp only [List.mem_cons,List.not_mem_nil,or_false] at hv
    dsimp only
    omega
  · rw [if_neg c0]
    by_cases c1 : c = 1
    · obtain ⟨v,i4,h4,e4,hi4,hv⟩ := pick_some (l := [(-1),0,1,65536,9223372036854775807]) h3 hl hi3 (by decide)
      rw [if_pos c1,e4,Option.bind_some]
      refine ⟨_,_,_,_,rfl,hi4,by omega,?_,.inl (by omega)⟩
      simp only [List.mem_cons,List.not_mem_nil,or_false] at hv
      dsimp only
      omega
    · rw [if_neg c1]
      exact ⟨_,_,_,_,rfl,hi3,by omega,by omega,.inl (by omega)⟩
theorem any_some {k : Nat} {b : List Int} {i : Int} (h : Int) (hl : b.length ≤ 9223372036854775807) (hi : 0 ≤ i) (hk : 100 < k) : AnyR (spec_l2Any.f k b i h) := by
  obtain ⟨a,w,i2,h2,e,q0,q1,q2,_⟩ := any_strong (k := k) h hl hi hk
  exact ⟨a,w,i2,h2,e,q0,q1,q2⟩
theorem impl_vars_loop {n w : Nat} (ht : Tab n w) : ∀ d k i : Nat,i + d = n → d < k → impl_VariablesOf.l0 k (filtN (dep n w) i) n i n w = some (filtN (dep n w) n) := by
  have hn := ht.1
  intro d
  induction d with
  | zero =>
    intro k i hi hk
    obtain ⟨k,rfl⟩ : ∃ m,k = m + 1 := ⟨k - 1,by omega⟩
    obtain rfl : i = n := by omega
    rw [impl_VariablesOf.l0,if_neg (by omega)]
  | succ d ih =>
    intro k i hi hk
    obtain ⟨k,rfl⟩ : ∃ m,k = m + 1 := ⟨k - 1,by omega⟩
    have hl := filtN_length (dep n w) i
    have hnx := ih k (i + 1) (by omega) (by omega)
    rw [filtN] at hnx
    rw [impl_VariablesOf.l0,if_pos (by omega),impl_depends ht (by omega),Option.bind_some,wrap64_succ (by omega)]
    by_cases h : dep n w i = true
    · rw [if_pos h] at hnx
      rw [if_pos h,if_pos (by omega)]
      exact hnx
    · rw [if_neg h] at hnx
      rw [if_neg h]
      exact hnx
theorem spec_vars_loop {n w : Nat} (ht : Tab n w) : ∀ d k i : Nat,i + d = n → 2 * d + 40 < k → spec_VariablesOf.l0 k (filtN (dep n w) i) i n w = some (filtN (dep n w) n) := by
  have hn := ht.1
  have hi_ : spec_IsTable.f n w = some true := by rw [spec_isTable,isTab_of ht]
  intro d
  induction d with
  | zero =>
    intro k i hi hk
    obtain ⟨k,rfl⟩ : ∃ m,k = m + 2 := ⟨k - 2,by omega⟩
    obtain rfl : i = n := by omega
    rw [spec_VariablesOf.l0,hi_,Option.bind_some,if_pos rfl,decide_eq_false (by omega),spec_VariablesOf.j1,if_neg (by decide)]
  | succ d ih =>
    intro k i hi hk
    obtain ⟨k,rfl⟩ : ∃ m,k = m + 2 := ⟨k - 2,by omega⟩
    have hl := filtN_length (dep n w) i
    have hnx := ih k (i + 1) (by omega) (by omega)
    rw [filtN] at hnx
    rw [spec_VariablesOf.l0,hi_,Option.bind_some,if_pos rfl,decide_eq_true (by omega),spec_VariablesOf.j1,if_pos rfl,spec_depends ht (by omega) (by omega),Option.bind_some,wrap64_succ (by omega)]
    by_cases h : dep n w i = true
    · rw [if_pos h] at hnx
      rw [if_pos h,if_pos (by omega)]
      exact hnx
    · rw [if_neg h] at hnx
      rw [if_neg h]
      exact hnx
def juntaI (a b k : Int) : Bool := isTab a b && (decide (0 ≤ k) && decide (((filtN (dep a.toNat b.toNat) a.toNat).length : Int) ≤ k))
theorem impl_juntaI {a b : Int} (v : Int) (h0 : -9223372036854775808 ≤ b) (h1 : b ≤ 9223372036854775807) {k : Nat} (hk : 100 < k) : impl_IsJunta.f k a b v = some (juntaI a b v) := by
  unfold impl_IsJunta.f juntaI
  rw [impl_isTable h0 h1,Option.bind_some]
  by_cases h : isTab a b = true
  · obtain ⟨n,w,rfl,rfl,ht⟩ := tab_of h
    have hn := ht.1
    rw [if_pos h,h,Bool.true_and,Int.toNat_natCast,Int.toNat_natCast]
    by_cases hv : v ≥ 0
    · have hl := impl_vars_loop ht n k 0 (by omega) (by omega)
      unfold impl_VariablesOf.f
      rw [if_pos hv,impl_isTable h0 h1,Option.bind_some,if_pos h,decide_eq_true (show 0 ≤ v from hv),Bool.true_and]
      have hl : impl_VariablesOf.l0 k ([] : List Int) n 0 n w = some (filtN (dep n w) n) := hl
      rw [hl,Option.bind_some]
    · rw [if_neg hv,decide_eq_false (show ¬ 0 ≤ v from hv),Bool.false_and]
  · rw [if_neg h,Bool.eq_false_iff.mpr h];rfl
theorem spec_juntaI (a b v : Int) {k : Nat} (hk : 100 < k) : spec_IsJunta.f k a b v = some (juntaI a b v) := by
  unfold spec_IsJunta.f juntaI
  rw [spec_isTable,Option.bind_some]
  by_cases h : isTab a b = true
  · obtain ⟨n,w,rfl,rfl,ht⟩ := tab_of h
    have hn := ht.1
    rw [if_pos h,h,Bool.true_and,Int.toNat_natCast,Int.toNat_natCast]
    by_cases hv : v ≥ 0
    · have hl := spec_vars_loop ht n k 0 (by omega) (by omega)
      unfold spec_VariablesOf.f
      rw [if_pos hv,decide_eq_true (show 0 ≤ v from hv),Bool.true_and]
      have hl : spec_VariablesOf.l0 k ([] : List Int) 0 n w = some (filtN (dep n w) n) := hl
      rw [hl,Option.bind_some]
    · rw [if_neg hv,decide_eq_false (show ¬ 0 ≤ v from hv),Bool.false_and]
  · rw [if_neg h,Bool.eq_false_iff.mpr h];rfl
def W64 (w : Int) : Prop := -9223372036854775808 ≤ w ∧ w ≤ 9223372036854775807
theorem affI_W (a u b : Int) : W64 (affI a u b).2.1 := by
  unfold affI
  split
  next h =>
    have := affW_lt (n := a.toNat) (by omega) u.toNat b.toNat
    dsimp only
    exact ⟨by omega,by omega⟩
  next => exact ⟨by decide,by decide⟩
theorem drawAffine_some {k : Nat} {b : List Int} (hl : b.length ≤ 9223372036854775807) (hk : 5000 < k) : ∃ a w : Int,spec_DrawIsAffine.f k b = some (a,w) ∧ W64 w := by
  obtain ⟨h,e⟩ := new_some hl (k := k) (by omega)
  obtain ⟨x,i1,h1,e1,hi1⟩ := once_some h 2 hl (Int.le_refl 0)
  unfold spec_DrawIsAffine.f
  rw [e,Option.bind_some,e1,Option.bind_some]
  dsimp only
  by_cases hx : x = true
  · obtain ⟨n,i2,h2,e2,hi2,hn0,_,_⟩ := below_some h1 5 hl hi1
    obtain ⟨u,i3,h3,e3,hi3,_,_,_⟩ := below_some h2 (shl .i64 1 n) hl hi2
    obtain ⟨c,i4,h4,e4,_,_,_,_⟩ := below_some h3 2 hl hi3
    rw [if_pos hx,e2,Option.bind_some]
    dsimp only
    rw [if_pos hn0,e3,Option.bind_some]
    dsimp only
    rw [e4,Option.bind_some]
    dsimp only
    rw [spec_affI n u c (by omega),Option.bind_some]
    exact ⟨_,_,rfl,affI_W n u c⟩
  · obtain ⟨a,w,i2,h2,e2,hi2,q1,q2⟩ := any_some (k := k) h1 hl hi1 (by omega)
    rw [if_neg hx,e2,Option.bind_some]
    exact ⟨_,_,rfl,q2⟩
theorem drawNear_some {k : Nat} {b : List Int} (hl : b.length ≤ 9223372036854775807) (hk : 5000 < k) : ∃ a w : Int,spec_DrawNearestAffine.f k b = some (a,w) ∧ W64 w := by
  obtain ⟨h,e⟩ := new_some hl (k := k) (by omega)
  obtain ⟨a,w,i1,h1,e1,hi1,q1,q2⟩ := any_some (k := k) h hl (Int.le_refl 0) (by omega)
  unfold spec_DrawNearestAffine.f
  rw [e,Option.bind_some,e1,Option.bind_some]
  exact ⟨_,_,rfl,q2⟩
theorem drawRej_some {k : Nat} {b : List Int} (hl : b.length ≤ 9223372036854775807) (hk : 5000 < k) : ∃ a w : Int,spec_DrawTestRejects.f k b = some (a,w) ∧ W64 w := by
  obtain ⟨h,e⟩ := new_some hl (k := k) (by omega)
  obtain ⟨a,w,i1,h1,e1,hi1,q1,q2⟩ := any_some (k := k) h hl (Int.le_refl 0) (by omega)
  unfold spec_DrawTestRejects.f
  rw [e,Option.bind_some,e1,Option.bind_some]
  exact ⟨_,_,rfl,q2⟩
theorem drawJunta_some {k : Nat} {b : List Int} (hl : b.length ≤ 9223372036854775807) (hk : 5000 < k) : ∃ a w v : Int,spec_DrawIsJunta.f k b = some (a,w,v) ∧ W64 w := by
  obtain ⟨h,e⟩ := new_some hl (k := k) (by omega)
  obtain ⟨a,w,i1,h1,e1,hi1,q1,q2⟩ := any_some (k := k) h hl (Int.le_refl 0) (by omega)
  obtain ⟨x,i2,h2,e2,_,_,_,_⟩ := below_some h1 7 hl hi1
  unfold spec_DrawIsJunta.f spec_l3Var.f
  rw [e,Option.bind_some,e1,Option.bind_some]
  dsimp only
  rw [e2,Option.bind_some,Option.bind_some]
  exact ⟨_,_,_,rfl,q2⟩
theorem drawAffT_some {k : Nat} {b : List Int} (hl : b.length ≤ 9223372036854775807) (hk : 5000 < k) : ∃ a u c : Int,spec_DrawAffineTable.f k b = some (a,u,c) := by
  obtain ⟨h,e⟩ := new_some hl (k := k) (by omega)
  obtain ⟨x,i1,h1,e1,hi1,_,_,_⟩ := below_some h 7 hl (Int.le_refl 0)
  obtain ⟨y,i2,h2,e2,hi2,_,_,_⟩ := below_some h1 17 hl hi1
  obtain ⟨z,i3,h3,e3,_,_,_,_⟩ := below_some h2 4 hl hi2
  unfold spec_DrawAffineTable.f
  rw [e,Option.bind_some,e1,Option.bind_some]
  dsimp only
  rw [e2,Option.bind_some]
  dsimp only
  rw [e3,Option.bind_some]
  exact ⟨_,_,_,rfl⟩
def bentW : Nat → Int
  | 0 => 0
  | x + 1 => Go.bits .or .i64 (bentW x) (shl .i64 (Go.bits .xor .i64 (Go.bits .and .i64 (Go.bits .and .i64 (x : Int) 1) ((x : Int) / 2)) (Go.bits .and .i64 (Go.bits .and .i64 ((x : Int) / 4) 1) ((x : Int) / 8))) (x : Int))
theorem bentW_16 : 0 ≤ bentW 16 ∧ bentW 16 < 65536 := by decide +kernel
theorem bent_loop {b : List Int} {i : Int} (h : Int) (hl : b.length ≤ 9223372036854775807) (hi : 0 ≤ i) : ∀ d k x : Nat,x + d = 16 → d + 100 < k → ∃ a w i' h' : Int,spec_l12Bent.l0 k (bentW x) x b i h = some (a,w,i',h') ∧ W64 w := by
  intro d
  induction d with
  | zero =>
    intro k x hx hk
    obtain ⟨k,rfl⟩ : ∃ m,k = m + 1 := ⟨k - 1,by omega⟩
    obtain rfl : x = 16 := by omega
    obtain ⟨s,i1,h1,e1,_,hs0,hs,_⟩ := below_some h 16 hl hi
    have hs := hs (by decide)
    obtain ⟨s,rfl⟩ := Int.eq_ofNat_of_zero_le hs0
    obtain ⟨q0,q1⟩ := bentW_16
    obtain ⟨v,hv⟩ := Int.eq_ofNat_of_zero_le q0
    have ht : Tab 4 v := ⟨by decide,by show v < 65536;omega⟩
    have e2 := l3Shift_some (k := k) (s := s) ht (show s < 16 by omega) (by omega)
    have e2 : spec_l3Shift.f k 4 (v : Int) (s : Int) = some (4,((shiftW 4 v s : Nat) : Int)) := e2
    rw [spec_l12Bent.l0,if_neg (by decide),e1,Option.bind_some]
    dsimp only
    rw [hv,e2,Option.bind_some]
    have hlt : shiftW 4 v s < 65536 := tabN_lt _ _
    exact ⟨_,_,_,_,rfl,by show W64 ((shiftW 4 v s : Nat) : Int);exact ⟨by omega,by omega⟩⟩
  | succ d ih =>
    intro k x hx hk
    obtain ⟨k,rfl⟩ : ∃ m,k = m + 1 := ⟨k - 1,by omega⟩
    rw [spec_l12Bent.l0,if_pos (by omega),if_pos (Int.natCast_nonneg _),wrap64_succ (by omega)]
    exact ih k (x + 1) (by omega) (by omega)
theorem drawStruct_some {k : Nat} {b : List Int} (hl : b.length ≤ 9223372036854775807) (hk : 5000 < k) : ∃ a w : Int,spec_DrawLinearStructures.f k b = some (a,w) ∧ W64 w := by
  obtain ⟨h,e⟩ := new_some hl (k := k) (by omega)
  obtain ⟨x,i1,h1,e1,hi1,_,_,_⟩ := below_some h 4 hl (Int.le_refl 0)
  unfold spec_DrawLinearStructures.f spec_l12Bent.f
  rw [e,Option.bind_some]
  dsimp only
  rw [e1,Option.bind_some]
  dsimp only
  by_cases c0 : x = 0
  · obtain ⟨a,w,i2,h2,e2,hi2,q1,q2⟩ := any_some (k := k) h1 hl hi1 (by omega)
    rw [if_pos c0,e2,Option.bind_some,Option.bind_some]
    exact ⟨_,_,rfl,q2⟩
  · rw [if_neg c0]
    by_cases c1 : x = 1
    · obtain ⟨y,i2,h2,e2,_,hy⟩ := pick_some (l := [8,1,7,14,6]) h1 hl hi1 (by decide)
      rw [if_pos c1,e2,Option.bind_some,Option.bind_some]
      have hh : ∀ z ∈ [(8 : Int),1,7,14,6],-9223372036854775808 ≤ z ∧ z ≤ 9223372036854775807 := by decide
      exact ⟨_,_,rfl,hh y hy⟩
    · obtain ⟨a,w,i2,h2,e2,q⟩ := bent_loop h1 hl hi1 16 k 0 (by omega) (by omega)
      have e2 : spec_l12Bent.l0 k 0 0 b i1 h1 = some (a,w,i2,h2) := e2
      rw [if_neg c1,e2,Option.bind_some]
      exact ⟨_,_,rfl,q⟩
theorem same_loop (l : List Int) (hl : l.length < 1000000) : ∀ (d k x : Nat),x + d = l.length → d < k → laws_sameInts.l0 k l l (x : Nat) = some true := by
  intro d
  induction d with
  | zero =>
    intro k x hx hk
    obtain ⟨k,rfl⟩ : ∃ m,k = m + 1 := ⟨k - 1,by omega⟩
    rw [laws_sameInts.l0,if_neg (by omega)]
  | succ d ih =>
    intro k x hx hk
    obtain ⟨k,rfl⟩ : ∃ m,k = m + 1 := ⟨k - 1,by omega⟩
    rw [laws_sameInts.l0,if_pos (by omega),if_pos (Int.natCast_nonneg _),if_pos (by omega),if_pos rfl,wrap64_succ (by omega)]
    exact ih k (x + 1) (by omega) (by omega)
theorem same_ints (l : List Int) (hl : l.length < 1000000) {k : Nat} (hk : l.length < k) : laws_sameInts.f k l l = some true := by
  unfold laws_sameInts.f
  rw [if_pos rfl]
  exact same_loop l hl l.length k 0 (by omega) hk
theorem filtN_mem {p : Nat → Bool} {m : Nat} {x : Int} : x ∈ filtN p m ↔ ∃ i : Nat,i < m ∧ p i = true ∧ x = (i : Int) := by
  induction m with
  | zero => rw [filtN];simp
  | succ m ih =>
    rw [filtN]
    by_cases h : p m = true
    · rw [if_pos h,List.mem_append,List.mem_singleton,ih]
      constructor
      · rintro (⟨i,hi,hp,e⟩ | e)
        · exact ⟨i,by omega,hp,e⟩
        · exact ⟨m,by omega,h,e⟩
      · rintro ⟨i,hi,hp,e⟩
        by_cases him : i = m
        · subst him;exact .inr e
        · exact .inl ⟨i,by omega,hp,e⟩
    · rw [if_neg h,ih]
      constructor
      · rintro ⟨i,hi,hp,e⟩;exact ⟨i,by omega,hp,e⟩
      · rintro ⟨i,hi,hp,e⟩
        have : i ≠ m := by rintro rfl;exact h hp
        exact ⟨i,by omega,hp,e⟩
theorem rd_filt {p : Nat → Bool} {m i : Nat} (hi : i < (filtN p m).length) : ∃ j : Nat,j < m ∧ p j = true ∧ rd (filtN p m) (i : Int) = (j : Int) := by
  have hm : rd (filtN p m) (i : Int) ∈ filtN p m := by
    unfold rd
    rw [Int.toNat_natCast,List.getD_eq_getElem?_getD,List.getElem?_eq_getElem hi]
    exact List.getElem_mem hi
  exact filtN_mem.mp hm
theorem mem_rd {l : List Int} {x : Int} (h : x ∈ l) : ∃ i : Nat,i < l.length ∧ rd l (i : Int) = x := by
  obtain ⟨i,hi,e⟩ := List.getElem_of_mem h
  refine ⟨i,hi,?_⟩
  unfold rd
  rw [Int.toNat_natCast,List.getD_eq_getElem?_getD,List.getElem?_eq_getElem hi,← e]
  rfl
theorem has_loop {l : List Int} {v : Int} (hl : l.length < 1000000) (hv : v ∈ l) : ∀ d k i : Nat,i + d = l.length → d < k → (∀ j : Nat,j < i → rd l (j : Int) ≠ v) → laws_has.l0 k l v i = some true := by
  obtain ⟨j,hj,e⟩ := mem_rd hv
  intro d
  induction d with
  | zero =>
    intro k i hi hk ha
    exact absurd e (ha j (by omega))
  | succ d ih =>
    intro k i hi hk ha
    obtain ⟨k,rfl⟩ : ∃ m,k = m + 1 := ⟨k - 1,by omega⟩
    rw [laws_has.l0,if_pos (by omega),if_pos (Int.natCast_nonneg _)]
    by_cases h : rd l (i : Int) = v
    · rw [if_pos h]
    · rw [if_neg h,wrap64_succ (by omega)]
      exact ih k (i + 1) (by omega) (by omega) (fun q hq => by
        by_cases e : q = i
        · subst e;exact h
        · exact ha q (by omega))
theorem has_some {l : List Int} {v : Int} {k : Nat} (hl : l.length < 1000000) (hv : v ∈ l) (hk : l.length < k) : laws_has.f k l v = some true := has_loop hl hv l.length k 0 (by omega) hk (fun j hj => by omega)
theorem strI_length (a b : Int) : (strI a b).1.length ≤ 32 := by
  unfold strI
  by_cases h : isTab a b = true
  · obtain ⟨n,w,rfl,rfl,ht⟩ := tab_of h
    have := pow_le ht.1
    have := filtN_length (strP n w) (2 ^ n)
    rw [if_pos h,Int.toNat_natCast,Int.toNat_natCast]
    dsimp only
    omega
  · rw [if_neg h];exact Nat.zero_le _
theorem FnLinear (l : List Int) (_ : l.length ≤ maxLen) (hy : l.length * 1 ≤ 140737488351232) (_ : ∀ x ∈ l,(Lit.int .u8 x).wf = true) : ∃ k,laws_FnLinear.f k l = some true := by
  refine ⟨70000,?_⟩
  unfold laws_FnLinear.f
  refine if_pos ?_
  by_cases hb : (l.length : Int) > 1048576
  · left
    unfold laws_big.f
    rw [decide_eq_true hb]
  · right
    have hl : l.length ≤ 9223372036854775807 := by omega
    obtain ⟨f1,f2,hd,u0,u1⟩ := drawAffine_some (k := 70000) hl (by decide)
    obtain ⟨g1,g2,hdn,n0,n1⟩ := drawNear_some (k := 70000) hl (by decide)
    obtain ⟨k1,k2,hdl,s0,s1⟩ := drawStruct_some (k := 70000) hl (by decide)
    obtain ⟨an,ax,ay,hda⟩ := drawAffT_some (k := 70000) hl (by decide)
    obtain ⟨r1,r2,hdt,t0,t1⟩ := drawRej_some (k := 70000) hl (by decide)
    obtain ⟨j1,j2,jk,hdj,v0,v1⟩ := drawJunta_some (k := 70000) hl (by decide)
    have hsl := strI_length k1 k2
    refine ⟨f1,f2,isAffI f1 f2,isTab f1 f2,g1,g2,(nearI g1 g2).1,(nearI g1 g2).2.1,(nearI g1 g2).2.2.1,(nearI g1 g2).2.2.2,k1,k2,(strI k1 k2).1,(strI k1 k2).2,an,ax,ay,(affI an ax ay).1,(affI an ax ay).2.1,(affI an ax ay).2.2,r1,r2,rejI r1 r2,j1,j2,jk,juntaI j1 j2 jk,?_⟩
    exact {
      small := by unfold laws_big.f;rw [decide_eq_false hb]
      draw := hd
      ia := impl_isAff u0 u1 (by decide)
      ia2 := spec_isAff f1 f2 (by decide)
      it := spec_isTable f1 f2
      lin := fun h => by
        obtain ⟨n,w,rfl,rfl,ht⟩ := tab_of h
        have hr := rej_iff ht
        have hg := deg_iff ht
        have hi := isAff_iff ht
        have hv : valI (n : Int) (w : Int) 0 = (((w.testBit 0).toNat : Nat) : Int) := by
          have hp := pow_pos n
          unfold valI
          rw [if_pos h,Int.toNat_natCast,Int.toNat_natCast,if_neg (by unfold noInp;rw [decide_eq_true (by omega)];decide)]
          rfl
        refine ⟨rejI n w,degI n w,valI n w 0,impl_rejI u0 u1 (by decide),impl_deg ht,impl_valI 0 ⟨u0,u1⟩,?_,?_⟩
        · rw [Bool.eq_iff_iff,decide_eq_true_eq,hg,hi]
        · have er : rejI (n : Int) (w : Int) = ((rejN n w : Nat) : Int) := by unfold rejI;rw [if_pos h];rfl
          rw [er,hv,Bool.eq_iff_iff,Bool.and_eq_true,beq_iff_eq,beq_iff_eq,hi]
          constructor
          · intro hz
            obtain ⟨h1,h2⟩ := hr.mp (by omega)
            exact ⟨h1,by rw [h2];rfl⟩
          · rintro ⟨h1,h2⟩
            have : rejN n w = 0 := hr.mpr ⟨h1,by cases e : w.testBit 0 with | false => rfl | true => rw [e] at h2;cases h2⟩
            omega
      dn := hdn
      na := impl_nearest n0 n1 (by decide)
      na2 := spec_nearest g1 g2 (by decide)
      near := fun h => by
        by_cases hT : isTab g1 g2 = true
        · obtain ⟨n,w,rfl,rfl,ht⟩ := tab_of hT
          obtain ⟨u,b,hu,hb,e,hmin⟩ := near_is ht
          have ta := tab_aff ht.1 u b
          have hal := ta.lt63
          rw [e]
          refine ⟨((affW n u b : Nat) : Int),?_,?_,?_⟩
          · dsimp only
            rw [impl_affI]
            unfold affI
            rw [if_pos (by have := ht.1;rw [Int.toNat_natCast];omega),Int.toNat_natCast,Int.toNat_natCast,Int.toNat_natCast]
          · rw [impl_distI ⟨n0,n1⟩ ⟨by omega,by omega⟩]
            unfold distI
            rw [if_pos (fit_to ht ta),Int.toNat_natCast,Int.toNat_natCast]
            rfl
          · rw [impl_isAff (by omega) (by omega) (by decide),(isAff_iff ta).mpr ⟨u,b,hu,hb,rfl⟩]
        · unfold nearI at h
          rw [if_neg hT] at h
          cases h
      dl := hdl
      ls := impl_strI s0 s1 (by decide)
      ls2 := spec_strI k1 k2 (by decide)
      mm := same_ints _ (by omega) (by omega)
      len := by omega
      sums := fun h i j hi hj => by
        by_cases hT : isTab k1 k2 = true
        · obtain ⟨n,w,rfl,rfl,ht⟩ := tab_of hT
          have hM := pow_le ht.1
          have es : (strI (n : Int) (w : Int)).1 = filtN (strP n w) (2 ^ n) := by unfold strI;rw [if_pos hT];rfl
          rw [es] at hi hsl ⊢
          obtain ⟨s,hs,hs1,e1⟩ := rd_filt hi
          obtain ⟨t,ht',hs2,e2⟩ := rd_filt (show j < (filtN (strP n w) (2 ^ n)).length by omega)
          rw [e1,e2,xor_cast (by omega) (by omega)]
          exact has_some (by omega) (filtN_mem.mpr ⟨s ^^^ t,Nat.xor_lt_two_pow hs ht',str_xor hs hs1 hs2,rfl⟩) (by omega)
        · unfold strI at h
          rw [if_neg hT] at h
          cases h
      da := hda
      at1 := impl_affI an ax ay
      at2 := spec_affI an ax ay (by decide)
      dt := hdt
      tr := impl_rejI t0 t1 (by decide)
      tr2 := spec_rejI r1 r2 (by decide)
      dj := hdj
      ij := impl_juntaI jk v0 v1 (by decide)
      ij2 := spec_juntaI j1 j2 jk (by decide) }
end Go.Proofs.Ytgojehaneegaeac.U
