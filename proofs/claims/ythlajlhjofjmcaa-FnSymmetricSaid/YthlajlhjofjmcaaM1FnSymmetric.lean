/- Walks of Go functions and lemmas on what they compute, for the row of FnSymmetric (a part of several): each call ends as the Lean function of its name tells; the conditions are those of each theorem. -/
import Derived.Test.YthlajlhjofjmcaaProg
import Derived.Below
import Derived.Deep.Draws
import Derived.Deep.AppendLies
import Derived.Maps.AppendAt
import Derived.OwnWalk
import Derived.Laws.BytesArg
import Derived.Laws.MakeOwn
import Derived.Laws.OwnMore
import Derived.Deep.OwnRows
import Derived.Tactics
import Derived.Lib.ConvBytes
import Derived.Laws.Slices
import Derived.WalkKit
import Derived.KernelRfl
import Derived.RowKit3
import Derived.Deep.LoopGhost
import Derived.Deep.QuietTactic
import Derived.BigQuiet
import Derived.WideLaws
import Derived.Deep.DeepCutAuto
import Derived.Deep.CutBlock
import Derived.Deep.RegionHeld3
import Derived.Laws.Rows
import Derived.Lib.AppendStr
import Derived.ArgAppend
import Derived.Laws.IdiomCopy
import Derived.OrdersHeld
import Derived.Laws.BitsLemmas
import Derived.RowKit
import Derived.Shelf.Abstract
import Derived.Maps.Own
import Derived.Maps.OwnOps
import Derived.Maps.OwnSet
import Derived.Lib.Hide
import Derived.Test.YthlajlhjofjmcaaWWords
import Derived.Test.YthlajlhjofjmcaaWLast
import Derived.Test.YthlajlhjofjmcaaWTab
import Derived.Test.YthlajlhjofjmcaaWQPut
import Derived.Test.YthlajlhjofjmcaaWApart
import Derived.Test.YthlajlhjofjmcaaWArr
import Derived.Test.YthlajlhjofjmcaaWZeros
import Derived.Test.YthlajlhjofjmcaaWFoot
import Derived.Test.YthlajlhjofjmcaaWKept
import Derived.Test.YthlajlhjofjmcaaWShare
import Derived.Test.YthlajlhjofjmcaaWN
import Derived.Test.YthlajlhjofjmcaaWEqStruct
import Derived.Test.YthlajlhjofjmcaaWRepsOne
import Derived.Test.YthlajlhjofjmcaaWNEv
import Derived.Test.YthlajlhjofjmcaaWMore
namespace Go.Proofs.Ythlajlhjofjmcaa.F
open Go.RowKit Go.Proofs.YthlajlhjofjmcaaW.PrintWords Go.Proofs.YthlajlhjofjmcaaW.PrintLast Go.Proofs.YthlajlhjofjmcaaW.PrintMore
attribute [local go_sem] max2_int min2_int max_two min_two max_three min_three max_four min_four 
set_option linter.unusedVariables false
set_option linter.unusedSimpArgs false
def errW : Option Int → Value
 | none => .nilIface
 | some c => .iface 0 (.int .i64 c)
theorem errW_none : errW none = .nilIface := rfl
theorem errW_some (c : Int) : errW (some c) = .iface 0 (.int .i64 c) := rfl
theorem info3 : (Try.prog.info? 3).map (fun i => (i.zero,i.size,i.bytes)) = some (some (.int .i64 0),1,8) := by kernel_rfl
theorem info27 : (Try.prog.info? 27).map (fun i => (i.zero,i.size,i.bytes)) = some (some (.slice none 0 0),1,24) := by kernel_rfl
def rd_L2 (xs : List (List Int)) (i : Int) : (List Int) := xs.getD i.toNat ([] : List Int)
theorem at_L2 {w : World} {A : Option Addr} {n : Nat} {xs : List (List Int)} (h : Kd.C (Kd.slice 3 (Kd.int .i64)) w A n xs) (i : Int) (h0 : 0 ≤ i) (h1 : i < n) : ∃ ad A0 c0,A = some ad ∧ w.cell? (ad.add i.toNat) = some (.slice A0 (rd_L2 xs i).length c0) ∧ (rd_L2 xs i).length ≤ c0 ∧ (Kd.int .i64).C w A0 (rd_L2 xs i).length (rd_L2 xs i) := by
 obtain ⟨ad,c,e,_,hK,hc0⟩ := Kd.C_get h ([] : List Int) i h0 h1
 have hc : ∀ j u,c[j]? = some u → w.cell? (ad.add (i.toNat * 1 + j)) = some u := hc0
 obtain ⟨A0,c0,rfl,l0,g0⟩ := hK
 exact ⟨ad,A0,c0,e,by have hq := hc 0 _ rfl;rwa [Nat.mul_one,Nat.add_zero] at hq,l0,g0⟩
def laws_big.f (l0 : List Int) : Option (Bool) := some (decide ((l0.length : Int) > 1048576))
set_option maxHeartbeats 8000000 in
set_option maxRecDepth 100000 in
theorem laws_big.calls (A0 : Option Addr) (c0 : Nat) (l0 : List Int) (r : Bool) (w : World) (hr0 : Kd.C (Kd.int .u8) w A0 l0.length l0) (hc0 : l0.length ≤ c0) (h : laws_big.f l0 = some r) :
  Calls Try.prog 5 #[.slice A0 l0.length c0] w fun e w' => e = .returned (.bool r) ∧ Drawn0 w w' := by
 have HR0 := Aside0.mk hr0
 have HC0 := Aside0.mk hc0
 clear hr0 hc0
 have H : (some (decide ((l0.length : Int) > 1048576))) = some r := h
 clear h
 obtain rfl := Option.some.inj H
 go_enter Try.func5,Try.ntmps5
 go_wp2
 go_ret
 exact ⟨by first | rfl | (simp;done) | (simp [*];done),by repeat (first | exact Drawn0.refl _ | apply Drawn0.step)⟩
end Go.Proofs.Ythlajlhjofjmcaa.F
namespace Go.Proofs.Ythlajlhjofjmcaa.F
open Go.RowKit Go.Proofs.YthlajlhjofjmcaaW.PrintWords Go.Proofs.YthlajlhjofjmcaaW.PrintLast Go.Proofs.YthlajlhjofjmcaaW.PrintMore
attribute [local go_sem] max2_int min2_int max_two min_two max_three min_three max_four min_four 
set_option linter.unusedVariables false
set_option linter.unusedSimpArgs false
def laws_sameInts.l0 : Nat → List Int → List Int → Int → Option (Bool)
 | 0,_,_,_ => none
 | k + 1,x0,x1,x5 => if x5 < (x0.length : Int) then (if 0 ≤ x5 then (if x5 < (x1.length : Int) then (if (rd x0 x5) = (rd x1 x5) then (laws_sameInts.l0 k x0 x1 (wrap64 (x5 + 1))) else (some false)) else (none)) else (none)) else (some true)
def laws_sameInts.f (k : Nat) (l0 : List Int) (l1 : List Int) : Option (Bool) := if (l0.length : Int) = (l1.length : Int) then (laws_sameInts.l0 k l0 l1 0) else (some false)
set_option maxHeartbeats 8000000 in
set_option maxRecDepth 100000 in
theorem laws_sameInts.calls (k : Nat) (A0 : Option Addr) (c0 : Nat) (l0 : List Int) (A1 : Option Addr) (c1 : Nat) (l1 : List Int) (r : Bool) (w : World) (hr0 : Kd.C (Kd.int .i64) w A0 l0.length l0) (hc0 : l0.length ≤ c0) (hr1 : Kd.C (Kd.int .i64) w A1 l1.length l1) (hc1 : l1.length ≤ c1) (h : laws_sameInts.f k l0 l1 = some r) :
  Calls Try.prog 10 #[.slice A0 l0.length c0,.slice A1 l1.length c1] w fun e w' => e = .returned (.bool r) ∧ Drawn0 w w' := by
 have HR0 := Aside0.mk hr0
 have HC0 := Aside0.mk hc0
 clear hr0 hc0
 have HR1 := Aside0.mk hr1
 have HC1 := Aside0.mk hc1
 clear hr1 hc1
 have H : (if (l0.length : Int) = (l1.length : Int) then (laws_sameInts.l0 k l0 l1 0) else (some false)) = some r := h
 clear h
 by_cases c3 : (l0.length : Int) = (l1.length : Int)
 ·rw [if_pos c3] at H
  have c3b0 : ((l0.length : Int) == (l1.length : Int)) = true := beq_iff_eq.mpr c3
  have c3b1 : ((l0.length : Int) != (l1.length : Int)) = false := bne_eq_false_iff_eq.mpr c3
  have c3b2 : (l0.length == l1.length) = true := by first | simpa using c3 | (simp at c3 ⊢;omega)
  clear c3
  have H' := Aside0.mk H
  clear H
  go_enter Try.func10,Try.ntmps10
  go_wp2
  repeat (go_quiet (fail);try go_wp2)
  go_loopg [5] k (fun kq v5 w' => ∃ (x5_1 : Int),v5 = .int .i64 x5_1 ∧ Aside0 (laws_sameInts.l0 kq l0 l1 x5_1 = some r) ∧ Aside0 (kq ≤ k) ∧ Drawn0 w w')
  case atStart => exact ⟨(0),(by first | rfl | (simp;done) | (simp [*];done)),H',⟨Nat.le_refl _⟩,by repeat (first | exact Drawn0.refl _ | apply Drawn0.step)⟩
  case round =>
   clear H'
   try clear c1
   try clear p2
   try clear c3
   try clear c3b0
   try clear c3b1
   try clear c3b2
   obtain ⟨x5_1,rfl,HA,HK1,⟨m1,rfl⟩⟩ := hrel
   cases gk with
   | zero => exact absurd HA.out (by simp [laws_sameInts.l0])
   | succ k1 =>
    have H := HA.out
    clear HA
    simp only [laws_sameInts.l0] at H
    by_cases c4 : x5_1 < (l0.length : Int)
    ·rw [if_pos c4] at H
     have c4b0 : decide (x5_1 < (l0.length : Int)) = true := decide_eq_true c4
     clear c4
     by_cases c5 : 0 ≤ x5_1
     ·rw [if_pos c5] at H
      have c5b0 : decide (0 ≤ x5_1) = true := decide_eq_true c5
      clear c5
      by_cases c6 : x5_1 < (l1.length : Int)
      ·rw [if_pos c6] at H
       have c6b0 : decide (x5_1 < (l1.length : Int)) = true := decide_eq_true c6
       clear c6
       by_cases c7 : (rd l0 x5_1) = (rd l1 x5_1)
       ·rw [if_pos c7] at H
        have c7b0 : ((rd l0 x5_1) == (rd l1 x5_1)) = true := beq_iff_eq.mpr c7
        have c7b1 : ((rd l0 x5_1) != (rd l1 x5_1)) = false := bne_eq_false_iff_eq.mpr c7
        clear c7
        have H' := Aside0.mk H
        clear H
        have p101 : 0 ≤ (x5_1 : Int) := of_decide_eq_true (by first | (with_reducible assumption) | assumption)
        have q101 : x5_1 < (l0.length : Int) := of_decide_eq_true (by first | (with_reducible assumption) | assumption)
        obtain ⟨ad101,e101,hx101_0⟩ := Kd.at_int HR0.out x5_1 p101 q101
        cases e101
        replace p101 := eq_true p101
        replace q101 := eq_true q101
        have p102 : 0 ≤ (x5_1 : Int) := of_decide_eq_true (by first | (with_reducible assumption) | assumption)
        have q102 : x5_1 < (l1.length : Int) := of_decide_eq_true (by first | (with_reducible assumption) | assumption)
        obtain ⟨ad102,e102,hx102_0⟩ := Kd.at_int HR1.out x5_1 p102 q102
        cases e102
        replace p102 := eq_true p102
        replace q102 := eq_true q102
        go_wp2
        repeat (go_quiet (fail);try go_wp2)
        go_roundg k1
        case measure => have := HK1.out;omega
        case rel => exact ⟨(wrap64 (x5_1 + 1)),(by first | rfl | (simp;done) | (simp [*];done)),H',⟨by have := HK1.out;omega⟩,by repeat (first | exact Drawn0.refl _ | apply Drawn0.step)⟩
       ·rw [if_neg c7] at H
        have c7b0 : ((rd l0 x5_1) == (rd l1 x5_1)) = false := beq_eq_false_iff_ne.mpr c7
        have c7b1 : ((rd l0 x5_1) != (rd l1 x5_1)) = true := bne_iff_ne.mpr c7
        obtain rfl := Option.some.inj H
        have p101 : 0 ≤ (x5_1 : Int) := of_decide_eq_true (by first | (with_reducible assumption) | assumption)
        have q101 : x5_1 < (l0.length : Int) := of_decide_eq_true (by first | (with_reducible assumption) | assumption)
        obtain ⟨ad101,e101,hx101_0⟩ := Kd.at_int HR0.out x5_1 p101 q101
        cases e101
        replace p101 := eq_true p101
        replace q101 := eq_true q101
        have p102 : 0 ≤ (x5_1 : Int) := of_decide_eq_true (by first | (with_reducible assumption) | assumption)
        have q102 : x5_1 < (l1.length : Int) := of_decide_eq_true (by first | (with_reducible assumption) | assumption)
        obtain ⟨ad102,e102,hx102_0⟩ := Kd.at_int HR1.out x5_1 p102 q102
        cases e102
        replace p102 := eq_true p102
        replace q102 := eq_true q102
        go_wp2
        repeat (go_quiet (fail);try go_wp2)
        go_ret
        exact ⟨by first | rfl | (simp;done) | (simp [*];done),by repeat (first | exact Drawn0.refl _ | apply Drawn0.step)⟩
      ·rw [if_neg c6] at H
       exact absurd H (by simp)
     ·rw [if_neg c5] at H
      exact absurd H (by simp)
    ·rw [if_neg c4] at H
     have c4b0 : decide (x5_1 < (l0.length : Int)) = false := decide_eq_false c4
     clear c4
     obtain rfl := Option.some.inj H
     go_wp2
     repeat (go_quiet (fail);try go_wp2)
     go_ret
     exact ⟨by first | rfl | (simp;done) | (simp [*];done),by repeat (first | exact Drawn0.refl _ | apply Drawn0.step)⟩
 ·rw [if_neg c3] at H
  have c3b0 : ((l0.length : Int) == (l1.length : Int)) = false := beq_eq_false_iff_ne.mpr c3
  have c3b1 : ((l0.length : Int) != (l1.length : Int)) = true := bne_iff_ne.mpr c3
  have c3b2 : (l0.length == l1.length) = false := by first | simpa using c3 | (simp at c3 ⊢;omega)
  obtain rfl := Option.some.inj H
  go_enter Try.func10,Try.ntmps10
  go_wp2
  repeat (go_quiet (fail);try go_wp2)
  go_ret
  exact ⟨by first | rfl | (simp;done) | (simp [*];done),by repeat (first | exact Drawn0.refl _ | apply Drawn0.step)⟩
end Go.Proofs.Ythlajlhjofjmcaa.F
namespace Go.Proofs.Ythlajlhjofjmcaa.B
open Go.RowKit Go.Proofs.YthlajlhjofjmcaaW.PrintWords Go.Proofs.YthlajlhjofjmcaaW.PrintLast Go.Proofs.YthlajlhjofjmcaaW.PrintMore
set_option linter.unusedVariables false
set_option linter.unusedSimpArgs false
theorem wrap64_of {n : Int} (h0 : -9223372036854775808 ≤ n) (h1 : n ≤ 9223372036854775807) : wrap64 n = n := by unfold wrap64;omega
theorem wrap_of {n : Int} (h0 : -9223372036854775808 ≤ n) (h1 : n ≤ 9223372036854775807) : IntKind.i64.wrap n = n := by rw [i64_w];exact wrap64_of h0 h1
theorem wrapu_of {n : Int} (h0 : 0 ≤ n) (h1 : n ≤ 18446744073709551615) : IntKind.u64.wrap n = n := by
  simp [IntKind.wrap,IntKind.bits,IntKind.signed];omega
theorem wrap64_cast {n : Nat} (h : n < 9223372036854775808) : wrap64 (n : Int) = n := wrap64_of (by omega) (by omega)
theorem wrap64_succ {n : Nat} (h : n < 9223372036854775807) : wrap64 ((n : Int) + 1) = ((n + 1 : Nat) : Int) := by rw [wrap64_of (by omega) (by omega)];omega
theorem lt63 {a : Nat} (h : a < 9223372036854775808) : a < 2 ^ 63 := h
theorem mod64 {a : Nat} (h : a < 9223372036854775808) : a % 2 ^ 64 = a := Nat.mod_eq_of_lt (by omega)
theorem and_cast {a b : Nat} (ha : a < 9223372036854775808) (hb : b < 9223372036854775808) : Go.bits .and .i64 (a : Int) (b : Int) = ((a &&& b : Nat) : Int) := by
  have h := Nat.and_lt_two_pow a (lt63 hb)
  have e : (BitVec.ofNat 64 a &&& BitVec.ofNat 64 b).toNat = a &&& b := by rw [BitVec.toNat_and,BitVec.toNat_ofNat,BitVec.toNat_ofNat,mod64 ha,mod64 hb]
  simp only [Go.bits,IntKind.bits,BitVec.ofInt_natCast]
  exact (congrArg (fun m : Nat => IntKind.i64.wrap (m : Int)) e).trans (wrap_of (n := ((a &&& b : Nat) : Int)) (by omega) (by omega))
theorem or_cast {a b : Nat} (ha : a < 9223372036854775808) (hb : b < 9223372036854775808) : Go.bits .or .i64 (a : Int) (b : Int) = ((a ||| b : Nat) : Int) := by
  have h := Nat.or_lt_two_pow (lt63 ha) (lt63 hb)
  have e : (BitVec.ofNat 64 a ||| BitVec.ofNat 64 b).toNat = a ||| b := by rw [BitVec.toNat_or,BitVec.toNat_ofNat,BitVec.toNat_ofNat,mod64 ha,mod64 hb]
  simp only [Go.bits,IntKind.bits,BitVec.ofInt_natCast]
  exact (congrArg (fun m : Nat => IntKind.i64.wrap (m : Int)) e).trans (wrap_of (n := ((a ||| b : Nat) : Int)) (by omega) (by omega))
theorem xor_cast {a b : Nat} (ha : a < 9223372036854775808) (hb : b < 9223372036854775808) : Go.bits .xor .i64 (a : Int) (b : Int) = ((a ^^^ b : Nat) : Int) := by
  have h := Nat.xor_lt_two_pow (lt63 ha) (lt63 hb)
  have e : (BitVec.ofNat 64 a ^^^ BitVec.ofNat 64 b).toNat = a ^^^ b := by rw [BitVec.toNat_xor,BitVec.toNat_ofNat,BitVec.toNat_ofNat,mod64 ha,mod64 hb]
  simp only [Go.bits,IntKind.bits,BitVec.ofInt_natCast]
  exact (congrArg (fun m : Nat => IntKind.i64.wrap (m : Int)) e).trans (wrap_of (n := ((a ^^^ b : Nat) : Int)) (by omega) (by omega))
def ldiff (a b : Nat) : Nat := a ^^^ (a &&& b)
theorem shr_cast (a n : Nat) (hn : n ≤ 64) : shr .i64 (a : Int) (n : Int) = ((a >>> n : Nat) : Int) := by
  unfold shr
  rw [Nat.shiftRight_eq_div_pow]
  simp only [IntKind.bits,Int.toNat_natCast,Nat.min_eq_left hn]
  simp
theorem shl_cast {a n : Nat} (h : a <<< n < 9223372036854775808) (hn : n ≤ 64) : shl .i64 (a : Int) (n : Int) = ((a <<< n : Nat) : Int) := by
  unfold shl
  simp only [IntKind.bits,Int.toNat_natCast,Nat.min_eq_left hn]
  have e : ((a : Int) * 2 ^ n) = ((a <<< n : Nat) : Int) := by rw [Nat.shiftLeft_eq];simp
  exact (congrArg IntKind.i64.wrap e).trans (by generalize a <<< n = c at h;exact wrap_of (n := (c : Int)) (by omega) (by omega))
theorem shlu_cast {a n : Nat} (h : a <<< n < 18446744073709551616) (hn : n ≤ 64) : shl .u64 (a : Int) (n : Int) = ((a <<< n : Nat) : Int) := by
  unfold shl
  simp only [IntKind.bits,Int.toNat_natCast,Nat.min_eq_left hn]
  have e : ((a : Int) * 2 ^ n) = ((a <<< n : Nat) : Int) := by rw [Nat.shiftLeft_eq];simp
  exact (congrArg IntKind.u64.wrap e).trans (by generalize a <<< n = c at h;exact wrapu_of (n := (c : Int)) (by omega) (by omega))
theorem one_shl (n : Nat) : 1 <<< n = 2 ^ n := by rw [Nat.shiftLeft_eq,Nat.one_mul]
theorem pow_le {n : Nat} (h : n ≤ 5) : 2 ^ n ≤ 32 := Nat.pow_le_pow_right (n := 2) (by decide) h
theorem pow_lt {n m : Nat} (h : n < m) : 2 ^ n < 2 ^ m := Nat.pow_lt_pow_right (by decide) h
theorem pow_le_pow {n m : Nat} (h : n ≤ m) : 2 ^ n ≤ 2 ^ m := Nat.pow_le_pow_right (by decide) h
theorem pow_pos (n : Nat) : 0 < 2 ^ n := Nat.two_pow_pos n
theorem full_le {n : Nat} (h : n ≤ 5) : 2 ^ 2 ^ n ≤ 4294967296 := Nat.pow_le_pow_right (n := 2) (by decide) (pow_le h)
theorem shl1_of {n : Nat} (h : n ≤ 62) : shl .i64 1 (n : Int) = ((2 ^ n : Nat) : Int) := by
  have h1 : (1 : Nat) <<< n < 9223372036854775808 := by
    rw [one_shl];have := pow_le_pow h;omega
  have := shl_cast h1 (by omega)
  rw [one_shl] at this
  exact this
theorem shlu1_of {n : Nat} (h : n ≤ 63) : shl .u64 1 (n : Int) = ((2 ^ n : Nat) : Int) := by
  have h1 : (1 : Nat) <<< n < 18446744073709551616 := by
    rw [one_shl];have := pow_le_pow h;omega
  have := shlu_cast h1 (by omega)
  rw [one_shl] at this
  exact this
def bitN (w x : Nat) : Nat := (w.testBit x).toNat
theorem bitN_le (w x : Nat) : bitN w x ≤ 1 := by unfold bitN;cases w.testBit x <;> decide
theorem bitN_eq_one {w x : Nat} : bitN w x = 1 ↔ w.testBit x = true := by unfold bitN;cases w.testBit x <;> decide
theorem shr_and_one (w x : Nat) : w >>> x &&& 1 = bitN w x := by
  unfold bitN
  rw [Nat.testBit,Nat.and_comm 1,Nat.and_one_is_mod]
  rcases Nat.mod_two_eq_zero_or_one (w >>> x) with h | h <;> rw [h] <;> rfl
theorem shr_lt {w x n : Nat} (h : w < n) : w >>> x < n := Nat.lt_of_le_of_lt (by rw [Nat.shiftRight_eq_div_pow];exact Nat.div_le_self _ _) h
theorem bit_cast {w x : Nat} (hw : w < 9223372036854775808) (hx : x ≤ 64) : Go.bits .and .i64 (shr .i64 (w : Int) (x : Int)) 1 = ((bitN w x : Nat) : Int) := by
  rw [shr_cast w x hx]
  have := and_cast (b := 1) (shr_lt (x := x) hw) (by decide)
  rw [shr_and_one] at this
  exact this
def tabN (p : Nat → Bool) : Nat → Nat
  | 0 => 0
  | m + 1 => tabN p m ||| (p m).toNat <<< m
theorem testBit_toNat_shl (b : Bool) (m i : Nat) : (b.toNat <<< m).testBit i = (decide (i = m) && b) := by
  cases b
  · simp
  · simp only [Bool.toNat_true,one_shl,Nat.testBit_two_pow,Bool.and_true]
    by_cases h : i = m
    · subst h;simp
    · simp [h,Ne.symm h]
theorem testBit_tabN (p : Nat → Bool) (m i : Nat) : (tabN p m).testBit i = (decide (i < m) && p i) := by
  induction m with
  | zero => simp [tabN]
  | succ m ih =>
    rw [tabN,Nat.testBit_or,ih,testBit_toNat_shl]
    by_cases h : i = m
    · subst h;simp
    · by_cases h2 : i < m
      · simp [h,h2,Nat.lt_succ_of_lt h2]
      · have : ¬ i < m + 1 := by omega
        simp [h,h2,this]
theorem lt_pow_of_testBit {x n : Nat} (h : ∀ i,n ≤ i → x.testBit i = false) : x < 2 ^ n := Nat.lt_pow_two_of_testBit x h
theorem tabN_lt (p : Nat → Bool) (m : Nat) : tabN p m < 2 ^ m :=
  lt_pow_of_testBit fun i hi => by rw [testBit_tabN];have : ¬ i < m := by omega
                                   simp [this]
theorem testBit_ge {w m i : Nat} (hw : w < 2 ^ m) (hi : m ≤ i) : w.testBit i = false := Nat.testBit_lt_two_pow (Nat.lt_of_lt_of_le hw (pow_le_pow hi))
theorem word_ext {a b m : Nat} (ha : a < 2 ^ m) (hb : b < 2 ^ m) (h : ∀ i,i < m → a.testBit i = b.testBit i) : a = b := by
  apply Nat.eq_of_testBit_eq
  intro i
  by_cases hi : i < m
  · exact h i hi
  · rw [testBit_ge ha (by omega),testBit_ge hb (by omega)]
theorem tabN_congr {p q : Nat → Bool} {m : Nat} (h : ∀ i,i < m → p i = q i) : tabN p m = tabN q m :=
  word_ext (tabN_lt _ _) (tabN_lt _ _) fun i hi => by rw [testBit_tabN,testBit_tabN,h i hi]
theorem tabN_testBit {w m : Nat} (hw : w < 2 ^ m) : tabN (fun i => w.testBit i) m = w :=
  word_ext (tabN_lt _ _) hw fun i hi => by rw [testBit_tabN];simp [hi]
theorem wrap64_pow {x : Nat} (h : x ≤ 62) : wrap64 (2 ^ x) = ((2 ^ x : Nat) : Int) := by
  have e : ((2 : Int) ^ x) = ((2 ^ x : Nat) : Int) := by simp
  have := pow_le_pow h
  rw [e]
  exact wrap64_cast (by omega)
theorem or_bit {w x : Nat} (hw : w < 9223372036854775808) (hx : x ≤ 62) : Go.bits .or .i64 (w : Int) (wrap64 (2 ^ x)) = ((w ||| 2 ^ x : Nat) : Int) := by
  rw [wrap64_pow hx]
  exact or_cast hw (by have := pow_le_pow hx;omega)
theorem tabN_true {p : Nat → Bool} {m : Nat} (h : p m = true) : tabN p (m + 1) = tabN p m ||| 2 ^ m := by rw [tabN,h,Bool.toNat_true,one_shl]
theorem tabN_false {p : Nat → Bool} {m : Nat} (h : p m = false) : tabN p (m + 1) = tabN p m := by rw [tabN,h];simp
theorem tabN_lt63 (p : Nat → Bool) {m : Nat} (h : m ≤ 32) : tabN p m < 9223372036854775808 := Nat.lt_of_lt_of_le (tabN_lt p m) (Nat.le_trans (pow_le_pow h) (by decide))
def orN (q : Nat → Nat) : Nat → Nat
  | 0 => 0
  | m + 1 => orN q m ||| q m
theorem orN_lt {q : Nat → Nat} {m n : Nat} (h : ∀ i,i < m → q i < 2 ^ n) : orN q m < 2 ^ n := by
  induction m with
  | zero => exact pow_pos n
  | succ m ih => exact Nat.or_lt_two_pow (ih fun i hi => h i (by omega)) (h m (by omega))
theorem bitN_shl_lt {w i j n : Nat} (hj : j < n) : bitN w i <<< j < 2 ^ n := by
  rw [Nat.shiftLeft_eq]
  have h1 := bitN_le w i
  have h2 := pow_le_pow (n := j + 1) (m := n) hj
  rw [Nat.pow_succ] at h2
  have h3 : bitN w i * 2 ^ j ≤ 1 * 2 ^ j := Nat.mul_le_mul_right _ h1
  have := pow_pos j
  omega
theorem testBit_bitN_shl (w i j y : Nat) : (bitN w i <<< j).testBit y = (decide (y = j) && w.testBit i) := testBit_toNat_shl _ _ _
def exN (p : Nat → Bool) : Nat → Bool
  | 0 => false
  | m + 1 => exN p m || p m
theorem exN_iff {p : Nat → Bool} {m : Nat} : exN p m = true ↔ ∃ i,i < m ∧ p i = true := by
  induction m with
  | zero => simp [exN]
  | succ m ih =>
    rw [exN,Bool.or_eq_true,ih]
    constructor
    · rintro (⟨i,hi,h⟩ | h)
      · exact ⟨i,by omega,h⟩
      · exact ⟨m,by omega,h⟩
    · rintro ⟨i,hi,h⟩
      by_cases e : i = m
      · subst e;exact .inr h
      · exact .inl ⟨i,by omega,h⟩
theorem exN_hit {p : Nat → Bool} {m i : Nat} (hi : i < m) (h : p i = true) : exN p m = true := exN_iff.mpr ⟨i,hi,h⟩
theorem exN_skip {p : Nat → Bool} {m : Nat} (h : exN p m = false) (k : p m = false) : exN p (m + 1) = false := by rw [exN,h,k];rfl
theorem testBit_orN (q : Nat → Nat) (m y : Nat) : (orN q m).testBit y = exN (fun i => (q i).testBit y) m := by
  induction m with
  | zero => simp [orN,exN]
  | succ m ih => rw [orN,exN,Nat.testBit_or,ih]
def allN (p : Nat → Bool) : Nat → Bool
  | 0 => true
  | m + 1 => allN p m && p m
theorem allN_iff {p : Nat → Bool} {m : Nat} : allN p m = true ↔ ∀ i,i < m → p i = true := by
  induction m with
  | zero => simp [allN]
  | succ m ih =>
    rw [allN,Bool.and_eq_true,ih]
    constructor
    · rintro ⟨h,k⟩ i hi
      by_cases e : i = m
      · subst e;exact k
      · exact h i (by omega)
    · exact fun h => ⟨fun i hi => h i (by omega),h m (by omega)⟩
theorem allN_miss {p : Nat → Bool} {m i : Nat} (hi : i < m) (h : p i = false) : allN p m = false := by
  apply Bool.eq_false_iff.mpr
  intro k
  have := allN_iff.mp k i hi
  rw [h] at this
  cases this
theorem allN_next {p : Nat → Bool} {m : Nat} (h : allN p m = true) (k : p m = true) : allN p (m + 1) = true := by rw [allN,h,k];rfl
def cntN (p : Nat → Bool) : Nat → Nat
  | 0 => 0
  | m + 1 => cntN p m + (p m).toNat
theorem cntN_le (p : Nat → Bool) (m : Nat) : cntN p m ≤ m := by
  induction m with
  | zero => exact Nat.le_refl _
  | succ m ih => rw [cntN];have : (p m).toNat ≤ 1 := by cases p m <;> decide
                 omega
theorem cntN_congr {p q : Nat → Bool} {m : Nat} (h : ∀ i,i < m → p i = q i) : cntN p m = cntN q m := by
  induction m with
  | zero => rfl
  | succ m ih => rw [cntN,cntN,ih fun i hi => h i (by omega),h m (by omega)]
theorem orN_perm (w m : Nat) (f g : Nat → Nat) (hf : ∀ i,i < m → f i < m) (hg : ∀ i,i < m → g i < m) (hfg : ∀ i,i < m → f (g i) = i) (hgf : ∀ i,i < m → g (f i) = i) :
    orN (fun i => bitN w i <<< f i) m = tabN (fun y => w.testBit (g y)) m := by
  apply word_ext (m := m) (orN_lt fun i hi => bitN_shl_lt (hf i hi)) (tabN_lt _ _)
  intro y hy
  rw [testBit_tabN,testBit_orN]
  simp only [testBit_bitN_shl,hy,decide_true,Bool.true_and]
  apply Bool.eq_iff_iff.mpr
  rw [exN_iff]
  constructor
  · rintro ⟨i,hi,h⟩
    simp only [Bool.and_eq_true,decide_eq_true_eq] at h
    obtain ⟨rfl,h⟩ := h
    rw [hgf i hi];exact h
  · exact fun h => ⟨g y,hg y hy,by simp [hfg y hy,h]⟩
def ins (x i b : Nat) : Nat := x % 2 ^ i + b * 2 ^ i + x / 2 ^ i * 2 ^ (i + 1)
def Tab (n w : Nat) : Prop := n ≤ 5 ∧ w < 2 ^ 2 ^ n
theorem Tab.lt {n w : Nat} (h : Tab n w) : w < 4294967296 := Nat.lt_of_lt_of_le h.2 (full_le h.1)
theorem Tab.lt63 {n w : Nat} (h : Tab n w) : w < 9223372036854775808 := Nat.lt_trans h.lt (by decide)
end Go.Proofs.Ythlajlhjofjmcaa.B
