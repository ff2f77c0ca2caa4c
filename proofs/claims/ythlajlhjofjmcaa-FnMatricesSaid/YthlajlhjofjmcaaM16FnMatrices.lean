/- Walks of Go functions and lemmas on what they compute, for the row of FnMatrices (a part of several): each call ends as the Lean function of its name tells; the conditions are those of each theorem. -/
import Derived.Test.YthlajlhjofjmcaaM1FnMatrices
import Derived.Test.YthlajlhjofjmcaaM2FnMatrices
import Derived.Test.YthlajlhjofjmcaaM3FnMatrices
import Derived.Test.YthlajlhjofjmcaaM4FnMatrices
import Derived.Test.YthlajlhjofjmcaaM5FnMatrices
import Derived.Test.YthlajlhjofjmcaaM6FnMatrices
import Derived.Test.YthlajlhjofjmcaaM7FnMatrices
import Derived.Test.YthlajlhjofjmcaaM8FnMatrices
import Derived.Test.YthlajlhjofjmcaaM9FnMatrices
import Derived.Test.YthlajlhjofjmcaaM12FnMatrices
import Derived.Test.YthlajlhjofjmcaaM13FnMatrices
import Derived.Test.YthlajlhjofjmcaaM14FnMatrices
import Derived.Test.YthlajlhjofjmcaaM15FnMatrices
namespace Go.Proofs.Ythlajlhjofjmcaa.U
open Go.RowKit Go.Proofs.YthlajlhjofjmcaaW.PrintWords Go.Proofs.YthlajlhjofjmcaaW.PrintLast Go.Proofs.YthlajlhjofjmcaaW.PrintMore Go.Proofs.Ythlajlhjofjmcaa.F Go.Proofs.Ythlajlhjofjmcaa.B
set_option linter.unusedVariables false
set_option linter.unusedSimpArgs false
def cnt (w : Nat) : Nat := cntN (fun i => w.testBit i) 32
theorem cntN_add (p : Nat → Bool) (m : Nat) : ∀ n,cntN p (m + n) = cntN p m + cntN (fun i => p (m + i)) n := by
  intro n
  induction n with
  | zero => rfl
  | succ n ih => rw [← Nat.add_assoc,cntN,cntN,ih];omega
theorem cntN_first (p : Nat → Bool) (n : Nat) : cntN p (n + 1) = (p 0).toNat + cntN (fun i => p (i + 1)) n := by
  rw [Nat.add_comm,cntN_add]
  simp only [cntN,Nat.zero_add]
  congr 2
  funext i
  rw [Nat.add_comm]
theorem cntN_zero {p : Nat → Bool} (h : ∀ i,p i = false) : ∀ n,cntN p n = 0 := by
  intro n
  induction n with
  | zero => rfl
  | succ n ih => rw [cntN,ih,h];rfl
theorem ref_loop : ∀ (n k a x : Nat),x < 2 ^ n → n < k → a + n < 9223372036854775808 → x < 9223372036854775808 →
    spec_l2Count.l0 k (a : Int) (x : Int) = some ((a + cntN (fun i => x.testBit i) n : Nat) : Int) := by
  intro n
  induction n with
  | zero =>
    intro k a x hx hk ha _
    obtain ⟨k,rfl⟩ : ∃ m,k = m + 1 := ⟨k - 1,by omega⟩
    obtain rfl : x = 0 := by simpa using hx
    simp only [spec_l2Count.l0]
    rw [if_neg (by omega)]
    rfl
  | succ n ih =>
    intro k a x hx hk ha hx63
    obtain ⟨k,rfl⟩ : ∃ m,k = m + 1 := ⟨k - 1,by omega⟩
    simp only [spec_l2Count.l0]
    by_cases h0 : (x : Int) > 0
    · have hb : Go.bits .and .i64 (x : Int) 1 = ((bitN x 0 : Nat) : Int) := by
        rw [← shr_and_one,Nat.shiftRight_zero]
        exact and_cast (b := 1) hx63 (by decide)
      have h1 := bitN_le x 0
      rw [if_pos h0,hb,show wrap64 ((a : Int) + ((bitN x 0 : Nat) : Int)) = ((a + bitN x 0 : Nat) : Int) by rw [wrap64_of (by omega) (by omega)];omega,show ((x : Int) / 2) = ((x / 2 : Nat) : Int) by simp]
      rw [ih k (a + bitN x 0) (x / 2) (by rw [Nat.pow_succ] at hx;omega) (by omega) (by omega) (by omega),cntN_first]
      congr 2
      have e : (fun i => (x / 2).testBit i) = fun i => x.testBit (i + 1) := by funext i;rw [Nat.testBit_succ]
      rw [e]
      show a + (x.testBit 0).toNat + _ = _
      omega
    · obtain rfl : x = 0 := by omega
      rw [if_neg h0,cntN_zero (fun i => Nat.zero_testBit i)]
      rfl
theorem cnt_ref {x k : Nat} (hx : x < 4294967296) (hk : 33 ≤ k) : spec_l2Count.f k x = some ((cnt x : Nat) : Int) := by
  have h := ref_loop 32 k 0 x hx (by omega) (by omega) (by omega)
  rw [Nat.zero_add] at h
  exact h
def t1 (a : Nat) : Nat := (a / 2 &&& 85) + (a &&& 85)
def t2 (a : Nat) : Nat := (a / 4 &&& 51) + (a &&& 51)
def t3 (a : Nat) : Nat := (a / 16 + a) &&& 15
def varW (n i : Nat) : Nat := tabN (fun x => x.testBit i) (2 ^ n)
theorem varW_lt (n i : Nat) : varW n i < 2 ^ 2 ^ n := tabN_lt _ _
theorem var_loop {n i : Nat} (hn : n ≤ 5) (hi : i < 5) : ∀ d k x,x + d = 2 ^ n → d < k →
    spec_l2Variable.l0 k n i ((tabN (fun x => x.testBit i) x : Nat) : Int) x = some ((varW n i : Nat) : Int) := by
  have hM := pow_le hn
  intro d
  induction d with
  | zero =>
    intro k x hx hk
    obtain ⟨k,rfl⟩ : ∃ m,k = m + 1 := ⟨k - 1,by omega⟩
    obtain rfl : x = 2 ^ n := by omega
    simp only [spec_l2Variable.l0]
    rw [if_pos (by omega),shl1_of (by omega),if_neg (by omega)]
    rfl
  | succ d ih =>
    intro k x hx hk
    obtain ⟨k,rfl⟩ : ∃ m,k = m + 1 := ⟨k - 1,by omega⟩
    have hlt : x < 2 ^ n := by omega
    have hl := tabN_lt63 (fun x => x.testBit i) (m := x) (by omega)
    have hp := pow_lt (n := x) (m := 32) (by omega)
    have e := ih k (x + 1) (by omega) (by omega)
    simp only [spec_l2Variable.l0]
    rw [if_pos (by omega),shl1_of (by omega),if_pos (by exact_mod_cast hlt),if_pos (by omega),bit_cast (by omega) (by omega),wrap64_succ (by omega)]
    cases hb : x.testBit i with
    | true =>
      rw [tabN_true (p := fun x => x.testBit i) hb] at e
      rw [if_pos (bit_eq_one.mpr hb),if_pos (by omega),shl1_of (by omega),or_cast hl (by omega)]
      exact e
    | false =>
      rw [tabN_false (p := fun x => x.testBit i) hb] at e
      rw [if_neg (by rw [bit_eq_one,hb];decide)]
      exact e
theorem spec_var {n i k : Nat} (hn : n ≤ 5) (hi : i < 5) (hk : 32 < k) : spec_l2Variable.f k n i = some ((varW n i : Nat) : Int) := by
  have := pow_le hn
  exact var_loop hn hi (2 ^ n) k 0 (by omega) (by omega)
theorem and255 (a : Int) : ∃ x : Nat,x < 256 ∧ Go.bits .and .i64 a 255 = (x : Int) := by
  have hlt : (BitVec.ofInt 64 a).toNat &&& 255 < 256 := Nat.lt_of_le_of_lt Nat.and_le_right (by decide)
  refine ⟨(BitVec.ofInt 64 a).toNat &&& 255,hlt,?_⟩
  have e : (BitVec.ofInt 64 a &&& BitVec.ofInt 64 255).toNat = (BitVec.ofInt 64 a).toNat &&& 255 := by rw [BitVec.toNat_and];rfl
  simp only [Go.bits,IntKind.bits]
  exact (congrArg (fun m : Nat => IntKind.i64.wrap (m : Int)) e).trans (wrap_of (by omega) (by omega))
theorem byte_some {b : List Int} {i : Int} (h : Int) (hb : b.length ≤ 9223372036854775807) (hi : 0 ≤ i) : ∃ (x : Nat) (i' h' : Int),spec_l1Byte.f b i h = some ((x : Int),i',h') ∧ x < 256 ∧ 0 ≤ i' := by
  unfold spec_l1Byte.f
  by_cases hl : i < (b.length : Int)
  · rw [if_pos hl,if_pos hi]
    obtain ⟨x,hx,e⟩ := and255 (wrap64 ((Go.bits .and .i64 (Go.bits .xor .i64 ((wrap64 ((wrap64 (h * 6364136223846793005)) + 1442695040888963407)) / 8589934592) ((wrap64 ((wrap64 (h * 6364136223846793005)) + 1442695040888963407)) / 35184372088832)) 255) + (wrap64 (rd b i))))
    rw [e]
    exact ⟨x,_,_,rfl,hx,by rw [wrap64_of (by omega) (by omega)];omega⟩
  · rw [if_neg hl]
    obtain ⟨x,hx,e⟩ := and255 (Go.bits .xor .i64 ((wrap64 ((wrap64 (h * 6364136223846793005)) + 1442695040888963407)) / 8589934592) ((wrap64 ((wrap64 (h * 6364136223846793005)) + 1442695040888963407)) / 35184372088832))
    rw [e]
    exact ⟨x,_,_,rfl,hx,hi⟩
theorem four_bytes {x y z v : Nat} (hx : x < 256) (hy : y < 256) (hz : z < 256) (hv : v < 256) : 0 ≤ wrap64 ((wrap64 ((wrap64 ((wrap64 ((x : Int) * 16777216)) + (wrap64 ((y : Int) * 65536)))) + (wrap64 ((z : Int) * 256)))) + (v : Int)) := by
  obtain ⟨p,hp⟩ : ∃ p : Int,p = (x : Int) * 16777216 := ⟨_,rfl⟩
  obtain ⟨q,hq⟩ : ∃ q : Int,q = (y : Int) * 65536 := ⟨_,rfl⟩
  obtain ⟨r,hr⟩ : ∃ r : Int,r = (z : Int) * 256 := ⟨_,rfl⟩
  have p1 : 0 ≤ p ∧ p ≤ 4278190080 := by omega
  have q1 : 0 ≤ q ∧ q ≤ 16711680 := by omega
  have r1 : 0 ≤ r ∧ r ≤ 65280 := by omega
  rw [← hp,← hq,← hr,wrap64_of (n := p) (by omega) (by omega),wrap64_of (n := q) (by omega) (by omega),wrap64_of (n := r) (by omega) (by omega),wrap64_of (n := p + q) (by omega) (by omega),wrap64_of (n := p + q + r) (by omega) (by omega),wrap64_of (n := p + q + r + (v : Int)) (by omega) (by omega)]
  omega
theorem below_some {b : List Int} {i : Int} (h n : Int) (hb : b.length ≤ 9223372036854775807) (hi : 0 ≤ i) : ∃ (x i' h' : Int),spec_l1Below.f b i h n = some (x,i',h') ∧ 0 ≤ i' ∧ 0 ≤ x ∧ (0 < n → x < n) ∧ (n ≤ 0 → x = 0) := by
  unfold spec_l1Below.f
  by_cases h0 : n ≤ 0
  · rw [if_pos h0];exact ⟨0,i,h,rfl,hi,by omega,fun q => by omega,fun _ => rfl⟩
  · rw [if_neg h0]
    have hp : 0 < n := by omega
    by_cases h1 : n ≤ 256
    · obtain ⟨x,i1,h1',e,hx,hi1⟩ := byte_some h hb hi
      rw [if_pos h1,e,Option.bind_some,if_neg (by omega)]
      exact ⟨_,_,_,rfl,hi1,Int.tmod_nonneg n (Int.natCast_nonneg x),fun _ => Int.tmod_lt_of_pos _ hp,fun q => absurd q h0⟩
    · obtain ⟨x,i1,h1',e1,hx,hi1⟩ := byte_some h hb hi
      obtain ⟨y,i2,h2',e2,hy,hi2⟩ := byte_some h1' hb hi1
      obtain ⟨z,i3,h3',e3,hz,hi3⟩ := byte_some h2' hb hi2
      obtain ⟨v,i4,h4',e4,hv,hi4⟩ := byte_some h3' hb hi3
      rw [if_neg h1,e1,Option.bind_some,e2,Option.bind_some,e3,Option.bind_some,e4,Option.bind_some,if_neg (by omega)]
      exact ⟨_,_,_,rfl,hi4,Int.tmod_nonneg n (four_bytes hx hy hz hv),fun _ => Int.tmod_lt_of_pos _ hp,fun q => absurd q h0⟩
theorem once_some {b : List Int} {i : Int} (h n : Int) (hb : b.length ≤ 9223372036854775807) (hi : 0 ≤ i) : ∃ (x : Bool) (i' h' : Int),spec_l1Once.f b i h n = some (x,i',h') ∧ 0 ≤ i' := by
  obtain ⟨x,i1,h1,e,hi1,_⟩ := below_some h n hb hi
  unfold spec_l1Once.f
  rw [e,Option.bind_some]
  exact ⟨_,_,_,rfl,hi1⟩
theorem pick_some {b l : List Int} {i : Int} (h : Int) (hb : b.length ≤ 9223372036854775807) (hi : 0 ≤ i) (hl : 0 < l.length) : ∃ (x i' h' : Int),spec_l1PickInt.f b i h l = some (x,i',h') ∧ 0 ≤ i' ∧ x ∈ l := by
  obtain ⟨x,i1,h1,e,hi1,hx,hxl,_⟩ := below_some h (l.length : Int) hb hi
  have hlt := hxl (by omega)
  unfold spec_l1PickInt.f
  rw [e,Option.bind_some,if_pos hx,if_pos hlt]
  refine ⟨_,_,_,rfl,hi1,?_⟩
  obtain ⟨m,rfl⟩ := Int.eq_ofNat_of_zero_le hx
  show rd l (m : Int) ∈ l
  unfold rd
  have hm : m < l.length := by omega
  rw [Int.toNat_natCast,List.getD_eq_getElem?_getD,List.getElem?_eq_getElem hm]
  exact List.getElem_mem hm
theorem new_loop {b : List Int} (hb : b.length ≤ 9223372036854775807) : ∀ (d k : Nat) (h : Int) (x : Nat),x + d = 4000 → d < k → ∃ h' : Int,spec_l1New.l0 k b h x = some (b,0,h') := by
  intro d
  induction d with
  | zero =>
    intro k h x hx hk
    obtain ⟨k,rfl⟩ : ∃ m,k = m + 1 := ⟨k - 1,by omega⟩
    rw [spec_l1New.l0]
    by_cases hl : (x : Int) < (b.length : Int)
    · rw [if_pos hl,if_neg (by omega)];exact ⟨h,rfl⟩
    · rw [if_neg hl];exact ⟨h,rfl⟩
  | succ d ih =>
    intro k h x hx hk
    obtain ⟨k,rfl⟩ : ∃ m,k = m + 1 := ⟨k - 1,by omega⟩
    rw [spec_l1New.l0]
    by_cases hl : (x : Int) < (b.length : Int)
    · rw [if_pos hl,if_pos (by omega),if_pos (Int.natCast_nonneg _),wrap64_succ (by omega)]
      exact ih k _ (x + 1) (by omega) (by omega)
    · rw [if_neg hl];exact ⟨h,rfl⟩
theorem new_some {b : List Int} (hb : b.length ≤ 9223372036854775807) {k : Nat} (hk : 4000 < k) : ∃ h' : Int,spec_l1New.f k b = some (b,0,h') := new_loop hb 4000 k _ 0 (by omega) (by omega)
def TabR (n : Nat) (o : Option (Int × Int × Int × Int)) : Prop := ∃ (w i h : Int),o = some ((n : Int),w,i,h) ∧ 0 ≤ i ∧ 0 ≤ w ∧ w ≤ 4294967295
theorem end_some {n : Nat} {w i h : Int} (hn : n ≤ 5) (hi : 0 ≤ i) (x : Nat) (hw : w = (x : Int)) (hx : x < 4294967296) : TabR n (if (n : Int) = 0 then ((spec_l2Full.f n).bind fun t => (some ((n : Int),Go.bits .and .i64 (Go.bits .and .i64 w 1) t,i,h))) else ((spec_l2Full.f n).bind fun t => (some ((n : Int),Go.bits .and .i64 w t,i,h)))) := by
  subst hw
  have hF := full_le hn
  have e1 : Go.bits .and .i64 ((x : Nat) : Int) 1 = ((x &&& 1 : Nat) : Int) := and_cast (b := 1) (by omega) (by decide)
  have l1 : x &&& 1 ≤ x := Nat.and_le_left
  split
  · rw [full_some hn,Option.bind_some,e1,and_cast (by omega) (by omega)]
    have l2 : (x &&& 1) &&& (2 ^ 2 ^ n - 1) ≤ x &&& 1 := Nat.and_le_left
    exact ⟨_,i,h,rfl,hi,Int.natCast_nonneg _,by omega⟩
  · rw [full_some hn,Option.bind_some,and_cast (by omega) (by omega)]
    have l2 : x &&& (2 ^ 2 ^ n - 1) ≤ x := Nat.and_le_left
    exact ⟨_,i,h,rfl,hi,Int.natCast_nonneg _,by omega⟩
theorem or_lt32 {a b : Nat} (ha : a < 4294967296) (hb : b < 4294967296) : a ||| b < 4294967296 := Nat.or_lt_two_pow (n := 32) ha hb
theorem bit_lt32 {x : Nat} (hx : x < 32) : 2 ^ x < 4294967296 := Nat.lt_of_lt_of_le (Nat.pow_lt_pow_right (by decide) hx) (by decide)
theorem draw_l0 {n : Nat} {b : List Int} (hn : n ≤ 5) : ∀ (d k w x : Nat) (i h : Int),x + d = 2 ^ n → w < 4294967296 → 0 ≤ i → d + 40 < k → TabR n (spec_l2Draw.l0 k n w x b i h) := by
  have hp := pow_le hn
  intro d
  induction d with
  | zero =>
    intro k w x i h hx hw hi hk
    obtain ⟨k,rfl⟩ : ∃ m,k = m + 1 := ⟨k - 1,by omega⟩
    rw [spec_l2Draw.l0,if_pos (Int.natCast_nonneg _),shl1_of (by omega),if_neg (by omega)]
    exact end_some hn hi w rfl hw
  | succ d ih =>
    intro k w x i h hx hw hi hk
    obtain ⟨k,rfl⟩ : ∃ m,k = m + 1 := ⟨k - 1,by omega⟩
    have hx32 : x < 32 := by omega
    have hb := bit_lt32 hx32
    rw [spec_l2Draw.l0,if_pos (Int.natCast_nonneg _),shl1_of (by omega),if_pos (by omega),cnt_ref (by omega) (by omega),Option.bind_some,wrap64_succ (by omega)]
    split
    · rw [if_pos (Int.natCast_nonneg _),shl1_of (by omega),or_cast (by omega) (by omega)]
      exact ih k (w ||| 2 ^ x) (x + 1) i h (by omega) (or_lt32 hw hb) hi (by omega)
    · exact ih k w (x + 1) i h (by omega) hw hi (by omega)
theorem draw_l1 {n : Nat} {b : List Int} (hn : n ≤ 5) : ∀ (d k w x : Nat) (i h : Int),x + d = 2 ^ n → w < 4294967296 → 0 ≤ i → d + 40 < k → TabR n (spec_l2Draw.l1 k n w x b i h) := by
  have hp := pow_le hn
  intro d
  induction d with
  | zero =>
    intro k w x i h hx hw hi hk
    obtain ⟨k,rfl⟩ : ∃ m,k = m + 1 := ⟨k - 1,by omega⟩
    rw [spec_l2Draw.l1,if_pos (Int.natCast_nonneg _),shl1_of (by omega),if_neg (by omega)]
    exact end_some hn hi w rfl hw
  | succ d ih =>
    intro k w x i h hx hw hi hk
    obtain ⟨k,rfl⟩ : ∃ m,k = m + 1 := ⟨k - 1,by omega⟩
    have hx32 : x < 32 := by omega
    have hb := bit_lt32 hx32
    rw [spec_l2Draw.l1,if_pos (Int.natCast_nonneg _),shl1_of (by omega),if_pos (by omega),cnt_ref (by omega) (by omega),Option.bind_some,wrap64_succ (by omega)]
    split
    · rw [if_pos (Int.natCast_nonneg _),shl1_of (by omega),or_cast (by omega) (by omega)]
      exact ih k (w ||| 2 ^ x) (x + 1) i h (by omega) (or_lt32 hw hb) hi (by omega)
    · exact ih k w (x + 1) i h (by omega) hw hi (by omega)
theorem draw_l2 {n : Nat} {b : List Int} (c : Int) (hn : n ≤ 5) : ∀ (d k w x : Nat) (i h : Int),x + d = 2 ^ n → w < 4294967296 → 0 ≤ i → d + 40 < k → TabR n (spec_l2Draw.l2 k n w c x b i h) := by
  have hp := pow_le hn
  intro d
  induction d with
  | zero =>
    intro k w x i h hx hw hi hk
    obtain ⟨k,rfl⟩ : ∃ m,k = m + 1 := ⟨k - 1,by omega⟩
    rw [spec_l2Draw.l2,if_pos (Int.natCast_nonneg _),shl1_of (by omega),if_neg (by omega)]
    exact end_some hn hi w rfl hw
  | succ d ih =>
    intro k w x i h hx hw hi hk
    obtain ⟨k,rfl⟩ : ∃ m,k = m + 1 := ⟨k - 1,by omega⟩
    have hx32 : x < 32 := by omega
    have hb := bit_lt32 hx32
    rw [spec_l2Draw.l2,if_pos (Int.natCast_nonneg _),shl1_of (by omega),if_pos (by omega),wrap64_succ (by omega)]
    split
    · rw [if_pos (Int.natCast_nonneg _),shl1_of (by omega),or_cast (by omega) (by omega)]
      exact ih k (w ||| 2 ^ x) (x + 1) i h (by omega) (or_lt32 hw hb) hi (by omega)
    · exact ih k w (x + 1) i h (by omega) hw hi (by omega)
theorem draw_l3 {n : Nat} {b : List Int} (hl : b.length ≤ 9223372036854775807) (hn : n ≤ 5) : ∀ (d k w x : Nat) (i h : Int),x + d = 2 ^ n → w < 4294967296 → 0 ≤ i → d + 40 < k → TabR n (spec_l2Draw.l3 k n w x b i h) := by
  have hp := pow_le hn
  intro d
  induction d with
  | zero =>
    intro k w x i h hx hw hi hk
    obtain ⟨k,rfl⟩ : ∃ m,k = m + 1 := ⟨k - 1,by omega⟩
    rw [spec_l2Draw.l3,if_pos (Int.natCast_nonneg _),shl1_of (by omega),if_neg (by omega)]
    exact end_some hn hi w rfl hw
  | succ d ih =>
    intro k w x i h hx hw hi hk
    obtain ⟨k,rfl⟩ : ∃ m,k = m + 1 := ⟨k - 1,by omega⟩
    have hx32 : x < 32 := by omega
    have hb := bit_lt32 hx32
    obtain ⟨v,i1,h1,e,hi1,hv0,hv2,_⟩ := below_some h 2 hl hi
    obtain ⟨m,rfl⟩ := Int.eq_ofNat_of_zero_le hv0
    have hm : m < 2 := by have := hv2 (by decide);omega
    have hs : m <<< x < 4294967296 := by
      rw [Nat.shiftLeft_eq]
      have : m * 2 ^ x ≤ 1 * 2 ^ x := Nat.mul_le_mul_right _ (by omega)
      omega
    have hsc : shl .i64 (m : Int) (x : Int) = ((m <<< x : Nat) : Int) := shl_cast (by omega) (by omega)
    rw [spec_l2Draw.l3,if_pos (Int.natCast_nonneg _),shl1_of (by omega),if_pos (by omega),e,Option.bind_some,if_pos (Int.natCast_nonneg _),wrap64_succ (by omega)]
    dsimp only
    rw [hsc,or_cast (by omega) (by omega)]
    exact ih k (w ||| m <<< x) (x + 1) i1 h1 (by omega) (or_lt32 hw hs) hi1 (by omega)
theorem draw_some {n k : Nat} {b : List Int} {i : Int} (h : Int) (hl : b.length ≤ 9223372036854775807) (hn : n ≤ 5) (hi : 0 ≤ i) (hk : 100 < k) : TabR n (spec_l2Draw.f k b i h n) := by
  have hp := pow_le hn
  obtain ⟨c,i1,h1,e,hi1,_,_,_⟩ := below_some h 6 hl hi
  unfold spec_l2Draw.f
  rw [e,Option.bind_some]
  dsimp only
  by_cases c0 : c = 0
  · rw [if_pos c0]
    obtain ⟨v,i2,h2,e2,hi2,hv0,hvn,_⟩ := below_some h1 (mx 1 n) hl hi1
    obtain ⟨m,rfl⟩ := Int.eq_ofNat_of_zero_le hv0
    have hm : m < 5 := by
      have hmx : 1 ≤ mx 1 n ∧ mx 1 n ≤ 5 := by unfold mx;split <;> omega
      have := hvn (by omega)
      omega
    have hw := varW_lt n m
    have hF := full_le hn
    rw [e2,Option.bind_some,spec_var hn hm (by omega),Option.bind_some]
    exact end_some hn hi2 (varW n m) rfl (by omega)
  · rw [if_neg c0]
    by_cases c1 : c = 1
    · rw [if_pos c1];exact draw_l0 hn (2 ^ n) k 0 0 i1 h1 (by omega) (by decide) hi1 (by omega)
    · rw [if_neg c1]
      by_cases c2 : c = 2
      · rw [if_pos c2];exact draw_l1 hn (2 ^ n) k 0 0 i1 h1 (by omega) (by decide) hi1 (by omega)
      · rw [if_neg c2]
        by_cases c3 : c = 3
        · obtain ⟨v,i2,h2,e2,hi2,_,_,_⟩ := below_some h1 (shl .i64 1 n) hl hi1
          rw [if_pos c3,if_pos (Int.natCast_nonneg _),e2,Option.bind_some]
          exact draw_l2 v hn (2 ^ n) k 0 0 i2 h2 (by omega) (by decide) hi2 (by omega)
        · rw [if_neg c3];exact draw_l3 hl hn (2 ^ n) k 0 0 i1 h1 (by omega) (by decide) hi1 (by omega)
def AnyR (o : Option (Int × Int × Int × Int)) : Prop := ∃ (a w i h : Int),o = some (a,w,i,h) ∧ 0 ≤ i ∧ (-9223372036854775808 ≤ a ∧ a ≤ 9223372036854775807) ∧ (-9223372036854775808 ≤ w ∧ w ≤ 9223372036854775807)
theorem any_some {k : Nat} {b : List Int} {i : Int} (h : Int) (hl : b.length ≤ 9223372036854775807) (hi : 0 ≤ i) (hk : 100 < k) : AnyR (spec_l2Any.f k b i h) := by
  obtain ⟨n,i1,h1,e,hi1,hn0,hn5,_⟩ := below_some h 5 hl hi
  obtain ⟨n,rfl⟩ := Int.eq_ofNat_of_zero_le hn0
  have hn : n ≤ 5 := by have := hn5 (by decide);omega
  obtain ⟨w,i2,h2,e2,hi2,hw0,hw1⟩ := draw_some (n := n) (k := k) h1 hl hn hi1 hk
  obtain ⟨c,i3,h3,e3,hi3,_,_,_⟩ := below_some h2 14 hl hi2
  unfold spec_l2Any.f
  rw [e,Option.bind_some,e2,Option.bind_some,e3,Option.bind_some]
  dsimp only
  by_cases c0 : c = 0
  · obtain ⟨v,i4,h4,e4,hi4,hv⟩ := pick_some (l := [(-1),6,5,0,9223372036854775807]) h3 hl hi3 (by decide)
    rw [if_pos c0,e4,Option.bind_some]
    refine ⟨_,_,_,_,rfl,hi4,?_,by omega⟩
    simp only [List.mem_cons,List.not_mem_nil,or_false] at hv
    dsimp only
    omega
  · rw [if_neg c0]
    by_cases c1 : c = 1
    · obtain ⟨v,i4,h4,e4,hi4,hv⟩ := pick_some (l := [(-1),0,1,65536,9223372036854775807]) h3 hl hi3 (by decide)
      rw [if_pos c1,e4,Option.bind_some]
      refine ⟨_,_,_,_,rfl,hi4,by omega,?_⟩
      simp only [List.mem_cons,List.not_mem_nil,or_false] at hv
      dsimp only
      omega
    · rw [if_neg c1]
      exact ⟨_,_,_,_,rfl,hi3,by omega,by omega⟩
theorem rowV_lt {w s m a : Nat} (hm : m ≤ 5) : rowV w s m a < 4294967296 := Nat.lt_of_lt_of_le (tabN_lt _ _) (full_le hm)
theorem matI_rows (a b s : Int) : ∀ x ∈ (matI a b s).1,0 ≤ x ∧ x < 4294967296 := by
  cases hS : splitI a b s with
  | false => unfold matI;rw [hS,if_neg (by decide)];intro x hx;cases hx
  | true =>
    obtain ⟨t,m,w,rfl,rfl,rfl,ht⟩ := split_of hS
    rw [matI_of ht]
    intro x hx
    have hx : x ∈ rowsV w t m (2 ^ t) := hx
    unfold rowsV listN at hx
    obtain ⟨i,_,rfl⟩ := List.mem_map.mp hx
    have := @rowV_lt w t m i (by have := ht.1;omega)
    omega
theorem rowsV_rd {w s m n i : Nat} (h : i < n) : rd (rowsV w s m n) (i : Int) = ((rowV w s m i : Nat) : Int) := listN_get h
theorem tom_back {w s m : Nat} (ht : Tab (s + m) w) : tomA (rowsV w s m (2 ^ s)) ((s + m : Nat) : Int) s = (((s + m : Nat) : Int),(w : Int),true) := by
  have hn := ht.1
  have hlen : (rowsV w s m (2 ^ s)).length = 2 ^ s := listN_length _ _
  have ho : impl_TableOfMatrix.ok ((s + m : Nat) : Int) (s : Int) (rowsV w s m (2 ^ s)).length = true := decide_eq_true ⟨by omega,by omega,by omega,by omega,by rw [Int.toNat_natCast,hlen]⟩
  unfold tomA
  rw [if_pos ho,Int.toNat_natCast,show (((s + m : Nat) : Int) - (s : Int)).toNat = m by omega]
  unfold tomI
  have hb : exN (fun i => impl_TableOfMatrix.bad m (rd (rowsV w s m (2 ^ s)) i)) (rowsV w s m (2 ^ s)).length = false := by
    cases hx : exN (fun i => impl_TableOfMatrix.bad m (rd (rowsV w s m (2 ^ s)) i)) (rowsV w s m (2 ^ s)).length with
    | false => rfl
    | true =>
      obtain ⟨i,hi,hbad⟩ := exN_iff.mp hx
      rw [hlen] at hi
      have hlt : rowV w s m i < 2 ^ 2 ^ m := tabN_lt _ _
      have hF := full_le (n := m) (by omega)
      have hp := pow_pos (2 ^ m)
      rw [rowsV_rd hi,bad_eq (by omega),shlu1_of (by have := pow_le (n := m) (by omega);omega),shl1_of (by have := pow_le (n := m) (by omega);omega),wrap64_of (by omega) (by omega),decide_eq_true (by omega)] at hbad
      cases hbad
  rw [hb,if_neg (by decide)]
  congr 3
  refine Eq.trans (tabN_congr fun x hx => ?_) (tabN_testBit ht.2)
  have hp := pow_pos s
  have hlt : x % 2 ^ s < 2 ^ s := Nat.mod_lt _ hp
  have hd : x / 2 ^ s < 2 ^ m := by rw [Nat.div_lt_iff_lt_mul hp,Nat.mul_comm,← Nat.pow_add];exact hx
  have hM := pow_le (n := m) (by omega)
  have hv := @rowV_lt w s m (x % 2 ^ s) (by omega)
  unfold impl_TableOfMatrix.bit
  rw [rowsV_rd hlt,bit_cast (by omega) (by omega)]
  have e : (rowV w s m (x % 2 ^ s)).testBit (x / 2 ^ s) = w.testBit x := by
    unfold rowV
    rw [testBit_tabN,decide_eq_true hd,Bool.true_and,Nat.mod_add_div]
  unfold bitN
  rw [e]
  cases w.testBit x <;> rfl
theorem span_rows (l : List Int) : ∀ i k : Nat,k < i → InSpan (listS l i) (rd l (k : Int)).toNat := by
  intro i
  induction i with
  | zero => intro k hk;omega
  | succ i ih =>
    intro k hk
    have he := listS_ech l i
    rw [listS]
    by_cases h0 : redS (listS l i) (rd l (i : Int)).toNat = 0
    · rw [if_pos h0]
      by_cases e : k = i
      · subst e;exact (redS_iff he).mp h0
      · exact ih k (by omega)
    · rw [if_neg h0,span_snoc]
      by_cases e : k = i
      · subst e
        refine .inr ?_
        rw [Nat.xor_comm]
        exact redS_span _ _ he
      · exact .inl (ih k (by omega))
theorem rank_fresh (l : List Int) : ∀ i : Nat,(listS l i).length ≤ cntN (fresh l) i := by
  intro i
  induction i with
  | zero => exact Nat.le_refl _
  | succ i ih =>
    rw [listS,cntN]
    by_cases h0 : redS (listS l i) (rd l (i : Int)).toNat = 0
    · rw [if_pos h0];omega
    · rw [if_neg h0,List.length_append,List.length_singleton]
      have hf : fresh l i = true := by
        refine allN_iff.mpr fun k hk => ?_
        rw [bne_iff_ne]
        intro e
        have := span_rows l i k hk
        rw [e] at this
        exact h0 ((redS_iff (listS_ech l i)).mpr this)
      rw [hf]
      show _ ≤ cntN (fresh l) i + 1
      omega
theorem cntN_one {p : Nat → Bool} : ∀ n,(∀ i j,i < j → j < n → p i = true → p j = true → False) → cntN p n ≤ 1 := by
  intro n
  induction n with
  | zero => intro _;exact Nat.zero_le _
  | succ n ih =>
    intro h
    rw [cntN]
    cases hp : p n with
    | false => have := ih (fun i j hij hj => h i j hij (by omega));simp;omega
    | true =>
      have hz : cntN p n = 0 := by
        have : ∀ m,m ≤ n → cntN p m = 0 := by
          intro m
          induction m with
          | zero => intro _;rfl
          | succ m ihm =>
            intro hm
            rw [cntN,ihm (by omega)]
            cases hq : p m with
            | false => rfl
            | true => exact (h m n (by omega) (by omega) hq hp).elim
        exact this n (Nat.le_refl _)
      rw [hz];exact Nat.le_refl _
theorem cntN_sub {p q r : Nat → Bool} (n : Nat) (h : ∀ i,i < n → p i = true → q i = true ∨ r i = true) : cntN p n ≤ cntN q n + cntN r n := by
  induction n with
  | zero => exact Nat.le_refl _
  | succ n ih =>
    have := ih (fun i hi => h i (by omega))
    have hn := h n (by omega)
    rw [cntN,cntN,cntN]
    cases hp : p n with
    | false => simp;omega
    | true =>
      rcases hn hp with hq | hr
      · rw [hq];simp;omega
      · rw [hr];simp;omega
theorem fresh_list (l : List Int) (n : Nat) : ∀ L : List Int,cntN (fun i => fresh l i && L.contains (rd l (i : Int))) n ≤ L.length := by
  intro L
  induction L with
  | nil =>
    have : ∀ m,cntN (fun i => fresh l i && ([] : List Int).contains (rd l (i : Int))) m = 0 := by
      intro m
      induction m with
      | zero => rfl
      | succ m ih => rw [cntN,ih];simp
    rw [this];exact Nat.zero_le _
  | cons a L ih =>
    have h1 : cntN (fun i => fresh l i && (rd l (i : Int) == a)) n ≤ 1 := by
      refine cntN_one n fun i j hij hj hp hq => ?_
      rw [Bool.and_eq_true,beq_iff_eq] at hp hq
      have := allN_iff.mp hq.1 i hij
      rw [bne_iff_ne] at this
      exact this (hp.2.trans hq.2.symm)
    have := cntN_sub (p := fun i => fresh l i && (a :: L).contains (rd l (i : Int))) (q := fun i => fresh l i && (rd l (i : Int) == a)) (r := fun i => fresh l i && L.contains (rd l (i : Int))) n (fun i _ hp => by
      rw [Bool.and_eq_true,List.contains_cons,Bool.or_eq_true] at hp
      rcases hp.2 with e | e
      · exact .inl (by rw [hp.1,e];rfl)
      · exact .inr (by rw [hp.1,e];rfl))
    rw [List.length_cons]
    omega
theorem fresh_le {l : List Int} {n : Nat} {L : List Int} (h : ∀ i : Nat,i < n → rd l (i : Int) ∈ L) : cntN (fresh l) n ≤ L.length := by
  refine Nat.le_trans (Nat.le_of_eq (cntN_congr fun i hi => ?_)) (fresh_list l n L)
  rw [show L.contains (rd l (i : Int)) = true by simpa using h i hi,Bool.and_true]
def spanL : List Nat → List Nat
  | [] => [0]
  | a :: l => spanL l ++ (spanL l).map (fun z => z ^^^ a)
theorem spanL_length : ∀ l,(spanL l).length = 2 ^ l.length := by
  intro l
  induction l with
  | nil => rfl
  | cons a l ih => rw [spanL,List.length_append,List.length_map,ih,List.length_cons,Nat.pow_succ];omega
theorem spanL_mem : ∀ (l : List Nat) (x : Nat),InSpan l x → x ∈ spanL l := by
  intro l
  induction l with
  | nil => intro x h;rw [spanL,List.mem_singleton];exact h
  | cons a l ih =>
    intro x h
    rw [spanL,List.mem_append]
    rcases h with h | h
    · exact .inl (ih x h)
    · exact .inr (List.mem_map.mpr ⟨x ^^^ a,ih _ h,xor_cancel x a⟩)
theorem fresh_rank {l : List Int} {n : Nat} (h : ∀ i : Nat,i < n → 0 ≤ rd l (i : Int)) : cntN (fresh l) n ≤ 2 ^ (listS l n).length := by
  have := fresh_le (l := l) (n := n) (L := castL (spanL (listS l n))) (fun i hi => by
    have hs := spanL_mem _ _ (span_rows l n i hi)
    refine List.mem_map.mpr ⟨_,hs,?_⟩
    have := h i hi
    show (((rd l (i : Int)).toNat : Nat) : Int) = rd l (i : Int)
    omega)
  rwa [castL_length,spanL_length] at this
theorem rd_mem' {l : List Int} {i : Nat} (h : i < l.length) : rd l (i : Int) ∈ l := by
  unfold rd
  rw [Int.toNat_natCast,List.getD_eq_getElem?_getD,List.getElem?_eq_getElem h]
  exact List.getElem_mem h
theorem rankI_of {l : List Int} (hr : ∀ x ∈ l,0 ≤ x ∧ x < 4294967296) (hl : l.length ≤ 32) : rankI l = (((listS l l.length).length : Nat) : Int) := by
  have hb : exN (fun i => impl_RankMod2.bad (rd l i)) l.length = false := by
    cases hx : exN (fun i => impl_RankMod2.bad (rd l i)) l.length with
    | false => rfl
    | true =>
      obtain ⟨i,hi,hbad⟩ := exN_iff.mp hx
      have := hr _ (rd_mem' hi)
      unfold impl_RankMod2.bad at hbad
      rw [decide_eq_false (by omega),Bool.false_or,bne_iff_ne] at hbad
      exact absurd (Int.ediv_eq_zero_of_lt this.1 this.2) hbad
  unfold rankI
  rw [if_pos ⟨hl,hb⟩]
theorem impl_differ {l : List Int} (hw : ∀ x ∈ l,(Lit.int .i64 x).wf = true) (hl : l.length ≤ 1000) : impl_DifferentRows.f l = some ((cntN (fresh l) l.length : Nat) : Int) := by
  unfold impl_DifferentRows.f
  rw [if_pos ⟨List.all_eq_true.mpr hw,by omega⟩,size_S l l.length (Nat.le_refl _)]
theorem spec_differ {l : List Int} (hl : l.length ≤ 32) {k : Nat} (hk : 5000 < k) : spec_DifferentRows.f k l = some ((cntN (fresh l) l.length : Nat) : Int) := by
  have h1 : l.length * (l.length + 2) ≤ 32 * 34 := Nat.mul_le_mul hl (by omega)
  have h := rows_outer l (by omega) l.length (k - l.length * (l.length + 2) - 1) 0 (by omega)
  rw [show k - l.length * (l.length + 2) - 1 + l.length * (l.length + 2) + 1 = k by omega] at h
  exact h
theorem row_wf {l : List Int} (h : ∀ x ∈ l,0 ≤ x ∧ x < 4294967296) : ∀ x ∈ l,(Lit.int .i64 x).wf = true := fun x hx => by
  have := h x hx
  simp [Lit.wf,IntKind.min,IntKind.max,IntKind.bits,IntKind.signed]
  omega
theorem allF_all {ok : List Int → Nat → Bool} {Q : List Int → Prop} (h : ∀ l x,ok l x = true → Q (l ++ [(x : Int)])) : ∀ (d x : Nat) (l acc : List Int),Q acc → Q (allF ok d x l acc) := by
  intro d
  induction d with
  | zero => intro x l acc ha;exact ha
  | succ d ih =>
    intro x l acc ha
    rw [allF]
    split
    next hok =>
      refine ih _ _ _ ?_
      unfold pick
      split
      · exact ih _ _ _ (h l x hok)
      · exact ha
    next => exact ih _ _ _ ha
theorem large_fools {a b s v : Int} (h : (largeI a b s v).2 = true) : foolI a b s v (largeI a b s v).1 = true := by
  unfold largeI at h ⊢
  split at h
  next hc =>
    rw [if_pos hc]
    rw [Bool.and_eq_true,Bool.and_eq_true,Bool.and_eq_true,decide_eq_true_eq,decide_eq_true_eq,decide_eq_true_eq] at hc
    obtain ⟨n,w,rfl,rfl,ht⟩ := tab_of hc.1.1.1
    rw [Int.toNat_natCast,Int.toNat_natCast]
    refine allF_all (Q := fun r => foolI n w s v r = true) (fun l x hok => hok) _ _ _ _ ?_
    unfold foolI splitI
    rw [hc.1.1.1,decide_eq_true hc.1.2,decide_eq_true hc.2]
    rfl
  next => cases h
theorem both_some {k : Nat} {b : List Int} (hl : b.length ≤ 9223372036854775807) (hk : 5000 < k) : ∃ a w s : Int,spec_l20Both.f k b = some (a,w,s) ∧ (-9223372036854775808 ≤ w ∧ w ≤ 9223372036854775807) := by
  obtain ⟨h,e⟩ := new_some hl (k := k) (by omega)
  obtain ⟨a,w,i2,h2,e2,hi2,q1,q2⟩ := any_some (k := k) h hl (Int.le_refl 0) (by omega)
  obtain ⟨x,i3,h3,e3,hi3⟩ := once_some h2 8 hl hi2
  unfold spec_l20Both.f
  rw [e,Option.bind_some,e2,Option.bind_some,e3,Option.bind_some]
  dsimp only
  by_cases hx : x = true
  · obtain ⟨y,i4,h4,e4,_,_⟩ := pick_some (l := [(-1),5,6]) h3 hl hi3 (by decide)
    rw [if_pos hx,e4,Option.bind_some]
    exact ⟨_,_,_,rfl,q2⟩
  · obtain ⟨y,i4,h4,e4,_,_⟩ := below_some h3 (mx 1 (mn 5 (wrap64 (a + 1)))) hl hi3
    rw [if_neg hx,e4,Option.bind_some]
    exact ⟨_,_,_,rfl,q2⟩
theorem drawMat_some {k : Nat} {b : List Int} (hl : b.length ≤ 9223372036854775807) (hk : 5000 < k) : ∃ a w s : Int,spec_DrawMatrixOf.f k b = some (a,w,s) ∧ (-9223372036854775808 ≤ w ∧ w ≤ 9223372036854775807) := by
  obtain ⟨a,w,s,e,q⟩ := both_some hl hk
  unfold spec_DrawMatrixOf.f
  rw [e,Option.bind_some]
  exact ⟨_,_,_,rfl,q⟩
theorem three_some {k : Nat} {b : List Int} (hl : b.length ≤ 9223372036854775807) (hk : 5000 < k) : ∃ a w s v : Int,spec_l20Three.f k b = some (a,w,s,v) ∧ (-9223372036854775808 ≤ w ∧ w ≤ 9223372036854775807) := by
  obtain ⟨a,w,s,e,q⟩ := both_some hl hk
  unfold spec_l20Three.f
  rw [e,Option.bind_some,Option.bind_some,if_pos (by omega),if_pos (by show (b.length : Int) % 6 < 6;omega)]
  exact ⟨_,_,_,_,rfl,q⟩
theorem drawLarge_some {k : Nat} {b : List Int} (hl : b.length ≤ 9223372036854775807) (hk : 5000 < k) : ∃ a w s v : Int,spec_DrawLargestFooling.f k b = some (a,w,s,v) ∧ (-9223372036854775808 ≤ w ∧ w ≤ 9223372036854775807) := by
  obtain ⟨a,w,s,v,e,q⟩ := three_some hl hk
  unfold spec_DrawLargestFooling.f
  rw [e,Option.bind_some]
  exact ⟨_,_,_,_,rfl,q⟩
theorem drawTom_some {k : Nat} {b : List Int} (hl : b.length ≤ 9223372036854775807) (hk : 5000 < k) : ∃ (l : List Int) (n s : Int),spec_DrawTableOfMatrix.f k b = some (l,n,s) ∧ l.length ≤ 32 := by
  obtain ⟨a,w,s,e,q⟩ := both_some hl hk
  have hm := matI_length a w s
  unfold spec_DrawTableOfMatrix.f
  rw [e,Option.bind_some,spec_matrix a w s (by omega),Option.bind_some]
  dsimp only
  by_cases h0 : ((matI a w s).1.length : Int) > 0
  · rw [if_pos h0]
    by_cases h5 : (b.length : Int) % 5 = 0
    · rw [if_pos h5,Option.bind_some,if_pos (by omega),if_pos (by show (b.length : Int) % 4 < 4;omega),if_pos h0]
      exact ⟨_,_,_,rfl,by rw [List.length_set];exact hm⟩
    · rw [if_neg h5];exact ⟨_,_,_,rfl,hm⟩
  · rw [if_neg h0];exact ⟨_,_,_,rfl,hm⟩
theorem drawRank_some {k : Nat} {b : List Int} (hl : b.length ≤ 9223372036854775807) (hk : 5000 < k) : ∃ l : List Int,spec_DrawRankMod2.f k b = some l ∧ l.length ≤ 32 := by
  obtain ⟨a,w,s,e,q⟩ := both_some hl hk
  have hm := matI_length a w s
  unfold spec_DrawRankMod2.f
  rw [e,Option.bind_some,spec_matrix a w s (by omega),Option.bind_some]
  by_cases h0 : ((matI a w s).1.length : Int) > 0
  · rw [if_pos h0]
    by_cases h5 : (b.length : Int) % 7 = 0
    · rw [if_pos h5,if_pos h0]
      exact ⟨_,rfl,by rw [List.length_set];exact hm⟩
    · rw [if_neg h5];exact ⟨_,rfl,hm⟩
  · rw [if_neg h0];exact ⟨_,rfl,hm⟩
theorem drawDiffer_some {k : Nat} {b : List Int} (hl : b.length ≤ 9223372036854775807) (hk : 5000 < k) : ∃ l : List Int,spec_DrawDifferentRows.f k b = some l ∧ l.length ≤ 32 ∧ ∀ x ∈ l,0 ≤ x ∧ x < 4294967296 := by
  obtain ⟨a,w,s,e,q⟩ := both_some hl hk
  unfold spec_DrawDifferentRows.f
  rw [e,Option.bind_some,spec_matrix a w s (by omega),Option.bind_some]
  exact ⟨_,rfl,matI_length a w s,matI_rows a w s⟩
theorem drawRect_some {k : Nat} {b : List Int} (hl : b.length ≤ 9223372036854775807) (hk : 5000 < k) : ∃ a w s x y : Int,spec_DrawIsRectangle.f k b = some (a,w,s,x,y) ∧ (-9223372036854775808 ≤ w ∧ w ≤ 9223372036854775807) ∧ x < 16 ∧ y < 16 := by
  obtain ⟨a,w,s,e,q⟩ := both_some hl hk
  obtain ⟨h,e1⟩ := new_some hl (k := k) (by omega)
  obtain ⟨x,i2,h2,e2,hi2,_,hx,_⟩ := below_some h 16 hl (Int.le_refl 0)
  obtain ⟨y,i3,h3,e3,hi3,_,hy,_⟩ := below_some h2 16 hl hi2
  unfold spec_DrawIsRectangle.f
  rw [e,Option.bind_some,e1,Option.bind_some,e2,Option.bind_some,e3,Option.bind_some]
  exact ⟨_,_,_,_,_,rfl,q,hx (by decide),hy (by decide)⟩
theorem drawFool_some {k : Nat} {b : List Int} (hl : b.length ≤ 9223372036854775807) (hk : 5000 < k) : ∃ (a w s v : Int) (l : List Int),spec_DrawIsFooling.f k b = some (a,w,s,v,l) ∧ (-9223372036854775808 ≤ w ∧ w ≤ 9223372036854775807) ∧ l.length ≤ 100 := by
  obtain ⟨a,w,s,v,e,q⟩ := three_some hl hk
  have hlen := largeI_length a w s v
  unfold spec_DrawIsFooling.f
  rw [e,Option.bind_some,spec_large a w s v (by omega),Option.bind_some]
  dsimp only
  by_cases h0 : (largeI a w s v).2 = true
  · rw [if_pos h0]
    by_cases h3 : (b.length : Int) % 3 > 0
    · rw [if_pos h3];exact ⟨_,_,_,_,_,rfl,q,hlen⟩
    · rw [if_neg h3];exact ⟨_,_,_,_,_,rfl,q,by decide⟩
  · rw [if_neg h0];exact ⟨_,_,_,_,_,rfl,q,by decide⟩
theorem FnMatrices (l : List Int) (_ : l.length ≤ maxLen) (hy : l.length * 1 ≤ 140737488351232) (_ : ∀ x ∈ l,(Lit.int .u8 x).wf = true) : ∃ k,laws_FnMatrices.f k l = some true := by
  refine ⟨70000,?_⟩
  unfold laws_FnMatrices.f
  refine if_pos ?_
  by_cases hb : (l.length : Int) > 1048576
  · left
    unfold laws_big.f
    rw [decide_eq_true hb]
  · right
    have hl : l.length ≤ 9223372036854775807 := by omega
    obtain ⟨a,u,p,hd,hu0,hu1⟩ := drawMat_some (k := 70000) hl (by decide)
    obtain ⟨m1,m2,j,v,hlf,hm0,hm1⟩ := drawLarge_some (k := 70000) hl (by decide)
    obtain ⟨la,lb,lc,hdt,hla⟩ := drawTom_some (k := 70000) hl (by decide)
    obtain ⟨lh,hdr,hlh⟩ := drawRank_some (k := 70000) hl (by decide)
    obtain ⟨li,hdd,hli,hlr⟩ := drawDiffer_some (k := 70000) hl (by decide)
    obtain ⟨o1,o2,o3,o4,o5,hdi,⟨ho0,ho1⟩,ho4,ho5⟩ := drawRect_some (k := 70000) hl (by decide)
    obtain ⟨f1,f2,f3,f4,f5,hdf,⟨hf0,hf1⟩,hf5⟩ := drawFool_some (k := 70000) hl (by decide)
    have hql := matI_length a u p
    have hll := largeI_length m1 m2 j v
    have hmul : ∀ x : List Int,x.length ≤ 100 → x.length * (x.length + 5) + 2 < 70000 := fun x hx => by
      have : x.length * (x.length + 5) ≤ 100 * 105 := Nat.mul_le_mul hx (by omega)
      omega
    refine ⟨a,u,p,(matI a u p).1,(matI a u p).2,m1,m2,j,v,(largeI m1 m2 j v).1,(largeI m1 m2 j v).2,la,lb,lc,(tomA la lb lc).1,(tomA la lb lc).2.1,(tomA la lb lc).2.2,lh,rankI lh,li,((cntN (fresh li) li.length : Nat) : Int),o1,o2,o3,o4,o5,rectI o1 o2 o3 o4 o5,f1,f2,f3,f4,f5,foolI f1 f2 f3 f4 f5,?_⟩
    exact {
      small := by unfold laws_big.f;rw [decide_eq_false hb]
      draw := hd
      mat := impl_matrix p hu0 hu1 (by decide)
      mat2 := spec_matrix a u p (by decide)
      qs := same_ints _ (by omega) (by omega)
      back := fun h => by
        have hS : splitI a u p = true := by
          cases hS : splitI a u p with
          | true => rfl
          | false => unfold matI at h;rw [hS,if_neg (by decide)] at h;cases h
        have hrows := matI_rows a u p
        obtain ⟨t,m,w,rfl,rfl,rfl,ht⟩ := split_of hS
        rw [matI_of ht] at hrows hql ⊢
        have hrows : ∀ x ∈ rowsV w t m (2 ^ t),0 ≤ x ∧ x < 4294967296 := hrows
        have hql : (rowsV w t m (2 ^ t)).length ≤ 32 := hql
        dsimp only
        generalize hq : rowsV w t m (2 ^ t) = q at hrows hql
        have hr := rank_fresh q q.length
        have hd := cntN_le (fresh q) q.length
        have h2 := fresh_rank (l := q) (n := q.length) (fun i hi => (hrows _ (rd_mem' hi)).1)
        refine ⟨by rw [impl_tom _ _ _ (by omega),← hq,tom_back ht],_,_,(impl_rank q (by omega)).trans (congrArg some (rankI_of hrows hql)),impl_differ (row_wf hrows) (by omega),by omega,by omega,by omega,?_⟩
        have e64 : min (((listS q q.length).length : Nat) : Int).toNat 64 = (listS q q.length).length := by omega
        have hp : 2 ^ (listS q q.length).length ≤ 2 ^ 32 := Nat.pow_le_pow_right (by decide) (by omega)
        rw [e64,wrap64_pow (by omega)]
        omega
      dlf := hlf
      lf := impl_large j v hm0 hm1
      lf2 := spec_large m1 m2 j v (by decide)
      ls := same_ints _ (by omega) (by omega)
      fool := fun h => by rw [impl_fooling j v _ hm0 hm1 (by omega) (hmul _ hll),large_fools h]
      dtm := hdt
      tm := impl_tom la lb lc (by omega)
      tm2 := spec_tom la lb lc (by decide)
      dr := hdr
      rk := impl_rank lh (by omega)
      rk2 := spec_rank lh (by omega) (by omega)
      dd := hdd
      df := impl_differ (row_wf hlr) (by omega)
      df2 := spec_differ hli (by decide)
      di := hdi
      ir := impl_rect o3 o4 o5 ho0 ho1 (by omega) (by omega)
      ir2 := spec_rect o1 o2 o3 o4 o5 (by decide)
      dfo := hdf
      fo := impl_fooling f3 f4 f5 hf0 hf1 (by omega) (hmul _ hf5)
      fo2 := spec_fooling f1 f2 f3 f4 f5 (by omega) (hmul _ hf5) }
end Go.Proofs.Ythlajlhjofjmcaa.U
