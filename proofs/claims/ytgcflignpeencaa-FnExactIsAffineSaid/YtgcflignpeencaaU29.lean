/- The nearest sum of variables: both ways. -/
import Derived.Test.YtgcflignpeencaaUG
import Derived.Test.YtgcflignpeencaaUPb
import Derived.Test.YtgcflignpeencaaUC
import Derived.Test.YtgcflignpeencaaFimplNearestAffine
import Derived.Test.YtgcflignpeencaaFspecNearestAffine
namespace Go.Proofs.Ytgcflignpeencaa.U
open Go.RowKit Go.Proofs.YtgcflignpeencaaW.PrintWords Go.Proofs.YtgcflignpeencaaW.PrintLast Go.Proofs.YtgcflignpeencaaW.PrintMore Go.Proofs.Ytgcflignpeencaa.F Go.Proofs.Ytgcflignpeencaa.B
set_option linter.unusedVariables false
set_option linter.unusedSimpArgs false
set_option maxRecDepth 100000
/-- The value of a sum of variables and a constant. -/
def affB (u b x : Nat) : Bool := (pop (u &&& x) + b) % 2 == 1
def affW (n u b : Nat) : Nat := tabN (affB u b) (2 ^ n)
theorem affW_lt {n : Nat} (hn : n ≤ 5) (u b : Nat) : affW n u b < 4294967296 := Nat.lt_of_lt_of_le (tabN_lt _ _) (full_le hn)
theorem and_small {u x : Nat} (hx : x < 32) : u &&& x < 32 := Nat.lt_of_le_of_lt Nat.and_le_right hx
theorem impl_aff {n u b : Nat} (hn : n ≤ 5) (hu : u < 32) (hb : b ≤ 1) : impl_affine.f n u b = some ((n : Int), ((affW n u b : Nat) : Int)) := by
  have ho : ∀ x : Nat, x < 2 ^ n → impl_ones.f ((u &&& x : Nat) : Int) = some ((pop (u &&& x) : Nat) : Int) := fun x hx => ones_small (and_small (Nat.lt_of_lt_of_le hx (pow_le hn)))
  have hp : ∀ x : Nat, x < 2 ^ n → pop (u &&& x) ≤ 5 := fun x hx => pop_le (n := 5) (by omega) (and_small (Nat.lt_of_lt_of_le hx (pow_le hn)))
  unfold impl_affine.f
  rw [if_pos ⟨by omega, by
    rw [Int.toNat_natCast, Int.toNat_natCast]
    refine allN_iff.mpr fun x hx => ?_
    have := hp x hx
    unfold impl_affine.okx
    rw [ho x hx]
    exact decide_eq_true ⟨by omega, by omega⟩⟩, Int.toNat_natCast, Int.toNat_natCast, Int.toNat_natCast]
  congr 3
  refine tabN_congr fun x hx => ?_
  unfold impl_affine.p affB
  rw [ho x hx]
  show ((((pop (u &&& x) : Nat) : Int) + (b : Int)) % 2 == 1) = _
  rw [show (((pop (u &&& x) : Nat) : Int) + (b : Int)) % 2 = (((pop (u &&& x) + b) % 2 : Nat) : Int) by omega]
  rcases Nat.mod_two_eq_zero_or_one (pop (u &&& x) + b) with h | h <;> rw [h] <;> rfl
theorem spec_aff_loop {n u b : Nat} (hn : n ≤ 5) (hu : u < 32) (hb : b ≤ 1) : ∀ (d k x : Nat), x + d = 2 ^ n → d + 10 < k →
    spec_l14Affine.l0 k n u b ((tabN (affB u b) x : Nat) : Int) x = some ((affW n u b : Nat) : Int) := by
  have hM := pow_le hn
  intro d
  induction d with
  | zero =>
    intro k x hx hk
    obtain ⟨k, rfl⟩ : ∃ m, k = m + 1 := ⟨k - 1, by omega⟩
    obtain rfl : x = 2 ^ n := by omega
    simp only [spec_l14Affine.l0]
    rw [if_pos (Int.natCast_nonneg _), shl1_of (by omega), if_neg (by omega)]
    rfl
  | succ d ih =>
    intro k x hx hk
    obtain ⟨k, rfl⟩ : ∃ m, k = m + 1 := ⟨k - 1, by omega⟩
    have h5 := pop_le (n := 5) (by omega) (and_small (u := u) (show x < 32 by omega))
    have hT := tabN_lt63 (affB u b) (show x ≤ 32 by omega)
    have hs : (affB u b x).toNat <<< x < 2 ^ 32 := by
      have := @bitN_shl_lt (if affB u b x = true then 1 else 0) 0 x 32 (by omega)
      have e : bitN (if affB u b x = true then 1 else 0) 0 = (affB u b x).toNat := by cases affB u b x <;> rfl
      rw [e] at this
      exact this
    have hm : Int.tmod (wrap64 (((pop (u &&& x) : Nat) : Int) + (b : Int))) 2 = (((affB u b x).toNat : Nat) : Int) := by
      rw [wrap64_of (by omega) (by omega), Int.tmod_eq_emod_of_nonneg (by omega), show (((pop (u &&& x) : Nat) : Int) + (b : Int)) % 2 = (((pop (u &&& x) + b) % 2 : Nat) : Int) by omega]
      unfold affB
      rcases Nat.mod_two_eq_zero_or_one (pop (u &&& x) + b) with h | h <;> rw [h] <;> rfl
    simp only [spec_l14Affine.l0]
    rw [if_pos (Int.natCast_nonneg _), shl1_of (by omega), if_pos (by omega), and_cast (by omega) (by omega), ones_ref (and_small (by omega)) (by omega), Option.bind_some, if_pos (Int.natCast_nonneg _), hm, shl_cast (by omega) (by omega), or_cast hT (by omega), wrap64_succ (by omega)]
    exact ih k (x + 1) (by omega) (by omega)
theorem spec_aff {n u b k : Nat} (hn : n ≤ 5) (hu : u < 32) (hb : b ≤ 1) (hk : 45 < k) : spec_l14Affine.f k n u b = some ((affW n u b : Nat) : Int) := by
  have hM := pow_le hn
  exact spec_aff_loop hn hu hb (2 ^ n) k 0 (by omega) (by omega)
/-- How far the table is from a sum. -/
def dist (n w u b : Nat) : Nat := cnt (w ^^^ affW n u b)
/-- One more sum is looked at. -/
def nearS (n w u b : Nat) (s : Nat × Nat × Nat) : Nat × Nat × Nat := if dist n w u b < s.2.2 then (u, b, dist n w u b) else s
/-- What is left of d rounds from i on. -/
def goN {σ : Type} (f : Nat → σ → σ) : Nat → Nat → σ → σ
  | 0, _, s => s
  | d + 1, i, s => goN f d (i + 1) (f i s)
def nearU (n w u : Nat) (s : Nat × Nat × Nat) : Nat × Nat × Nat := nearS n w u 1 (nearS n w u 0 s)
theorem xor_lt32 {n w u b : Nat} (ht : Tab n w) : w ^^^ affW n u b < 4294967296 := Nat.xor_lt_two_pow (n := 32) ht.lt (affW_lt ht.1 u b)
theorem impl_near_b {n w u b : Nat} (ht : Tab n w) (hu : u < 2 ^ n) (hb : b < 2) (k : Nat) (s : Nat × Nat × Nat) :
    impl_NearestAffine.l1 (k + 1) s.1 s.2.1 s.2.2 u ((2 ^ n : Nat) : Int) u b n w = impl_NearestAffine.l1 k (nearS n w u b s).1 (nearS n w u b s).2.1 (nearS n w u b s).2.2 u ((2 ^ n : Nat) : Int) u ((b + 1 : Nat) : Int) n w := by
  have hM := pow_le ht.1
  have ha := affW_lt ht.1 u b
  have hl := ht.lt
  simp only [impl_NearestAffine.l1]
  rw [if_pos (by omega), impl_aff ht.1 (by omega) (by omega), Option.bind_some, xor_cast (by omega) (by omega), cnt_ones (xor_lt32 ht), Option.bind_some, wrap64_succ (by omega)]
  unfold nearS dist
  by_cases h : cnt (w ^^^ affW n u b) < s.2.2
  · rw [if_pos (by omega), if_pos h]
  · rw [if_neg (by omega), if_neg h]
theorem impl_near_u {n w u : Nat} (ht : Tab n w) (hu : u < 2 ^ n) (k : Nat) (s : Nat × Nat × Nat) :
    impl_NearestAffine.l0 (k + 4) s.1 s.2.1 s.2.2 ((2 ^ n : Nat) : Int) u n w = impl_NearestAffine.l0 k (nearU n w u s).1 (nearU n w u s).2.1 (nearU n w u s).2.2 ((2 ^ n : Nat) : Int) ((u + 1 : Nat) : Int) n w := by
  have hM := pow_le ht.1
  have h0 := impl_near_b ht hu (b := 0) (by decide) (k + 2) s
  have h1 := impl_near_b ht hu (b := 1) (by decide) (k + 1) (nearS n w u 0 s)
  rw [show k + 4 = (k + 3) + 1 from rfl]
  simp only [impl_NearestAffine.l0]
  rw [if_pos (by omega)]
  refine Eq.trans h0 (Eq.trans h1 ?_)
  simp only [impl_NearestAffine.l1]
  rw [if_neg (by omega), wrap64_succ (by omega)]
  rfl
theorem impl_near {n w : Nat} (ht : Tab n w) : ∀ (d k u : Nat) (s : Nat × Nat × Nat), u + d = 2 ^ n → d * 4 < k →
    impl_NearestAffine.l0 k s.1 s.2.1 s.2.2 ((2 ^ n : Nat) : Int) u n w = some (((goN (nearU n w) d u s).1 : Int), ((goN (nearU n w) d u s).2.1 : Int), ((goN (nearU n w) d u s).2.2 : Int), true) := by
  intro d
  induction d with
  | zero =>
    intro k u s hu hk
    obtain ⟨k, rfl⟩ : ∃ m, k = m + 1 := ⟨k - 1, by omega⟩
    simp only [impl_NearestAffine.l0]
    rw [if_neg (by omega)]
    rfl
  | succ d ih =>
    intro k u s hu hk
    obtain ⟨k, rfl⟩ : ∃ m, k = m + 4 := ⟨k - 4, by omega⟩
    rw [impl_near_u ht (by omega)]
    exact ih k (u + 1) _ (by omega) (by omega)
theorem spec_near_b {n w u b k : Nat} (ht : Tab n w) (hu : u < 2 ^ n) (hb : b < 2) (hk : 50 < k) (s : Nat × Nat × Nat) :
    spec_NearestAffine.l1 (k + 1) s.1 s.2.1 s.2.2 u b n w = spec_NearestAffine.l1 k (nearS n w u b s).1 (nearS n w u b s).2.1 (nearS n w u b s).2.2 u ((b + 1 : Nat) : Int) n w := by
  have hM := pow_le ht.1
  have ha := affW_lt ht.1 u b
  have hl := ht.lt
  simp only [spec_NearestAffine.l1]
  rw [if_pos (by omega), spec_aff ht.1 (by omega) (by omega) (by omega), Option.bind_some, xor_cast (by omega) (by omega), cnt_ref (xor_lt32 ht) (by omega), Option.bind_some, wrap64_succ (by omega)]
  unfold nearS dist
  by_cases h : cnt (w ^^^ affW n u b) < s.2.2
  · rw [if_pos (by omega), if_pos h]
  · rw [if_neg (by omega), if_neg h]
theorem spec_near_u {n w u k : Nat} (ht : Tab n w) (hu : u < 2 ^ n) (hk : 50 < k) (s : Nat × Nat × Nat) :
    spec_NearestAffine.l0 (k + 4) s.1 s.2.1 s.2.2 u n w = spec_NearestAffine.l0 k (nearU n w u s).1 (nearU n w u s).2.1 (nearU n w u s).2.2 ((u + 1 : Nat) : Int) n w := by
  have hM := pow_le ht.1
  have hn := ht.1
  have h0 := spec_near_b ht hu (b := 0) (k := k + 2) (by decide) (by omega) s
  have h1 := spec_near_b ht hu (b := 1) (k := k + 1) (by decide) (by omega) (nearS n w u 0 s)
  rw [show k + 4 = (k + 3) + 1 from rfl]
  simp only [spec_NearestAffine.l0]
  rw [if_pos (Int.natCast_nonneg _), shl1_of (by omega), if_pos (by omega)]
  refine Eq.trans h0 (Eq.trans h1 ?_)
  simp only [spec_NearestAffine.l1]
  rw [if_neg (by omega), wrap64_succ (by omega)]
  rfl
theorem spec_near {n w : Nat} (ht : Tab n w) : ∀ (d k u : Nat) (s : Nat × Nat × Nat), u + d = 2 ^ n → d * 4 + 60 < k →
    spec_NearestAffine.l0 k s.1 s.2.1 s.2.2 u n w = some (((goN (nearU n w) d u s).1 : Int), ((goN (nearU n w) d u s).2.1 : Int), ((goN (nearU n w) d u s).2.2 : Int), true) := by
  have hM := pow_le ht.1
  have hn := ht.1
  intro d
  induction d with
  | zero =>
    intro k u s hu hk
    obtain ⟨k, rfl⟩ : ∃ m, k = m + 1 := ⟨k - 1, by omega⟩
    simp only [spec_NearestAffine.l0]
    rw [if_pos (Int.natCast_nonneg _), shl1_of (by omega), if_neg (by omega)]
    rfl
  | succ d ih =>
    intro k u s hu hk
    obtain ⟨k, rfl⟩ : ∃ m, k = m + 4 := ⟨k - 4, by omega⟩
    rw [spec_near_u ht (by omega) (by omega)]
    exact ih k (u + 1) _ (by omega) (by omega)
theorem cntN_cut {p : Nat → Bool} {m : Nat} (h : ∀ i, m ≤ i → p i = false) : ∀ r, cntN p (m + r) = cntN p m := by
  intro r
  induction r with
  | zero => rfl
  | succ r ih => rw [← Nat.add_assoc, cntN, ih, h _ (by omega)]; rfl
theorem dist_le {n w : Nat} (ht : Tab n w) (u b : Nat) : dist n w u b ≤ 2 ^ n := by
  have hM := pow_le ht.1
  have hx : w ^^^ affW n u b < 2 ^ 2 ^ n := Nat.xor_lt_two_pow ht.2 (tabN_lt _ _)
  unfold dist cnt
  rw [show 32 = 2 ^ n + (32 - 2 ^ n) by omega, cntN_cut (fun i hi => testBit_ge hx hi)]
  exact cntN_le _ _
theorem near_first {n w : Nat} (ht : Tab n w) (a b : Nat) (ha : 2 ^ n < a) (hb : 2 ^ n < b) : goN (nearU n w) (2 ^ n) 0 (0, 0, a) = goN (nearU n w) (2 ^ n) 0 (0, 0, b) := by
  have hd := dist_le ht 0 0
  obtain ⟨d, hd'⟩ : ∃ d, 2 ^ n = d + 1 := ⟨2 ^ n - 1, by have := pow_pos n; omega⟩
  rw [hd', goN, goN]
  congr 1
  unfold nearU
  congr 1
  unfold nearS
  rw [if_pos (show dist n w 0 0 < a by omega), if_pos (show dist n w 0 0 < b by omega)]
/-- What both say. -/
def nearI (a b : Int) : Int × Int × Int × Bool := if isTab a b = true then (((goN (nearU a.toNat b.toNat) (2 ^ a.toNat) 0 (0, 0, 100)).1 : Int), ((goN (nearU a.toNat b.toNat) (2 ^ a.toNat) 0 (0, 0, 100)).2.1 : Int), ((goN (nearU a.toNat b.toNat) (2 ^ a.toNat) 0 (0, 0, 100)).2.2 : Int), true) else (0, 0, 0, false)
theorem impl_nearest {a b : Int} (h0 : -9223372036854775808 ≤ b) (h1 : b ≤ 9223372036854775807) {k : Nat} (hk : 200 < k) : impl_NearestAffine.f k a b = some (nearI a b) := by
  unfold impl_NearestAffine.f nearI
  rw [impl_isTable h0 h1, Option.bind_some]
  cases hT : isTab a b with
  | false => rw [if_neg (by decide), if_neg (by decide)]
  | true =>
    obtain ⟨n, w, rfl, rfl, ht⟩ := tab_of hT
    have hM := pow_le ht.1
    have hn := ht.1
    rw [if_pos rfl, if_pos rfl, size_some _ (by omega), Option.bind_some, Option.bind_some, wrap64_succ (by omega), Int.toNat_natCast, Int.toNat_natCast, ← near_first ht (2 ^ n + 1) 100 (by omega) (by omega)]
    exact impl_near ht (2 ^ n) k 0 (0, 0, 2 ^ n + 1) (by omega) (by omega)
theorem spec_nearest (a b : Int) {k : Nat} (hk : 300 < k) : spec_NearestAffine.f k a b = some (nearI a b) := by
  unfold spec_NearestAffine.f nearI
  rw [spec_isTable, Option.bind_some]
  cases hT : isTab a b with
  | false => rw [if_neg (by decide), if_neg (by decide)]
  | true =>
    obtain ⟨n, w, rfl, rfl, ht⟩ := tab_of hT
    have hM := pow_le ht.1
    rw [if_pos rfl, if_pos rfl, Int.toNat_natCast, Int.toNat_natCast]
    exact spec_near ht (2 ^ n) k 0 (0, 0, 100) (by omega) (by omega)
end Go.Proofs.Ytgcflignpeencaa.U
