/- Walks of Go functions and lemmas on what they compute, for the row of FnSpectra (a part of several): each call ends as the Lean function of its name tells; the conditions are those of each theorem. -/
import Derived.Test.YtflacbjpeecjcaaM1FnSpectra
import Derived.Test.YtflacbjpeecjcaaM2FnSpectra
import Derived.Test.YtflacbjpeecjcaaM3FnSpectra
import Derived.Test.YtflacbjpeecjcaaM4FnSpectra
import Derived.Test.YtflacbjpeecjcaaM5FnSpectra
import Derived.Test.YtflacbjpeecjcaaM6FnSpectra
import Derived.Test.YtflacbjpeecjcaaM7FnSpectra
import Derived.Test.YtflacbjpeecjcaaM8FnSpectra
import Derived.Test.YtflacbjpeecjcaaM9FnSpectra
import Derived.Test.YtflacbjpeecjcaaM10FnSpectra
import Derived.Test.YtflacbjpeecjcaaM11FnSpectra
import Derived.Test.YtflacbjpeecjcaaM12FnSpectra
namespace Go.Proofs.Ytflacbjpeecjcaa.U
open Go.RowKit Go.Proofs.YtflacbjpeecjcaaW.PrintWords Go.Proofs.YtflacbjpeecjcaaW.PrintLast Go.Proofs.YtflacbjpeecjcaaW.PrintMore Go.Proofs.Ytflacbjpeecjcaa.F Go.Proofs.Ytflacbjpeecjcaa.B
set_option linter.unusedVariables false
set_option linter.unusedSimpArgs false
theorem sp_small {n w u : Nat} (ht : Tab n w) (hu : u < 2 ^ n) : -32 ≤ spc n w u ∧ spc n w u ≤ 32 := by
  have := spc_le ht hu
  have := pow_le ht.1
  omega
theorem mx_is (a b : Int) : mx a b = max a b := by unfold mx;split <;> omega
theorem peak_le {n w : Nat} (ht : Tab n w) : ∀ m,m ≤ 2 ^ n → peakN n w m ≤ 32 := by
  intro m
  induction m with
  | zero => intro _;show (0 : Int) ≤ 32;omega
  | succ m ih =>
    intro hm
    have h1 := ih (by omega)
    have h2 := sp_small ht (show m < 2 ^ n by omega)
    rw [peakN]
    omega
theorem impl_peak_loop {n w : Nat} (ht : Tab n w) : ∀ d k u : Nat,u + d = 2 ^ n → d < k → impl_peak.l0 k (peakN n w u) (spL n w (2 ^ n)) ((2 ^ n : Nat) : Int) u = some (peakN n w (2 ^ n)) := by
  have hM := pow_le ht.1
  intro d
  induction d with
  | zero =>
    intro k u hu hk
    obtain ⟨k,rfl⟩ : ∃ m,k = m + 1 := ⟨k - 1,by omega⟩
    obtain rfl : u = 2 ^ n := by omega
    rw [impl_peak.l0,if_neg (by omega)]
  | succ d ih =>
    intro k u hu hk
    obtain ⟨k,rfl⟩ : ∃ m,k = m + 1 := ⟨k - 1,by omega⟩
    have h2 := sp_small ht (show u < 2 ^ n by omega)
    rw [impl_peak.l0,if_pos (by omega),if_pos (Int.natCast_nonneg _),if_pos (by rw [spL_length];omega),spL_get (by omega),size1_some (by omega) (by omega),Option.bind_some,wrap64_succ (by omega)]
    have e : mx (peakN n w u) (if spc n w u < 0 then -spc n w u else spc n w u) = peakN n w (u + 1) := by
      rw [peakN,mx_is]
      split <;> omega
    rw [e]
    exact ih k (u + 1) (by omega) (by omega)
def nlI (a b : Int) : Int := if isTab a b = true then Int.tdiv (((2 ^ a.toNat : Nat) : Int) - peakN a.toNat b.toNat (2 ^ a.toNat)) 2 else -1
theorem nl_wrap {n w : Nat} (ht : Tab n w) : wrap64 (Int.tdiv (wrap64 (((2 ^ n : Nat) : Int) - peakN n w (2 ^ n))) 2) = Int.tdiv (((2 ^ n : Nat) : Int) - peakN n w (2 ^ n)) 2 := by
  have hM := pow_le ht.1
  have h1 := peak_le ht (2 ^ n) (Nat.le_refl _)
  obtain ⟨h0,_,_⟩ := peakN_is n w (2 ^ n)
  generalize peakN n w (2 ^ n) = p at h0 h1 ⊢
  generalize 2 ^ n = M at hM ⊢
  rw [wrap64_of (n := (M : Int) - p) (by omega) (by omega)]
  generalize hz : (M : Int) - p = z
  have : -100 ≤ z ∧ z ≤ 100 := by omega
  have h3 : -100 ≤ Int.tdiv z 2 ∧ Int.tdiv z 2 ≤ 100 := by
    rcases Int.le_total 0 z with q | q
    · obtain ⟨y,rfl⟩ := Int.eq_ofNat_of_zero_le q
      have : Int.tdiv (y : Int) 2 = ((y / 2 : Nat) : Int) := rfl
      omega
    · obtain ⟨y,hy⟩ := Int.eq_ofNat_of_zero_le (show 0 ≤ -z by omega)
      obtain rfl : z = -(y : Int) := by omega
      rw [Int.neg_tdiv]
      have : Int.tdiv (y : Int) 2 = ((y / 2 : Nat) : Int) := rfl
      omega
  exact wrap64_of (by omega) (by omega)
theorem impl_nlI {a b : Int} (h0 : -9223372036854775808 ≤ b) (h1 : b ≤ 9223372036854775807) {k : Nat} (hk : 1400 < k) : impl_Nonlinearity.f k a b = some (nlI a b) := by
  unfold impl_Nonlinearity.f nlI
  rw [impl_isTable h0 h1,Option.bind_some]
  by_cases h : isTab a b = true
  · obtain ⟨n,w,rfl,rfl,ht⟩ := tab_of h
    have hM := pow_le ht.1
    have hp := impl_peak_loop ht (2 ^ n) k 0 (by omega) (by omega)
    have hp : impl_peak.l0 k 0 (spL n w (2 ^ n)) ((2 ^ n : Nat) : Int) 0 = some (peakN n w (2 ^ n)) := hp
    rw [if_pos h,if_pos h,size_some _ (by have := ht.1;omega),Option.bind_some,impl_sp ht hk,Option.bind_some]
    unfold impl_peak.f
    rw [spL_length,hp,Option.bind_some,nl_wrap ht,Int.toNat_natCast,Int.toNat_natCast]
  · rw [if_neg h,if_neg h]
theorem spec_peak_loop {n w : Nat} (ht : Tab n w) : ∀ d k u : Nat,u + d = 2 ^ n → d < k → spec_Nonlinearity.l0 k (spL n w (2 ^ n)) (peakN n w u) u = some (Int.tdiv (((2 ^ n : Nat) : Int) - peakN n w (2 ^ n)) 2) := by
  have hM := pow_le ht.1
  intro d
  induction d with
  | zero =>
    intro k u hu hk
    obtain ⟨k,rfl⟩ : ∃ m,k = m + 1 := ⟨k - 1,by omega⟩
    obtain rfl : u = 2 ^ n := by omega
    rw [spec_Nonlinearity.l0,spL_length,if_neg (by omega),nl_wrap ht]
  | succ d ih =>
    intro k u hu hk
    obtain ⟨k,rfl⟩ : ∃ m,k = m + 1 := ⟨k - 1,by omega⟩
    have h2 := sp_small ht (show u < 2 ^ n by omega)
    rw [spec_Nonlinearity.l0,if_pos (by rw [spL_length];omega),if_pos (Int.natCast_nonneg _),spL_get (by omega),wrap64_of (n := -spc n w u) (by omega) (by omega),wrap64_succ (by omega),mx_is,mx_is]
    exact ih k (u + 1) (by omega) (by omega)
theorem spI_tab {n w : Nat} (ht : Tab n w) : spI n w = spL n w (2 ^ n) := by
  unfold spI
  rw [if_pos (isTab_of ht)]
  rfl
theorem spec_nlI (a b : Int) {k : Nat} (hk : 1500 < k) : spec_Nonlinearity.f k a b = some (nlI a b) := by
  unfold spec_Nonlinearity.f
  rw [spec_spI a b hk,Option.bind_some]
  by_cases h : isTab a b = true
  · obtain ⟨n,w,rfl,rfl,ht⟩ := tab_of h
    have hM := pow_le ht.1
    have hp := pow_pos n
    unfold nlI
    rw [if_pos h,spI_tab ht,if_neg (by rw [spL_length];omega),Int.toNat_natCast,Int.toNat_natCast]
    exact spec_peak_loop ht (2 ^ n) k 0 (by omega) (by omega)
  · unfold spI nlI
    rw [if_neg h,if_neg h]
    rfl
def ciN (n w : Nat) : Nat → Int
  | 0 => n
  | m + 1 => if m = 0 ∨ spc n w m = 0 then ciN n w m else mn (ciN n w m) (((pop m : Nat) : Int) - 1)
theorem impl_ci_loop {n w : Nat} (ht : Tab n w) : ∀ d k u : Nat,u + d = 2 ^ n → d < k → impl_CorrelationImmunity.l0 k (ciN n w u) (spL n w (2 ^ n)) ((2 ^ n : Nat) : Int) u = some (ciN n w (2 ^ n)) := by
  have hM := pow_le ht.1
  intro d
  induction d with
  | zero =>
    intro k u hu hk
    obtain ⟨k,rfl⟩ : ∃ m,k = m + 1 := ⟨k - 1,by omega⟩
    obtain rfl : u = 2 ^ n := by omega
    rw [impl_CorrelationImmunity.l0,if_neg (by omega)]
  | succ d ih =>
    intro k u hu hk
    obtain ⟨k,rfl⟩ : ∃ m,k = m + 1 := ⟨k - 1,by omega⟩
    have hn := ih k (u + 1) (by omega) (by omega)
    have hp := pop_le (n := 5) (by omega) (show u < 32 by omega)
    rw [impl_CorrelationImmunity.l0,if_pos (by omega),if_pos (Int.natCast_nonneg _),if_pos (by rw [spL_length];omega),wrap64_succ (by omega)]
    rw [ciN] at hn
    by_cases c0 : u = 0
    · rw [if_neg (by omega)]
      rw [if_pos (.inl c0)] at hn
      exact hn
    · rw [if_pos (by omega),spL_get (by omega)]
      by_cases c1 : spc n w u = 0
      · rw [if_pos c1]
        rw [if_pos (.inr c1)] at hn
        exact hn
      · rw [if_neg c1,ones_small (by omega),Option.bind_some,wrap64_of (n := ((pop u : Nat) : Int) - 1) (by omega) (by omega)]
        rw [if_neg (by omega)] at hn
        exact hn
theorem spec_ci_loop {n w : Nat} (ht : Tab n w) : ∀ d k u : Nat,u + d = 2 ^ n → 0 < u → d + 20 < k → spec_CorrelationImmunity.l0 k (spL n w (2 ^ n)) (ciN n w u) u = some (ciN n w (2 ^ n)) := by
  have hM := pow_le ht.1
  intro d
  induction d with
  | zero =>
    intro k u hu h0 hk
    obtain ⟨k,rfl⟩ : ∃ m,k = m + 1 := ⟨k - 1,by omega⟩
    obtain rfl : u = 2 ^ n := by omega
    rw [spec_CorrelationImmunity.l0,spL_length,if_neg (by omega)]
  | succ d ih =>
    intro k u hu h0 hk
    obtain ⟨k,rfl⟩ : ∃ m,k = m + 1 := ⟨k - 1,by omega⟩
    have hn := ih k (u + 1) (by omega) (by omega) (by omega)
    have hp := pop_le (n := 5) (by omega) (show u < 32 by omega)
    rw [spec_CorrelationImmunity.l0,if_pos (by rw [spL_length];omega),if_pos (Int.natCast_nonneg _),wrap64_succ (by omega),spL_get (by omega)]
    rw [ciN] at hn
    by_cases c1 : spc n w u = 0
    · rw [if_pos c1]
      rw [if_pos (.inr c1)] at hn
      exact hn
    · rw [if_neg c1,ones_ref (by omega) (by omega),Option.bind_some,wrap64_of (n := ((pop u : Nat) : Int) - 1) (by omega) (by omega)]
      rw [if_neg (by omega)] at hn
      exact hn
def ciI (a b : Int) : Int := if isTab a b = true then ciN a.toNat b.toNat (2 ^ a.toNat) else -1
theorem impl_ciI {a b : Int} (h0 : -9223372036854775808 ≤ b) (h1 : b ≤ 9223372036854775807) {k : Nat} (hk : 1400 < k) : impl_CorrelationImmunity.f k a b = some (ciI a b) := by
  unfold impl_CorrelationImmunity.f ciI
  rw [impl_isTable h0 h1,Option.bind_some]
  by_cases h : isTab a b = true
  · obtain ⟨n,w,rfl,rfl,ht⟩ := tab_of h
    have hM := pow_le ht.1
    rw [if_pos h,if_pos h,impl_sp ht hk,Option.bind_some,spL_length,Int.toNat_natCast,Int.toNat_natCast]
    exact impl_ci_loop ht (2 ^ n) k 0 (by omega) (by omega)
  · rw [if_neg h,if_neg h]
theorem spec_ciI (a b : Int) {k : Nat} (hk : 1500 < k) : spec_CorrelationImmunity.f k a b = some (ciI a b) := by
  unfold spec_CorrelationImmunity.f
  rw [spec_spI a b hk,Option.bind_some]
  by_cases h : isTab a b = true
  · obtain ⟨n,w,rfl,rfl,ht⟩ := tab_of h
    have hM := pow_le ht.1
    have hp := pow_pos n
    unfold ciI
    rw [if_pos h,spI_tab ht,if_neg (by rw [spL_length];omega),Int.toNat_natCast,Int.toNat_natCast]
    exact spec_ci_loop ht (2 ^ n - 1) k 1 (by omega) (by omega) (by omega)
  · unfold spI ciI
    rw [if_neg h,if_neg h]
    rfl
theorem rd_set {l : List Int} {i j : Nat} {v : Int} (hj : j < l.length) : rd (l.set j v) (i : Int) = if i = j then v else rd l (i : Int) := by
  unfold rd
  rw [Int.toNat_natCast,List.getD_eq_getElem?_getD,List.getD_eq_getElem?_getD,List.getElem?_set]
  by_cases e : j = i
  · subst e;rw [if_pos rfl,if_pos hj,if_pos rfl];rfl
  · rw [if_neg e,if_neg (fun z => e z.symm)]
theorem sum_set {l : List Int} {j : Nat} {v : Int} (hj : j < l.length) : ∀ m : Nat,sumI (fun i => rd (l.set j v) (i : Int)) m = sumI (fun i => rd l (i : Int)) m + (if j < m then v - rd l (j : Int) else 0) := by
  intro m
  induction m with
  | zero => rw [if_neg (by omega)];rfl
  | succ m ih =>
    rw [sumI,sumI,ih,rd_set hj]
    by_cases e : m = j
    · subst e;rw [if_pos rfl,if_neg (by omega),if_pos (by omega)];omega
    · rw [if_neg e]
      by_cases h : j < m
      · rw [if_pos h,if_pos (by omega)];omega
      · rw [if_neg h,if_neg (by omega)];omega
def enL (n w : Nat) : Nat → List Int
  | 0 => List.replicate (n + 1) 0
  | m + 1 => (enL n w m).set (pop m) (rd (enL n w m) ((pop m : Nat) : Int) + spc n w m * spc n w m)
theorem enL_length (n w : Nat) : ∀ m,(enL n w m).length = n + 1 := by
  intro m
  induction m with
  | zero => exact List.length_replicate
  | succ m ih => rw [enL,List.length_set,ih]
theorem rd_rep0 (m : Nat) (i : Nat) : rd (List.replicate m 0) (i : Int) = 0 := by
  unfold rd
  rw [Int.toNat_natCast,List.getD_eq_getElem?_getD,List.getElem?_replicate]
  split <;> rfl
theorem sq_small {n w u : Nat} (ht : Tab n w) (hu : u < 2 ^ n) : 0 ≤ spc n w u * spc n w u ∧ spc n w u * spc n w u ≤ 1024 := by
  obtain ⟨h1,h2⟩ := sp_small ht hu
  generalize spc n w u = s at h1 h2 ⊢
  rcases Int.le_total 0 s with q | q
  · refine ⟨Int.mul_nonneg q q,?_⟩
    have := Int.mul_le_mul h2 h2 q (by omega)
    omega
  · have e : s * s = -s * -s := by rw [Int.neg_mul_neg]
    rw [e]
    refine ⟨Int.mul_nonneg (by omega) (by omega),?_⟩
    have := Int.mul_le_mul (show -s ≤ 32 by omega) (show -s ≤ 32 by omega) (by omega) (by omega)
    omega
theorem en_bound {n w : Nat} (ht : Tab n w) : ∀ m,m ≤ 2 ^ n → ∀ i : Nat,0 ≤ rd (enL n w m) (i : Int) ∧ rd (enL n w m) (i : Int) ≤ 1024 * m := by
  intro m
  induction m with
  | zero => intro _ i;rw [enL,rd_rep0];omega
  | succ m ih =>
    intro hm i
    have h1 := ih (by omega) i
    have h2 := ih (by omega) (pop m)
    have h3 := sq_small ht (show m < 2 ^ n by omega)
    have h4 := pop_le ht.1 (show m < 2 ^ n by omega)
    rw [enL,rd_set (by rw [enL_length];omega)]
    split <;> omega
theorem en_sum {n w : Nat} (ht : Tab n w) : ∀ m,m ≤ 2 ^ n → sumI (fun i => rd (enL n w m) (i : Int)) (n + 1) = sumI (fun u => spc n w u * spc n w u) m := by
  intro m
  induction m with
  | zero =>
    intro _
    rw [enL,sumI_congr (q := fun _ => 0) fun i _ => rd_rep0 _ i,sumI_zero]
    rfl
  | succ m ih =>
    intro hm
    have h4 := pop_le ht.1 (show m < 2 ^ n by omega)
    rw [enL,sum_set (by rw [enL_length];omega),ih (by omega),if_pos (by omega),sumI]
    omega
theorem impl_en_loop {n w : Nat} (ht : Tab n w) : ∀ d k u : Nat,u + d = 2 ^ n → d < k → impl_EnergyByLevel.l0 k (enL n w u) (spL n w (2 ^ n)) ((2 ^ n : Nat) : Int) u = some (enL n w (2 ^ n)) := by
  have hM := pow_le ht.1
  intro d
  induction d with
  | zero =>
    intro k u hu hk
    obtain ⟨k,rfl⟩ : ∃ m,k = m + 1 := ⟨k - 1,by omega⟩
    obtain rfl : u = 2 ^ n := by omega
    rw [impl_EnergyByLevel.l0,if_neg (by omega)]
  | succ d ih =>
    intro k u hu hk
    obtain ⟨k,rfl⟩ : ∃ m,k = m + 1 := ⟨k - 1,by omega⟩
    have hn := ih k (u + 1) (by omega) (by omega)
    have h2 := en_bound ht u (by omega) (pop u)
    have h3 := sq_small ht (show u < 2 ^ n by omega)
    have h4 := pop_le ht.1 (show u < 2 ^ n by omega)
    rw [enL] at hn
    rw [impl_EnergyByLevel.l0,if_pos (by omega),if_pos (Int.natCast_nonneg _),if_pos (by rw [spL_length];omega),ones_small (by omega),Option.bind_some,if_pos (Int.natCast_nonneg _),if_pos (by rw [enL_length];omega),spL_get (by omega),wrap64_of (n := spc n w u * spc n w u) (by omega) (by omega),wrap64_of (by omega) (by omega),wrap64_succ (by omega),Int.toNat_natCast]
    exact hn
theorem impl_en {n w k : Nat} (ht : Tab n w) (hk : 1400 < k) : impl_EnergyByLevel.f k n w = some (enL n w (2 ^ n)) := by
  have hM := pow_le ht.1
  have hn := ht.1
  have hw := ht.lt63
  unfold impl_EnergyByLevel.f
  rw [impl_isTable (by omega) (by omega),Option.bind_some,if_pos (isTab_of ht),wrap64_succ (by omega),if_pos (Int.natCast_nonneg _),if_pos (by rw [Int.toNat_natCast];omega),impl_sp ht hk,Option.bind_some,spL_length,Int.toNat_natCast]
  exact impl_en_loop ht (2 ^ n) k 0 (by omega) (by omega)
theorem total_loop {l : List Int} {c : Nat} (hl : l.length ≤ 1000) (hc : c ≤ 1000000) (hb : ∀ i : Nat,-(c : Int) ≤ rd l (i : Int) ∧ rd l (i : Int) ≤ c) : ∀ d k i : Nat,i + d = l.length → d < k → laws_total.l0 k l (sumI (fun i => rd l (i : Int)) i) i = some (sumI (fun i => rd l (i : Int)) l.length) := by
  intro d
  induction d with
  | zero =>
    intro k i hi hk
    obtain ⟨k,rfl⟩ : ∃ m,k = m + 1 := ⟨k - 1,by omega⟩
    obtain rfl : i = l.length := by omega
    rw [laws_total.l0,if_neg (by omega)]
  | succ d ih =>
    intro k i hi hk
    obtain ⟨k,rfl⟩ : ∃ m,k = m + 1 := ⟨k - 1,by omega⟩
    have h1 := sumI_bound (q := fun i => rd l (i : Int)) (c := c) (m := i) fun j _ => hb j
    have h2 : c * i ≤ 1000000 * 1000 := Nat.mul_le_mul hc (by omega)
    have h3 := hb i
    rw [laws_total.l0,if_pos (by omega),if_pos (Int.natCast_nonneg _),wrap64_succ (by omega),wrap64_of (by omega) (by omega)]
    exact ih k (i + 1) (by omega) (by omega)
theorem total_en {n w k : Nat} (ht : Tab n w) (hk : 10 < k) : laws_total.f k (enL n w (2 ^ n)) = some (((2 ^ n : Nat) : Int) * ((2 ^ n : Nat) : Int)) := by
  have hM := pow_le ht.1
  have hn := ht.1
  have hl := enL_length n w (2 ^ n)
  unfold laws_total.f
  have h := total_loop (l := enL n w (2 ^ n)) (c := 40000) (by omega) (by decide) (fun i => by have := en_bound ht (2 ^ n) (Nat.le_refl _) i;omega) (n + 1) k 0 (by omega) (by omega)
  rw [hl,en_sum ht (2 ^ n) (Nat.le_refl _),spc_squares ht.1] at h
  exact h
theorem parity_some {k v : Nat} (hv : v < 32) (hk : 10 ≤ k) : laws_parity.f k v = some ((pop v % 2 : Nat) : Int) := by
  have hh : ∀ v : Fin 32,laws_parity.f 10 ((v.val : Nat) : Int) = some ((pop v.val % 2 : Nat) : Int) := by decide +kernel
  exact at_rounds (g := fun K => laws_parity.f K v) (fun K => laws_parity.mono _ K) hk (hh ⟨v,hv⟩)
theorem sumI_range {q : Nat → Int} {c : Nat} {M : Nat} (h : ∀ i,i < M → -(c : Int) ≤ q i ∧ q i ≤ c) {m : Nat} (hm : m ≤ M) (hM : M ≤ 32) : -((c * 32 : Nat) : Int) ≤ sumI q m ∧ sumI q m ≤ ((c * 32 : Nat) : Int) := by
  have h1 := sumI_bound (m := m) fun i hi => h i (by omega)
  have h2 : c * m ≤ c * 32 := Nat.mul_le_mul (Nat.le_refl _) (by omega)
  omega
theorem cube_small {n w u : Nat} (ht : Tab n w) (hu : u < 2 ^ n) : -32768 ≤ spc n w u * spc n w u * spc n w u ∧ spc n w u * spc n w u * spc n w u ≤ 32768 := by
  obtain ⟨h1,h2⟩ := sp_small ht hu
  obtain ⟨h3,h4⟩ := sq_small ht hu
  generalize spc n w u * spc n w u = q at h3 h4 ⊢
  generalize spc n w u = s at h1 h2 ⊢
  rcases Int.le_total 0 s with z | z
  · have h5 := Int.mul_le_mul h4 h2 z (by omega)
    have h6 := Int.mul_nonneg h3 z
    omega
  · have h5 := Int.mul_le_mul h4 (show -s ≤ 32 by omega) (by omega) (by omega)
    have h6 := Int.mul_nonneg h3 (show 0 ≤ -s by omega)
    rw [Int.mul_neg] at h5 h6
    omega
def sqAt (n w u : Nat) : Bool := decide (spc n w u * spc n w u = spc n w 0 * spc n w 0)
def bentI (a b : Int) : Bool := isTab a b && (decide (a = 2 ∨ a = 4) && allN (sqAt a.toNat b.toNat) (2 ^ a.toNat))
theorem square_iff (a b : Int) : a * a = b * b ↔ a = b ∨ a = -b := by
  constructor
  · intro h
    have h1 : (a - b) * (a + b) = 0 := by
      rw [Int.sub_mul,Int.mul_add,Int.mul_add,h,Int.mul_comm b a]
      omega
    rcases Int.mul_eq_zero.mp h1 with e | e
    · left;omega
    · right;omega
  · rintro (rfl | rfl)
    · rfl
    · rw [Int.neg_mul_neg]
theorem sz_is {v : Int} (h0 : -100 ≤ v) (h1 : v ≤ 100) : impl_IsBent.sz v = if v < 0 then -v else v := by
  have h := size1_some h0 h1
  unfold impl_size1.f at h
  exact Option.some.inj h
theorem bad_is {n w u : Nat} (ht : Tab n w) (hu : u < 2 ^ n) : impl_IsBent.bad (spL n w (2 ^ n)) (rd (spL n w (2 ^ n)) (u : Int)) = !sqAt n w u := by
  have h1 := sp_small ht hu
  have h2 := sp_small ht (pow_pos n)
  have hs := square_iff (spc n w u) (spc n w 0)
  have e0 : rd (spL n w (2 ^ n)) 0 = spc n w 0 := spL_get (u := 0) (pow_pos n)
  unfold impl_IsBent.bad sqAt
  rw [spL_get hu,e0,sz_is (by omega) (by omega),sz_is (by omega) (by omega)]
  by_cases h : spc n w u * spc n w u = spc n w 0 * spc n w 0
  · rw [decide_eq_true h]
    refine bne_eq_false_iff_eq.mpr ?_
    rcases hs.mp h with e | e <;> rw [e] <;> split <;> split <;> omega
  · rw [decide_eq_false h]
    refine bne_iff_ne.mpr fun e => h (hs.mpr ?_)
    split at e <;> split at e <;> omega
theorem exN_not {p : Nat → Bool} : ∀ m,(!exN (fun i => !p i) m) = allN p m := by
  intro m
  induction m with
  | zero => rfl
  | succ m ih => rw [exN,allN,← ih];cases exN (fun i => !p i) m <;> cases p m <;> rfl
theorem impl_bent {a b : Int} (h0 : -9223372036854775808 ≤ b) (h1 : b ≤ 9223372036854775807) {k : Nat} (hk : 1400 < k) : impl_IsBent.f k a b = some (bentI a b) := by
  unfold impl_IsBent.f bentI
  rw [impl_isTable h0 h1,Option.bind_some]
  by_cases h : isTab a b = true
  · obtain ⟨n,w,rfl,rfl,ht⟩ := tab_of h
    have hM := pow_le ht.1
    have hp := pow_pos n
    rw [if_pos h,h,Bool.true_and,Int.toNat_natCast,Int.toNat_natCast]
    by_cases c : (n : Int) = 2 ∨ (n : Int) = 4
    · rw [if_pos c,impl_sp ht hk,Option.bind_some,if_pos (by rw [spL_length];omega),decide_eq_true c,Bool.true_and,spL_length]
      congr 1
      rw [exN_congr (q := fun u => !sqAt n w u) fun u hu => bad_is ht hu]
      exact exN_not _
    · rw [if_neg c,decide_eq_false c,Bool.false_and]
  · rw [if_neg h,Bool.eq_false_iff.mpr h,Bool.false_and]
theorem spec_bent_yes {n w : Nat} (ht : Tab n w) (h : ∀ u,u < 2 ^ n → sqAt n w u = true) : ∀ d k u : Nat,u + d = 2 ^ n → d < k → spec_IsBent.l0 k (spL n w (2 ^ n)) u n w = some (decide ((n : Int) = 2 ∨ (n : Int) = 4)) := by
  have hM := pow_le ht.1
  intro d
  induction d with
  | zero =>
    intro k u hu hk
    obtain ⟨k,rfl⟩ : ∃ m,k = m + 1 := ⟨k - 1,by omega⟩
    obtain rfl : u = 2 ^ n := by omega
    rw [spec_IsBent.l0,spL_length,if_neg (by omega),spec_isTable,Option.bind_some,if_pos (isTab_of ht)]
    by_cases c : (n : Int) = 2
    · rw [if_pos c,decide_eq_true (.inl c)]
    · rw [if_neg c]
      congr 1
      rw [Bool.eq_iff_iff,beq_iff_eq,decide_eq_true_eq]
      omega
  | succ d ih =>
    intro k u hu hk
    obtain ⟨k,rfl⟩ : ∃ m,k = m + 1 := ⟨k - 1,by omega⟩
    have h3 := sq_small ht (show u < 2 ^ n by omega)
    have h4 := sq_small ht (pow_pos n)
    have hu' : sqAt n w u = true := h u (by omega)
    have e0 : rd (spL n w (2 ^ n)) 0 = spc n w 0 := spL_get (u := 0) (pow_pos n)
    rw [spec_IsBent.l0,if_pos (by rw [spL_length];omega),if_pos (Int.natCast_nonneg _),if_pos (by rw [spL_length];omega),spL_get (by omega),e0,wrap64_of (n := spc n w u * spc n w u) (by omega) (by omega),wrap64_of (n := spc n w 0 * spc n w 0) (by omega) (by omega),if_pos (of_decide_eq_true hu'),wrap64_succ (by omega)]
    exact ih k (u + 1) (by omega) (by omega)
theorem spec_bent_no {n w : Nat} (ht : Tab n w) : ∀ d k u : Nat,u + d = 2 ^ n → d < k → (∃ v,u ≤ v ∧ v < 2 ^ n ∧ sqAt n w v = false) → spec_IsBent.l0 k (spL n w (2 ^ n)) u n w = some false := by
  have hM := pow_le ht.1
  intro d
  induction d with
  | zero => rintro k u hu hk ⟨v,h1,h2,_⟩;omega
  | succ d ih =>
    rintro k u hu hk ⟨v,h1,h2,h5⟩
    obtain ⟨k,rfl⟩ : ∃ m,k = m + 1 := ⟨k - 1,by omega⟩
    have h3 := sq_small ht (show u < 2 ^ n by omega)
    have h4 := sq_small ht (pow_pos n)
    have e0 : rd (spL n w (2 ^ n)) 0 = spc n w 0 := spL_get (u := 0) (pow_pos n)
    rw [spec_IsBent.l0,if_pos (by rw [spL_length];omega),if_pos (Int.natCast_nonneg _),if_pos (by rw [spL_length];omega),spL_get (by omega),e0,wrap64_of (n := spc n w u * spc n w u) (by omega) (by omega),wrap64_of (n := spc n w 0 * spc n w 0) (by omega) (by omega)]
    by_cases c : spc n w u * spc n w u = spc n w 0 * spc n w 0
    · rw [if_pos c,wrap64_succ (by omega)]
      refine ih k (u + 1) (by omega) (by omega) ⟨v,?_,h2,h5⟩
      by_cases e : v = u
      · subst e
        have := of_decide_eq_false h5
        exact absurd c this
      · omega
    · rw [if_neg c]
theorem spec_bent (a b : Int) {k : Nat} (hk : 1500 < k) : spec_IsBent.f k a b = some (bentI a b) := by
  unfold spec_IsBent.f
  rw [spec_spI a b hk,Option.bind_some]
  by_cases h : isTab a b = true
  · obtain ⟨n,w,rfl,rfl,ht⟩ := tab_of h
    have hM := pow_le ht.1
    have hp := pow_pos n
    have hz : sqAt n w 0 = true := decide_eq_true rfl
    unfold bentI
    rw [spI_tab ht,h,Bool.true_and,Int.toNat_natCast,Int.toNat_natCast]
    by_cases c : allN (sqAt n w) (2 ^ n) = true
    · rw [c,Bool.and_true]
      exact spec_bent_yes ht (allN_iff.mp c) (2 ^ n - 1) k 1 (by omega) (by omega)
    · rw [Bool.eq_false_iff.mpr c,Bool.and_false]
      refine spec_bent_no ht (2 ^ n - 1) k 1 (by omega) (by omega) ?_
      refine Classical.byContradiction fun hq => c (allN_iff.mpr fun u hu => ?_)
      by_cases e : u = 0
      · subst e;exact hz
      · cases hs : sqAt n w u with
        | true => rfl
        | false => exact absurd ⟨u,by omega,hu,hs⟩ hq
  · obtain ⟨k,rfl⟩ : ∃ m,k = m + 1 := ⟨k - 1,by omega⟩
    unfold spI bentI
    rw [if_neg h,Bool.eq_false_iff.mpr h,Bool.false_and,spec_IsBent.l0,if_neg (by rw [List.length_nil];omega),spec_isTable,Option.bind_some,if_neg h]
theorem bent_tab {a b : Int} (h : bentI a b = true) : ∃ n w : Nat,a = n ∧ b = w ∧ Tab n w ∧ (n = 2 ∨ n = 4) ∧ ∀ u,u < 2 ^ n → spc n w u * spc n w u = spc n w 0 * spc n w 0 := by
  unfold bentI at h
  rw [Bool.and_eq_true,Bool.and_eq_true] at h
  obtain ⟨h1,h2,h3⟩ := h
  obtain ⟨n,w,rfl,rfl,ht⟩ := tab_of h1
  rw [Int.toNat_natCast,Int.toNat_natCast,allN_iff] at h3
  have h2 := of_decide_eq_true h2
  exact ⟨n,w,rfl,rfl,ht,by omega,fun u hu => of_decide_eq_true (h3 u hu)⟩
def dualI (a b : Int) : Int × Int × Bool := if bentI a b = true then (a,((bentD a.toNat b.toNat : Nat) : Int),true) else (0,0,false)
theorem impl_bdual {a b : Int} (h0 : -9223372036854775808 ≤ b) (h1 : b ≤ 9223372036854775807) {k : Nat} (hk : 1400 < k) : impl_DualOfBent.f k a b = some (dualI a b) := by
  unfold impl_DualOfBent.f dualI
  rw [impl_bent h0 h1 hk,Option.bind_some]
  by_cases h : bentI a b = true
  · obtain ⟨n,w,rfl,rfl,ht,_,_⟩ := bent_tab h
    rw [if_pos h,if_pos h,impl_sp ht hk,Option.bind_some,Int.toNat_natCast,Int.toNat_natCast,if_pos ⟨by omega,by have := ht.1;omega,spL_length _ _ _⟩]
    congr 3
    unfold bentD
    congr 1
    exact tabN_congr fun u hu => by unfold impl_DualOfBent.neg;rw [spL_get hu]
  · rw [if_neg h,if_neg h]
theorem spec_dual_loop {n w : Nat} (ht : Tab n w) : ∀ d k u : Nat,u + d = 2 ^ n → d < k → spec_DualOfBent.l0 k (spL n w (2 ^ n)) ((tabN (fun u => decide (spc n w u < 0)) u : Nat) : Int) u n w = some ((n : Int),((bentD n w : Nat) : Int),true) := by
  have hM := pow_le ht.1
  intro d
  induction d with
  | zero =>
    intro k u hu hk
    obtain ⟨k,rfl⟩ : ∃ m,k = m + 1 := ⟨k - 1,by omega⟩
    obtain rfl : u = 2 ^ n := by omega
    rw [spec_DualOfBent.l0,spL_length,if_neg (by omega)]
    rfl
  | succ d ih =>
    intro k u hu hk
    obtain ⟨k,rfl⟩ : ∃ m,k = m + 1 := ⟨k - 1,by omega⟩
    have hn := ih k (u + 1) (by omega) (by omega)
    rw [spec_DualOfBent.l0,if_pos (by rw [spL_length];omega),if_pos (Int.natCast_nonneg _),spL_get (by omega),wrap64_succ (by omega)]
    by_cases c : spc n w u < 0
    · rw [if_pos c,or_shl (by omega) (decide_eq_true c)]
      exact hn
    · have hp : (fun u => decide (spc n w u < 0)) u = false := decide_eq_false c
      rw [tabN_false hp] at hn
      rw [if_neg c]
      exact hn
theorem spec_bdual (a b : Int) {k : Nat} (hk : 1500 < k) : spec_DualOfBent.f k a b = some (dualI a b) := by
  unfold spec_DualOfBent.f dualI
  rw [spec_bent a b hk,Option.bind_some]
  by_cases h : bentI a b = true
  · obtain ⟨n,w,rfl,rfl,ht,_,_⟩ := bent_tab h
    have hM := pow_le ht.1
    rw [if_pos h,if_pos h,spec_spI _ _ hk,Option.bind_some,spI_tab ht,Int.toNat_natCast,Int.toNat_natCast]
    exact spec_dual_loop ht (2 ^ n) k 0 (by omega) (by omega)
  · rw [if_neg h,if_neg h]
theorem bent_root {n w : Nat} (ht : Tab n w) (hn : n = 2 ∨ n = 4) (h : ∀ u,u < 2 ^ n → spc n w u * spc n w u = spc n w 0 * spc n w 0) : ∃ r : Int,BentR n w r ∧ (n = 2 ∧ r = 2 ∨ n = 4 ∧ r = 4) := by
  have h2 := sp_small ht (pow_pos n)
  have hb := bent_of ht.1 h
  have key : ∀ r : Int,r = spc n w 0 ∨ r = -spc n w 0 → 0 < r → BentR n w r := by
    intro r hr h0
    have hrr : r * r = spc n w 0 * spc n w 0 := (square_iff _ _).mpr hr
    refine ⟨h0,by rw [hrr,hb],fun u hu => ?_⟩
    have := h u hu
    rw [← hrr] at this
    exact (square_iff _ _).mp this
  have hr : ∀ r : Int,0 < r → r ≤ 32 → r * r = ((2 ^ n : Nat) : Int) → (n = 2 ∧ r = 2 ∨ n = 4 ∧ r = 4) := by
    intro r h0 h1 h3
    rcases hn with rfl | rfl
    · left
      have h4 : ∀ r : Fin 33,((r.val : Nat) : Int) * ((r.val : Nat) : Int) = 4 → r.val = 2 := by decide
      obtain ⟨s,rfl⟩ := Int.eq_ofNat_of_zero_le (show 0 ≤ r by omega)
      have := h4 ⟨s,by omega⟩ h3
      exact ⟨rfl,by have : s = 2 := this;omega⟩
    · right
      have h4 : ∀ r : Fin 33,((r.val : Nat) : Int) * ((r.val : Nat) : Int) = 16 → r.val = 4 := by decide
      obtain ⟨s,rfl⟩ := Int.eq_ofNat_of_zero_le (show 0 ≤ r by omega)
      have := h4 ⟨s,by omega⟩ h3
      exact ⟨rfl,by have : s = 4 := this;omega⟩
  rcases Int.lt_trichotomy (spc n w 0) 0 with q | q | q
  · have hR := key (-spc n w 0) (.inr rfl) (by omega)
    exact ⟨_,hR,hr _ (by omega) (by omega) hR.2.1⟩
  · rw [q] at hb
    have := pow_pos n
    have : (0 : Int) * 0 = ((2 ^ n : Nat) : Int) := hb
    omega
  · have hR := key (spc n w 0) (.inl rfl) q
    exact ⟨_,hR,hr _ q (by omega) hR.2.1⟩
theorem bent_peak {n w : Nat} {r : Int} (h : BentR n w r) : peakN n w (2 ^ n) = r := by
  obtain ⟨h0,_,h2⟩ := h
  obtain ⟨p0,p1,p2⟩ := peakN_is n w (2 ^ n)
  obtain ⟨v,hv,e⟩ := p2 (pow_pos n)
  have h3 := p1 v hv
  have h4 := h2 v hv
  omega
theorem bentI_of {n w : Nat} {r : Int} (ht : Tab n w) (hn : n = 2 ∨ n = 4) (h : BentR n w r) : bentI n w = true := by
  unfold bentI
  rw [isTab_of ht,Bool.true_and,decide_eq_true (by omega),Bool.true_and,Int.toNat_natCast,Int.toNat_natCast,allN_iff]
  intro u hu
  refine decide_eq_true ?_
  have h1 := (square_iff (spc n w u) r).mpr (h.2.2 u hu)
  have h2 := (square_iff (spc n w 0) r).mpr (h.2.2 0 (pow_pos n))
  rw [h1,h2]
theorem dual_back {a b : Int} (h : bentI a b = true) : ∃ n w : Nat,a = n ∧ b = w ∧ Tab n w ∧ dualI a b = ((n : Int),((bentD n w : Nat) : Int),true) ∧ Tab n (bentD n w) ∧ bentI n (bentD n w) = true ∧ dualI n (bentD n w) = (a,b,true) ∧ (a = 2 ∧ nlI a b = 1 ∨ a = 4 ∧ nlI a b = 6) := by
  obtain ⟨n,w,rfl,rfl,ht,hn,hs⟩ := bent_tab h
  obtain ⟨r,hR,hr⟩ := bent_root ht hn hs
  have td : Tab n (bentD n w) := ⟨ht.1,bentD_lt _ _⟩
  have hD := bent_dual_is ht.1 hR
  have hb2 := bentI_of td hn hD
  refine ⟨n,w,rfl,rfl,ht,?_,td,hb2,?_,?_⟩
  · unfold dualI;rw [if_pos h];rfl
  · unfold dualI
    rw [if_pos hb2,Int.toNat_natCast,Int.toNat_natCast,bent_back ht hR]
  · unfold nlI
    rw [if_pos (isTab_of ht),Int.toNat_natCast,Int.toNat_natCast,bent_peak hR]
    rcases hr with ⟨rfl,rfl⟩ | ⟨rfl,rfl⟩
    · left;exact ⟨rfl,rfl⟩
    · right;exact ⟨rfl,rfl⟩
def varW (n i : Nat) : Nat := tabN (fun x => x.testBit i) (2 ^ n)
theorem varW_lt (n i : Nat) : varW n i < 2 ^ 2 ^ n := tabN_lt _ _
theorem var_loop {n i : Nat} (hn : n ≤ 5) (hi : i < 5) : ∀ d k x,x + d = 2 ^ n → d < k →
    spec_l2Variable.l0 k n i ((tabN (fun x => x.testBit i) x : Nat) : Int) x = some ((varW n i : Nat) : Int) := by
  have hM := pow_le hn
  intro d
  induction d with
  | zero =>
    intro k x hx hk
    obtain ⟨k,rfl⟩ : ∃ m,k = m + 1 := ⟨k - 1,by omega⟩
    obtain rfl : x = 2 ^ n := by omega
    simp only [spec_l2Variable.l0]
    rw [if_pos (by omega),shl1_of (by omega),if_neg (by omega)]
    rfl
  | succ d ih =>
    intro k x hx hk
    obtain ⟨k,rfl⟩ : ∃ m,k = m + 1 := ⟨k - 1,by omega⟩
    have hlt : x < 2 ^ n := by omega
    have hl := tabN_lt63 (fun x => x.testBit i) (m := x) (by omega)
    have hp := pow_lt (n := x) (m := 32) (by omega)
    have e := ih k (x + 1) (by omega) (by omega)
    simp only [spec_l2Variable.l0]
    rw [if_pos (by omega),shl1_of (by omega),if_pos (by exact_mod_cast hlt),if_pos (by omega),bit_cast (by omega) (by omega),wrap64_succ (by omega)]
    cases hb : x.testBit i with
    | true =>
      rw [tabN_true (p := fun x => x.testBit i) hb] at e
      rw [if_pos (bit_eq_one.mpr hb),if_pos (by omega),shl1_of (by omega),or_cast hl (by omega)]
      exact e
    | false =>
      rw [tabN_false (p := fun x => x.testBit i) hb] at e
      rw [if_neg (by rw [bit_eq_one,hb];decide)]
      exact e
theorem spec_var {n i k : Nat} (hn : n ≤ 5) (hi : i < 5) (hk : 32 < k) : spec_l2Variable.f k n i = some ((varW n i : Nat) : Int) := by
  have := pow_le hn
  exact var_loop hn hi (2 ^ n) k 0 (by omega) (by omega)
theorem and255 (a : Int) : ∃ x : Nat,x < 256 ∧ Go.bits .and .i64 a 255 = (x : Int) := by
  have hlt : (BitVec.ofInt 64 a).toNat &&& 255 < 256 := Nat.lt_of_le_of_lt Nat.and_le_right (by decide)
  refine ⟨(BitVec.ofInt 64 a).toNat &&& 255,hlt,?_⟩
  have e : (BitVec.ofInt 64 a &&& BitVec.ofInt 64 255).toNat = (BitVec.ofInt 64 a).toNat &&& 255 := by rw [BitVec.toNat_and];rfl
  simp only [Go.bits,IntKind.bits]
  exact (congrArg (fun m : Nat => IntKind.i64.wrap (m : Int)) e).trans (wrap_of (by omega) (by omega))
theorem byte_some {b : List Int} {i : Int} (h : Int) (hb : b.length ≤ 9223372036854775807) (hi : 0 ≤ i) : ∃ (x : Nat) (i' h' : Int),spec_l1Byte.f b i h = some ((x : Int),i',h') ∧ x < 256 ∧ 0 ≤ i' := by
  unfold spec_l1Byte.f
  by_cases hl : i < (b.length : Int)
  · rw [if_pos hl,if_pos hi]
    obtain ⟨x,hx,e⟩ := and255 (wrap64 ((Go.bits .and .i64 (Go.bits .xor .i64 ((wrap64 ((wrap64 (h * 6364136223846793005)) + 1442695040888963407)) / 8589934592) ((wrap64 ((wrap64 (h * 6364136223846793005)) + 1442695040888963407)) / 35184372088832)) 255) + (wrap64 (rd b i))))
    rw [e]
    exact ⟨x,_,_,rfl,hx,by rw [wrap64_of (by omega) (by omega)];omega⟩
  · rw [if_neg hl]
    obtain ⟨x,hx,e⟩ := and255 (Go.bits .xor .i64 ((wrap64 ((wrap64 (h * 6364136223846793005)) + 1442695040888963407)) / 8589934592) ((wrap64 ((wrap64 (h * 6364136223846793005)) + 1442695040888963407)) / 35184372088832))
    rw [e]
    exact ⟨x,_,_,rfl,hx,hi⟩
theorem four_bytes {x y z v : Nat} (hx : x < 256) (hy : y < 256) (hz : z < 256) (hv : v < 256) : 0 ≤ wrap64 ((wrap64 ((wrap64 ((wrap64 ((x : Int) * 16777216)) + (wrap64 ((y : Int) * 65536)))) + (wrap64 ((z : Int) * 256)))) + (v : Int)) := by
  obtain ⟨p,hp⟩ : ∃ p : Int,p = (x : Int) * 16777216 := ⟨_,rfl⟩
  obtain ⟨q,hq⟩ : ∃ q : Int,q = (y : Int) * 65536 := ⟨_,rfl⟩
  obtain ⟨r,hr⟩ : ∃ r : Int,r = (z : Int) * 256 := ⟨_,rfl⟩
  have p1 : 0 ≤ p ∧ p ≤ 4278190080 := by omega
  have q1 : 0 ≤ q ∧ q ≤ 16711680 := by omega
  have r1 : 0 ≤ r ∧ r ≤ 65280 := by omega
  rw [← hp,← hq,← hr,wrap64_of (n := p) (by omega) (by omega),wrap64_of (n := q) (by omega) (by omega),wrap64_of (n := r) (by omega) (by omega),wrap64_of (n := p + q) (by omega) (by omega),wrap64_of (n := p + q + r) (by omega) (by omega),wrap64_of (n := p + q + r + (v : Int)) (by omega) (by omega)]
  omega
theorem below_some {b : List Int} {i : Int} (h n : Int) (hb : b.length ≤ 9223372036854775807) (hi : 0 ≤ i) : ∃ (x i' h' : Int),spec_l1Below.f b i h n = some (x,i',h') ∧ 0 ≤ i' ∧ 0 ≤ x ∧ (0 < n → x < n) ∧ (n ≤ 0 → x = 0) := by
  unfold spec_l1Below.f
  by_cases h0 : n ≤ 0
  · rw [if_pos h0];exact ⟨0,i,h,rfl,hi,by omega,fun q => by omega,fun _ => rfl⟩
  · rw [if_neg h0]
    have hp : 0 < n := by omega
    by_cases h1 : n ≤ 256
    · obtain ⟨x,i1,h1',e,hx,hi1⟩ := byte_some h hb hi
      rw [if_pos h1,e,Option.bind_some,if_neg (by omega)]
      exact ⟨_,_,_,rfl,hi1,Int.tmod_nonneg n (Int.natCast_nonneg x),fun _ => Int.tmod_lt_of_pos _ hp,fun q => absurd q h0⟩
    · obtain ⟨x,i1,h1',e1,hx,hi1⟩ := byte_some h hb hi
      obtain ⟨y,i2,h2',e2,hy,hi2⟩ := byte_some h1' hb hi1
      obtain ⟨z,i3,h3',e3,hz,hi3⟩ := byte_some h2' hb hi2
      obtain ⟨v,i4,h4',e4,hv,hi4⟩ := byte_some h3' hb hi3
      rw [if_neg h1,e1,Option.bind_some,e2,Option.bind_some,e3,Option.bind_some,e4,Option.bind_some,if_neg (by omega)]
      exact ⟨_,_,_,rfl,hi4,Int.tmod_nonneg n (four_bytes hx hy hz hv),fun _ => Int.tmod_lt_of_pos _ hp,fun q => absurd q h0⟩
theorem once_some {b : List Int} {i : Int} (h n : Int) (hb : b.length ≤ 9223372036854775807) (hi : 0 ≤ i) : ∃ (x : Bool) (i' h' : Int),spec_l1Once.f b i h n = some (x,i',h') ∧ 0 ≤ i' := by
  obtain ⟨x,i1,h1,e,hi1,_⟩ := below_some h n hb hi
  unfold spec_l1Once.f
  rw [e,Option.bind_some]
  exact ⟨_,_,_,rfl,hi1⟩
theorem pick_some {b l : List Int} {i : Int} (h : Int) (hb : b.length ≤ 9223372036854775807) (hi : 0 ≤ i) (hl : 0 < l.length) : ∃ (x i' h' : Int),spec_l1PickInt.f b i h l = some (x,i',h') ∧ 0 ≤ i' ∧ x ∈ l := by
  obtain ⟨x,i1,h1,e,hi1,hx,hxl,_⟩ := below_some h (l.length : Int) hb hi
  have hlt := hxl (by omega)
  unfold spec_l1PickInt.f
  rw [e,Option.bind_some,if_pos hx,if_pos hlt]
  refine ⟨_,_,_,rfl,hi1,?_⟩
  obtain ⟨m,rfl⟩ := Int.eq_ofNat_of_zero_le hx
  show rd l (m : Int) ∈ l
  unfold rd
  have hm : m < l.length := by omega
  rw [Int.toNat_natCast,List.getD_eq_getElem?_getD,List.getElem?_eq_getElem hm]
  exact List.getElem_mem hm
theorem new_loop {b : List Int} (hb : b.length ≤ 9223372036854775807) : ∀ (d k : Nat) (h : Int) (x : Nat),x + d = 4000 → d < k → ∃ h' : Int,spec_l1New.l0 k b h x = some (b,0,h') := by
  intro d
  induction d with
  | zero =>
    intro k h x hx hk
    obtain ⟨k,rfl⟩ : ∃ m,k = m + 1 := ⟨k - 1,by omega⟩
    rw [spec_l1New.l0]
    by_cases hl : (x : Int) < (b.length : Int)
    · rw [if_pos hl,if_neg (by omega)];exact ⟨h,rfl⟩
    · rw [if_neg hl];exact ⟨h,rfl⟩
  | succ d ih =>
    intro k h x hx hk
    obtain ⟨k,rfl⟩ : ∃ m,k = m + 1 := ⟨k - 1,by omega⟩
    rw [spec_l1New.l0]
    by_cases hl : (x : Int) < (b.length : Int)
    · rw [if_pos hl,if_pos (by omega),if_pos (Int.natCast_nonneg _),wrap64_succ (by omega)]
      exact ih k _ (x + 1) (by omega) (by omega)
    · rw [if_neg hl];exact ⟨h,rfl⟩
theorem new_some {b : List Int} (hb : b.length ≤ 9223372036854775807) {k : Nat} (hk : 4000 < k) : ∃ h' : Int,spec_l1New.f k b = some (b,0,h') := new_loop hb 4000 k _ 0 (by omega) (by omega)
def TabR (n : Nat) (o : Option (Int × Int × Int × Int)) : Prop := ∃ (w i h : Int),o = some ((n : Int),w,i,h) ∧ 0 ≤ i ∧ 0 ≤ w ∧ w ≤ 4294967295 ∧ w ≤ ((2 ^ 2 ^ n - 1 : Nat) : Int)
theorem end_some {n : Nat} {w i h : Int} (hn : n ≤ 5) (hi : 0 ≤ i) (x : Nat) (hw : w = (x : Int)) (hx : x < 4294967296) : TabR n (if (n : Int) = 0 then ((spec_l2Full.f n).bind fun t => (some ((n : Int),Go.bits .and .i64 (Go.bits .and .i64 w 1) t,i,h))) else ((spec_l2Full.f n).bind fun t => (some ((n : Int),Go.bits .and .i64 w t,i,h)))) := by
  subst hw
  have hF := full_le hn
  have e1 : Go.bits .and .i64 ((x : Nat) : Int) 1 = ((x &&& 1 : Nat) : Int) := and_cast (b := 1) (by omega) (by decide)
  have l1 : x &&& 1 ≤ x := Nat.and_le_left
  split
  · rw [full_some hn,Option.bind_some,e1,and_cast (by omega) (by omega)]
    have l2 : (x &&& 1) &&& (2 ^ 2 ^ n - 1) ≤ x &&& 1 := Nat.and_le_left
    have l3 : (x &&& 1) &&& (2 ^ 2 ^ n - 1) ≤ 2 ^ 2 ^ n - 1 := Nat.and_le_right
    exact ⟨_,i,h,rfl,hi,Int.natCast_nonneg _,by omega,by omega⟩
  · rw [full_some hn,Option.bind_some,and_cast (by omega) (by omega)]
    have l2 : x &&& (2 ^ 2 ^ n - 1) ≤ x := Nat.and_le_left
    have l3 : x &&& (2 ^ 2 ^ n - 1) ≤ 2 ^ 2 ^ n - 1 := Nat.and_le_right
    exact ⟨_,i,h,rfl,hi,Int.natCast_nonneg _,by omega,by omega⟩
theorem or_lt32 {a b : Nat} (ha : a < 4294967296) (hb : b < 4294967296) : a ||| b < 4294967296 := Nat.or_lt_two_pow (n := 32) ha hb
theorem bit_lt32 {x : Nat} (hx : x < 32) : 2 ^ x < 4294967296 := Nat.lt_of_lt_of_le (Nat.pow_lt_pow_right (by decide) hx) (by decide)
theorem draw_l0 {n : Nat} {b : List Int} (hn : n ≤ 5) : ∀ (d k w x : Nat) (i h : Int),x + d = 2 ^ n → w < 4294967296 → 0 ≤ i → d + 40 < k → TabR n (spec_l2Draw.l0 k n w x b i h) := by
  have hp := pow_le hn
  intro d
  induction d with
  | zero =>
    intro k w x i h hx hw hi hk
    obtain ⟨k,rfl⟩ : ∃ m,k = m + 1 := ⟨k - 1,by omega⟩
    rw [spec_l2Draw.l0,if_pos (Int.natCast_nonneg _),shl1_of (by omega),if_neg (by omega)]
    exact end_some hn hi w rfl hw
  | succ d ih =>
    intro k w x i h hx hw hi hk
    obtain ⟨k,rfl⟩ : ∃ m,k = m + 1 := ⟨k - 1,by omega⟩
    have hx32 : x < 32 := by omega
    have hb := bit_lt32 hx32
    rw [spec_l2Draw.l0,if_pos (Int.natCast_nonneg _),shl1_of (by omega),if_pos (by omega),cnt_ref (by omega) (by omega),Option.bind_some,wrap64_succ (by omega)]
    split
    · rw [if_pos (Int.natCast_nonneg _),shl1_of (by omega),or_cast (by omega) (by omega)]
      exact ih k (w ||| 2 ^ x) (x + 1) i h (by omega) (or_lt32 hw hb) hi (by omega)
    · exact ih k w (x + 1) i h (by omega) hw hi (by omega)
theorem draw_l1 {n : Nat} {b : List Int} (hn : n ≤ 5) : ∀ (d k w x : Nat) (i h : Int),x + d = 2 ^ n → w < 4294967296 → 0 ≤ i → d + 40 < k → TabR n (spec_l2Draw.l1 k n w x b i h) := by
  have hp := pow_le hn
  intro d
  induction d with
  | zero =>
    intro k w x i h hx hw hi hk
    obtain ⟨k,rfl⟩ : ∃ m,k = m + 1 := ⟨k - 1,by omega⟩
    rw [spec_l2Draw.l1,if_pos (Int.natCast_nonneg _),shl1_of (by omega),if_neg (by omega)]
    exact end_some hn hi w rfl hw
  | succ d ih =>
    intro k w x i h hx hw hi hk
    obtain ⟨k,rfl⟩ : ∃ m,k = m + 1 := ⟨k - 1,by omega⟩
    have hx32 : x < 32 := by omega
    have hb := bit_lt32 hx32
    rw [spec_l2Draw.l1,if_pos (Int.natCast_nonneg _),shl1_of (by omega),if_pos (by omega),cnt_ref (by omega) (by omega),Option.bind_some,wrap64_succ (by omega)]
    split
    · rw [if_pos (Int.natCast_nonneg _),shl1_of (by omega),or_cast (by omega) (by omega)]
      exact ih k (w ||| 2 ^ x) (x + 1) i h (by omega) (or_lt32 hw hb) hi (by omega)
    · exact ih k w (x + 1) i h (by omega) hw hi (by omega)
theorem draw_l2 {n : Nat} {b : List Int} (c : Int) (hn : n ≤ 5) : ∀ (d k w x : Nat) (i h : Int),x + d = 2 ^ n → w < 4294967296 → 0 ≤ i → d + 40 < k → TabR n (spec_l2Draw.l2 k n w c x b i h) := by
  have hp := pow_le hn
  intro d
  induction d with
  | zero =>
    intro k w x i h hx hw hi hk
    obtain ⟨k,rfl⟩ : ∃ m,k = m + 1 := ⟨k - 1,by omega⟩
    rw [spec_l2Draw.l2,if_pos (Int.natCast_nonneg _),shl1_of (by omega),if_neg (by omega)]
    exact end_some hn hi w rfl hw
  | succ d ih =>
    intro k w x i h hx hw hi hk
    obtain ⟨k,rfl⟩ : ∃ m,k = m + 1 := ⟨k - 1,by omega⟩
    have hx32 : x < 32 := by omega
    have hb := bit_lt32 hx32
    rw [spec_l2Draw.l2,if_pos (Int.natCast_nonneg _),shl1_of (by omega),if_pos (by omega),wrap64_succ (by omega)]
    split
    · rw [if_pos (Int.natCast_nonneg _),shl1_of (by omega),or_cast (by omega) (by omega)]
      exact ih k (w ||| 2 ^ x) (x + 1) i h (by omega) (or_lt32 hw hb) hi (by omega)
    · exact ih k w (x + 1) i h (by omega) hw hi (by omega)
theorem draw_l3 {n : Nat} {b : List Int} (hl : b.length ≤ 9223372036854775807) (hn : n ≤ 5) : ∀ (d k w x : Nat) (i h : Int),x + d = 2 ^ n → w < 4294967296 → 0 ≤ i → d + 40 < k → TabR n (spec_l2Draw.l3 k n w x b i h) := by
  have hp := pow_le hn
  intro d
  induction d with
  | zero =>
    intro k w x i h hx hw hi hk
    obtain ⟨k,rfl⟩ : ∃ m,k = m + 1 := ⟨k - 1,by omega⟩
    rw [spec_l2Draw.l3,if_pos (Int.natCast_nonneg _),shl1_of (by omega),if_neg (by omega)]
    exact end_some hn hi w rfl hw
  | succ d ih =>
    intro k w x i h hx hw hi hk
    obtain ⟨k,rfl⟩ : ∃ m,k = m + 1 := ⟨k - 1,by omega⟩
    have hx32 : x < 32 := by omega
    have hb := bit_lt32 hx32
    obtain ⟨v,i1,h1,e,hi1,hv0,hv2,_⟩ := below_some h 2 hl hi
    obtain ⟨m,rfl⟩ := Int.eq_ofNat_of_zero_le hv0
    have hm : m < 2 := by have := hv2 (by decide);omega
    have hs : m <<< x < 4294967296 := by
      rw [Nat.shiftLeft_eq]
      have : m * 2 ^ x ≤ 1 * 2 ^ x := Nat.mul_le_mul_right _ (by omega)
      omega
    have hsc : shl .i64 (m : Int) (x : Int) = ((m <<< x : Nat) : Int) := shl_cast (by omega) (by omega)
    rw [spec_l2Draw.l3,if_pos (Int.natCast_nonneg _),shl1_of (by omega),if_pos (by omega),e,Option.bind_some,if_pos (Int.natCast_nonneg _),wrap64_succ (by omega)]
    dsimp only
    rw [hsc,or_cast (by omega) (by omega)]
    exact ih k (w ||| m <<< x) (x + 1) i1 h1 (by omega) (or_lt32 hw hs) hi1 (by omega)
theorem draw_some {n k : Nat} {b : List Int} {i : Int} (h : Int) (hl : b.length ≤ 9223372036854775807) (hn : n ≤ 5) (hi : 0 ≤ i) (hk : 100 < k) : TabR n (spec_l2Draw.f k b i h n) := by
  have hp := pow_le hn
  obtain ⟨c,i1,h1,e,hi1,_,_,_⟩ := below_some h 6 hl hi
  unfold spec_l2Draw.f
  rw [e,Option.bind_some]
  dsimp only
  by_cases c0 : c = 0
  · rw [if_pos c0]
    obtain ⟨v,i2,h2,e2,hi2,hv0,hvn,_⟩ := below_some h1 (mx 1 n) hl hi1
    obtain ⟨m,rfl⟩ := Int.eq_ofNat_of_zero_le hv0
    have hm : m < 5 := by
      have hmx : 1 ≤ mx 1 n ∧ mx 1 n ≤ 5 := by unfold mx;split <;> omega
      have := hvn (by omega)
      omega
    have hw := varW_lt n m
    have hF := full_le hn
    rw [e2,Option.bind_some,spec_var hn hm (by omega),Option.bind_some]
    exact end_some hn hi2 (varW n m) rfl (by omega)
  · rw [if_neg c0]
    by_cases c1 : c = 1
    · rw [if_pos c1];exact draw_l0 hn (2 ^ n) k 0 0 i1 h1 (by omega) (by decide) hi1 (by omega)
    · rw [if_neg c1]
      by_cases c2 : c = 2
      · rw [if_pos c2];exact draw_l1 hn (2 ^ n) k 0 0 i1 h1 (by omega) (by decide) hi1 (by omega)
      · rw [if_neg c2]
        by_cases c3 : c = 3
        · obtain ⟨v,i2,h2,e2,hi2,_,_,_⟩ := below_some h1 (shl .i64 1 n) hl hi1
          rw [if_pos c3,if_pos (Int.natCast_nonneg _),e2,Option.bind_some]
          exact draw_l2 v hn (2 ^ n) k 0 0 i2 h2 (by omega) (by decide) hi2 (by omega)
        · rw [if_neg c3];exact draw_l3 hl hn (2 ^ n) k 0 0 i1 h1 (by omega) (by decide) hi1 (by omega)
def AnyR (o : Option (Int × Int × Int × Int)) : Prop := ∃ (a w i h : Int),o = some (a,w,i,h) ∧ 0 ≤ i ∧ (-9223372036854775808 ≤ a ∧ a ≤ 9223372036854775807) ∧ (-9223372036854775808 ≤ w ∧ w ≤ 9223372036854775807)
def AnyS (o : Option (Int × Int × Int × Int)) : Prop := ∃ (a w i h : Int),o = some (a,w,i,h) ∧ 0 ≤ i ∧ (-9223372036854775808 ≤ a ∧ a ≤ 9223372036854775807) ∧ (-9223372036854775808 ≤ w ∧ w ≤ 9223372036854775807) ∧ (a ≤ 4 ∨ 5 < a ∨ (0 ≤ w ∧ w ≤ 65535))
theorem any_strong {k : Nat} {b : List Int} {i : Int} (h : Int) (hl : b.length ≤ 9223372036854775807) (hi : 0 ≤ i) (hk : 100 < k) : AnyS (spec_l2Any.f k b i h) := by
  obtain ⟨n,i1,h1,e,hi1,hn0,hn5,_⟩ := below_some h 5 hl hi
  obtain ⟨n,rfl⟩ := Int.eq_ofNat_of_zero_le hn0
  have hn : n ≤ 5 := by have := hn5 (by decide);omega
  have hn4 : n ≤ 4 := by have := hn5 (by decide);omega
  have hF := pow_le_pow (pow_le_pow hn4)
  have hF2 : 2 ^ 2 ^ n ≤ 65536 := hF
  obtain ⟨w,i2,h2,e2,hi2,hw0,hw1,hw2⟩ := draw_some (n := n) (k := k) h1 hl hn hi1 hk
  obtain ⟨c,i3,h3,e3,hi3,_,_,_⟩ := below_some h2 14 hl hi2
  unfold spec_l2Any.f
  rw [e,Option.bind_some,e2,Option.bind_some,e3,Option.bind_some]
  dsimp only
  by_cases c0 : c = 0
  · obtain ⟨v,i4,h4,e4,hi4,hv⟩ := pick_some (l := [(-1),6,5,0,9223372036854775807]) h3 hl hi3 (by decide)
    rw [if_pos c0,e4,Option.bind_some]
    refine ⟨_,_,_,_,rfl,hi4,?_,by omega,.inr (.inr (by omega))⟩
    simp only [List.mem_cons,List.not_mem_nil,or_false] at hv
    dsimp only
    omega
  · rw [if_neg c0]
    by_cases c1 : c = 1
    · obtain ⟨v,i4,h4,e4,hi4,hv⟩ := pick_some (l := [(-1),0,1,65536,9223372036854775807]) h3 hl hi3 (by decide)
      rw [if_pos c1,e4,Option.bind_some]
      refine ⟨_,_,_,_,rfl,hi4,by omega,?_,.inl (by omega)⟩
      simp only [List.mem_cons,List.not_mem_nil,or_false] at hv
      dsimp only
      omega
    · rw [if_neg c1]
      exact ⟨_,_,_,_,rfl,hi3,by omega,by omega,.inl (by omega)⟩
theorem any_some {k : Nat} {b : List Int} {i : Int} (h : Int) (hl : b.length ≤ 9223372036854775807) (hi : 0 ≤ i) (hk : 100 < k) : AnyR (spec_l2Any.f k b i h) := by
  obtain ⟨a,w,i2,h2,e,q0,q1,q2,_⟩ := any_strong (k := k) h hl hi hk
  exact ⟨a,w,i2,h2,e,q0,q1,q2⟩
def W64 (w : Int) : Prop := -9223372036854775808 ≤ w ∧ w ≤ 9223372036854775807
def bentW : Nat → Int
  | 0 => 0
  | x + 1 => Go.bits .or .i64 (bentW x) (shl .i64 (Go.bits .xor .i64 (Go.bits .and .i64 (Go.bits .and .i64 (x : Int) 1) ((x : Int) / 2)) (Go.bits .and .i64 (Go.bits .and .i64 ((x : Int) / 4) 1) ((x : Int) / 8))) (x : Int))
theorem bentW_16 : 0 ≤ bentW 16 ∧ bentW 16 < 65536 := by decide +kernel
theorem bent_loop {b : List Int} {i : Int} (h : Int) (hl : b.length ≤ 9223372036854775807) (hi : 0 ≤ i) : ∀ d k x : Nat,x + d = 16 → d + 100 < k → ∃ a w i' h' : Int,spec_l12Bent.l0 k (bentW x) x b i h = some (a,w,i',h') ∧ W64 w := by
  intro d
  induction d with
  | zero =>
    intro k x hx hk
    obtain ⟨k,rfl⟩ : ∃ m,k = m + 1 := ⟨k - 1,by omega⟩
    obtain rfl : x = 16 := by omega
    obtain ⟨s,i1,h1,e1,_,hs0,hs,_⟩ := below_some h 16 hl hi
    have hs := hs (by decide)
    obtain ⟨s,rfl⟩ := Int.eq_ofNat_of_zero_le hs0
    obtain ⟨q0,q1⟩ := bentW_16
    obtain ⟨v,hv⟩ := Int.eq_ofNat_of_zero_le q0
    have ht : Tab 4 v := ⟨by decide,by show v < 65536;omega⟩
    have e2 := l3Shift_some (k := k) (s := s) ht (show s < 16 by omega) (by omega)
    have e2 : spec_l3Shift.f k 4 (v : Int) (s : Int) = some (4,((shiftW 4 v s : Nat) : Int)) := e2
    rw [spec_l12Bent.l0,if_neg (by decide),e1,Option.bind_some]
    dsimp only
    rw [hv,e2,Option.bind_some]
    have hlt : shiftW 4 v s < 65536 := tabN_lt _ _
    exact ⟨_,_,_,_,rfl,by show W64 ((shiftW 4 v s : Nat) : Int);exact ⟨by omega,by omega⟩⟩
  | succ d ih =>
    intro k x hx hk
    obtain ⟨k,rfl⟩ : ∃ m,k = m + 1 := ⟨k - 1,by omega⟩
    rw [spec_l12Bent.l0,if_pos (by omega),if_pos (Int.natCast_nonneg _),wrap64_succ (by omega)]
    exact ih k (x + 1) (by omega) (by omega)
theorem drawSpec_some {k : Nat} {b : List Int} (hl : b.length ≤ 9223372036854775807) (hk : 5000 < k) : ∃ a w : Int,spec_DrawSpectrumOf.f k b = some (a,w) ∧ W64 w := by
  obtain ⟨h,e⟩ := new_some hl (k := k) (by omega)
  obtain ⟨a,w,i1,h1,e1,hi1,q1,q2⟩ := any_some (k := k) h hl (Int.le_refl 0) (by omega)
  unfold spec_DrawSpectrumOf.f
  rw [e,Option.bind_some,e1,Option.bind_some]
  exact ⟨_,_,rfl,q2⟩
theorem drawAuto_some {k : Nat} {b : List Int} (hl : b.length ≤ 9223372036854775807) (hk : 5000 < k) : ∃ a w : Int,spec_DrawAutocorrelationOf.f k b = some (a,w) ∧ W64 w := by
  obtain ⟨h,e⟩ := new_some hl (k := k) (by omega)
  obtain ⟨a,w,i1,h1,e1,hi1,q1,q2⟩ := any_some (k := k) h hl (Int.le_refl 0) (by omega)
  unfold spec_DrawAutocorrelationOf.f
  rw [e,Option.bind_some,e1,Option.bind_some]
  exact ⟨_,_,rfl,q2⟩
theorem drawDual_some {k : Nat} {b : List Int} (hl : b.length ≤ 9223372036854775807) (hk : 5000 < k) : ∃ a w : Int,spec_DrawDualOfBent.f k b = some (a,w) ∧ W64 w := by
  obtain ⟨h,e⟩ := new_some hl (k := k) (by omega)
  obtain ⟨x,i1,h1,e1,hi1,_,_,_⟩ := below_some h 4 hl (Int.le_refl 0)
  unfold spec_DrawDualOfBent.f spec_l12Bent.f
  rw [e,Option.bind_some]
  dsimp only
  rw [e1,Option.bind_some]
  dsimp only
  by_cases c0 : x = 0
  · obtain ⟨a,w,i2,h2,e2,hi2,q1,q2⟩ := any_some (k := k) h1 hl hi1 (by omega)
    rw [if_pos c0,e2,Option.bind_some,Option.bind_some]
    exact ⟨_,_,rfl,q2⟩
  · rw [if_neg c0]
    by_cases c1 : x = 1
    · obtain ⟨y,i2,h2,e2,_,hy⟩ := pick_some (l := [8,1,7,14,6]) h1 hl hi1 (by decide)
      rw [if_pos c1,e2,Option.bind_some,Option.bind_some]
      have hh : ∀ z ∈ [(8 : Int),1,7,14,6],-9223372036854775808 ≤ z ∧ z ≤ 9223372036854775807 := by decide
      exact ⟨_,_,rfl,hh y hy⟩
    · obtain ⟨a,w,i2,h2,e2,q⟩ := bent_loop h1 hl hi1 16 k 0 (by omega) (by omega)
      have e2 : spec_l12Bent.l0 k 0 0 b i1 h1 = some (a,w,i2,h2) := e2
      rw [if_neg c1,e2,Option.bind_some]
      exact ⟨_,_,rfl,q⟩
theorem spI_shape (a b : Int) : spI a b = [] ∨ ∃ n : Nat,n ≤ 5 ∧ (spI a b).length = 2 ^ n := by
  by_cases h : isTab a b = true
  · obtain ⟨n,w,rfl,rfl,ht⟩ := tab_of h
    right
    refine ⟨n,ht.1,?_⟩
    unfold spI
    rw [if_pos h,Int.toNat_natCast,Int.toNat_natCast,spL_length]
  · left
    unfold spI
    rw [if_neg h]
theorem drawTos_some {k : Nat} {b : List Int} (hl : b.length ≤ 9223372036854775807) (hk : 5000 < k) : ∃ l : List Int,spec_DrawTableOfSpectrum.f k b = some l ∧ (l = [] ∨ ∃ n : Nat,n ≤ 5 ∧ l.length = 2 ^ n) := by
  obtain ⟨h,e⟩ := new_some hl (k := k) (by omega)
  obtain ⟨a,w,i1,h1,e1,hi1,q1,q2⟩ := any_some (k := k) h hl (Int.le_refl 0) (by omega)
  unfold spec_DrawTableOfSpectrum.f
  rw [e,Option.bind_some]
  dsimp only
  rw [e1,Option.bind_some]
  dsimp only
  rw [spec_spI a w (by omega),Option.bind_some]
  have hs := spI_shape a w
  generalize spI a w = l at hs ⊢
  obtain ⟨k,rfl⟩ : ∃ m,k = m + 1 := ⟨k - 1,by omega⟩
  by_cases c : (l.length : Int) > 0
  · obtain ⟨o,i2,h2,e2,hi2⟩ := once_some h1 4 hl hi1
    rw [if_pos c,e2,Option.bind_some]
    dsimp only
    rw [spec_DrawTableOfSpectrum.j0]
    cases o with
    | false => rw [if_neg (by decide)];exact ⟨l,rfl,hs⟩
    | true =>
      obtain ⟨x,i3,h3,e3,hi3,x0,x1,_⟩ := below_some h2 (l.length : Int) hl hi2
      obtain ⟨y,i4,h4,e4,_,hy⟩ := pick_some (l := [0,2,-2,33,-9223372036854775808]) h3 hl hi3 (by decide)
      rw [if_pos rfl,e3,Option.bind_some]
      dsimp only
      rw [e4,Option.bind_some,if_pos x0,if_pos (x1 c)]
      refine ⟨_,rfl,?_⟩
      rcases hs with rfl | ⟨n,hn,hs⟩
      · exact .inl rfl
      · exact .inr ⟨n,hn,by rw [List.length_set,hs]⟩
  · rw [if_neg c,spec_DrawTableOfSpectrum.j0,if_neg (by decide)]
    exact ⟨l,rfl,hs⟩
theorem same_loop (l : List Int) (hl : l.length < 1000000) : ∀ (d k x : Nat),x + d = l.length → d < k → laws_sameInts.l0 k l l (x : Nat) = some true := by
  intro d
  induction d with
  | zero =>
    intro k x hx hk
    obtain ⟨k,rfl⟩ : ∃ m,k = m + 1 := ⟨k - 1,by omega⟩
    rw [laws_sameInts.l0,if_neg (by omega)]
  | succ d ih =>
    intro k x hx hk
    obtain ⟨k,rfl⟩ : ∃ m,k = m + 1 := ⟨k - 1,by omega⟩
    rw [laws_sameInts.l0,if_pos (by omega),if_pos (Int.natCast_nonneg _),if_pos (by omega),if_pos rfl,wrap64_succ (by omega)]
    exact ih k (x + 1) (by omega) (by omega)
theorem same_ints (l : List Int) (hl : l.length < 1000000) {k : Nat} (hk : l.length < k) : laws_sameInts.f k l l = some true := by
  unfold laws_sameInts.f
  rw [if_pos rfl]
  exact same_loop l hl l.length k 0 (by omega) hk
theorem sq_is {n w : Nat} (ht : Tab n w) : ∀ m,m ≤ 2 ^ n → laws_FnSpectra.sq (spL n w (2 ^ n)) m = sumI (fun u => spc n w u * spc n w u) m := by
  have hM := pow_le ht.1
  intro m
  induction m with
  | zero => intro _;rfl
  | succ m ih =>
    intro hm
    have h3 := sq_small ht (show m < 2 ^ n by omega)
    have h4 := sumI_range (q := fun u => spc n w u * spc n w u) (c := 1024) (M := 2 ^ n) (fun i hi => by have := sq_small ht hi;omega) (show m ≤ 2 ^ n by omega) hM
    rw [laws_FnSpectra.sq,ih (by omega),spL_get (by omega),wrap64_of (n := spc n w m * spc n w m) (by omega) (by omega),wrap64_of (by omega) (by omega)]
    rfl
theorem cu_is {n w : Nat} (ht : Tab n w) : ∀ m,m ≤ 2 ^ n → laws_FnSpectra.cu (spL n w (2 ^ n)) m = sumI (fun u => spc n w u * spc n w u * spc n w u) m := by
  have hM := pow_le ht.1
  intro m
  induction m with
  | zero => intro _;rfl
  | succ m ih =>
    intro hm
    have h2 := sq_small ht (show m < 2 ^ n by omega)
    have h3 := cube_small ht (show m < 2 ^ n by omega)
    have h4 := sumI_range (q := fun u => spc n w u * spc n w u * spc n w u) (c := 32768) (M := 2 ^ n) (fun i hi => by have := cube_small ht hi;omega) (show m ≤ 2 ^ n by omega) hM
    rw [laws_FnSpectra.cu,ih (by omega),spL_get (by omega),wrap64_of (n := spc n w m * spc n w m) (by omega) (by omega),wrap64_of (n := spc n w m * spc n w m * spc n w m) (by omega) (by omega),wrap64_of (by omega) (by omega)]
    rfl
def parI (x i : Nat) : Int := ((pop (x &&& i) % 2 : Nat) : Int)
theorem sh_is {n w x : Nat} (ht : Tab n w) : ∀ m,m ≤ 2 ^ n → laws_FnSpectra.sh (spL n w (2 ^ n)) (parI x) m = sumI (fun u => chi u x * (spc n w u * spc n w u)) m := by
  have hM := pow_le ht.1
  intro m
  induction m with
  | zero => intro _;rfl
  | succ m ih =>
    intro hm
    have h2 := sq_small ht (show m < 2 ^ n by omega)
    have h4 := sumI_range (q := fun u => chi u x * (spc n w u * spc n w u)) (c := 1024) (M := 2 ^ n) (fun i hi => by have := sq_small ht hi;rcases chi_or i x with e | e <;> simp only [e] <;> omega) (show m ≤ 2 ^ n by omega) hM
    have hc : chi m x = if parI x m = 1 then -1 else 1 := by
      unfold chi parI sg
      rw [Nat.and_comm m x]
      rcases Nat.mod_two_eq_zero_or_one (pop (x &&& m)) with e | e <;> rw [e] <;> rfl
    rw [laws_FnSpectra.sh,ih (by omega),spL_get (by omega),wrap64_of (n := spc n w m * spc n w m) (by omega) (by omega),sumI,hc]
    by_cases hp : parI x m = 1
    · rw [if_pos hp,if_pos hp,wrap64_of (by omega) (by omega)];omega
    · rw [if_neg hp,if_neg hp,wrap64_of (by omega) (by omega)];omega
theorem at3_some (l : List Int) (hl : l.length ≤ 1048576) (hw : ∀ x ∈ l,0 ≤ x ∧ x ≤ 255) : ∃ v : Nat,laws_at.f l 3 = some (v : Int) := by
  unfold laws_at.f
  by_cases h : (3 : Int) < (l.length : Int)
  · have h3 : 3 < l.length := by omega
    have hm : rd l 3 ∈ l := by
      unfold rd
      rw [List.getD_eq_getElem?_getD,show (3 : Int).toNat = 3 from rfl,List.getElem?_eq_getElem h3]
      exact List.getElem_mem h3
    obtain ⟨h0,h1⟩ := hw _ hm
    rw [if_pos h,if_pos (by decide),wrap64_of (by omega) (by omega)]
    obtain ⟨v,hv⟩ := Int.eq_ofNat_of_zero_le h0
    exact ⟨v,by rw [hv]⟩
  · rw [if_neg h,wrap64_of (n := 3 * 37) (by omega) (by omega),wrap64_of (n := (l.length : Int) * 11) (by omega) (by omega),wrap64_of (by omega) (by omega)]
    obtain ⟨v,hv⟩ := Int.eq_ofNat_of_zero_le (show 0 ≤ 3 * 37 + (l.length : Int) * 11 by omega)
    rw [hv]
    exact ⟨v % 256,rfl⟩
theorem FnSpectra (l : List Int) (_ : l.length ≤ maxLen) (hy : l.length * 1 ≤ 140737488351232) (hw : ∀ x ∈ l,(Lit.int .u8 x).wf = true) : ∃ k,laws_FnSpectra.f k l = some true := by
  refine ⟨70000,?_⟩
  unfold laws_FnSpectra.f
  refine if_pos ?_
  by_cases hb : (l.length : Int) > 1048576
  · left
    unfold laws_big.f
    rw [decide_eq_true hb]
  · right
    have hl : l.length ≤ 9223372036854775807 := by omega
    obtain ⟨f1,f2,hd,w0,w1⟩ := drawSpec_some (k := 70000) hl (by decide)
    obtain ⟨t,hdt,hts⟩ := drawTos_some (k := 70000) hl (by decide)
    obtain ⟨g1,g2,hdb,b0,b1⟩ := drawDual_some (k := 70000) hl (by decide)
    obtain ⟨h1,h2,hdh,s0,s1⟩ := drawAuto_some (k := 70000) hl (by decide)
    have hlen : (spI f1 f2).length ≤ 32 := by
      rcases spI_shape f1 f2 with e | ⟨n,hn,e⟩
      · rw [e];exact Nat.zero_le _
      · have := pow_le hn;omega
    have hau : ∀ a b : Int,(if isTab a b = true then autL a.toNat b.toNat (2 ^ a.toNat) else []).length ≤ 32 := by
      intro a b
      by_cases h : isTab a b = true
      · obtain ⟨n,w,rfl,rfl,ht⟩ := tab_of h
        have := pow_le ht.1
        rw [if_pos h,autL_length,Int.toNat_natCast]
        omega
      · rw [if_neg h];exact Nat.zero_le _
    obtain ⟨a1,a2,o1,ht1,ht2⟩ : ∃ (a1 a2 : Int) (o1 : Bool),impl_TableOfSpectrum.f 70000 t = some (a1,a2,o1) ∧ spec_TableOfSpectrum.f 70000 t = some (a1,a2,o1) := by
      rcases hts with rfl | ⟨n,hn,e⟩
      · exact ⟨0,0,false,impl_tos_nil (by decide),spec_tos_nil (by decide)⟩
      · exact ⟨(tosR t n).1,(tosR t n).2.1,(tosR t n).2.2,impl_tos hn e (by decide),spec_tos hn e (by decide)⟩
    refine ⟨f1,f2,spI f1 f2,nlI f1 f2,ciI f1 f2,t,a1,a2,o1,g1,g2,(dualI g1 g2).1,(dualI g1 g2).2.1,bentI g1 g2,h1,h2,(if isTab h1 h2 = true then autL h1.toNat h2.toNat (2 ^ h1.toNat) else []),?_⟩
    have hdu : dualI g1 g2 = ((dualI g1 g2).1,(dualI g1 g2).2.1,bentI g1 g2) := by
      unfold dualI
      cases bentI g1 g2 <;> rfl
    exact {
      small := by unfold laws_big.f;rw [decide_eq_false hb]
      draw := hd
      sp1 := impl_spI w0 w1 (by decide)
      sp2 := spec_spI f1 f2 (by decide)
      mm := same_ints _ (by omega) (by omega)
      len := by omega
      nl1 := impl_nlI w0 w1 (by decide)
      nl2 := spec_nlI f1 f2 (by decide)
      ci1 := impl_ciI w0 w1 (by decide)
      ci2 := spec_ciI f1 f2 (by decide)
      big := fun hpos => by
        have hT : isTab f1 f2 = true := by
          cases e : isTab f1 f2 with
          | true => rfl
          | false =>
            unfold spI at hpos
            rw [e,if_neg (by decide)] at hpos
            exact absurd hpos (Nat.lt_irrefl 0)
        obtain ⟨n,w,rfl,rfl,ht⟩ := tab_of hT
        have hM := pow_le ht.1
        have hp := pow_pos n
        have hsp := spI_tab ht
        obtain ⟨u,b,hu,hb1,en,hmin⟩ := near_is ht
        have hnl := nonlin_is ht hu hb1 hmin
        have hdl := dist_le ht u b
        have hcl : cnt w ≤ 32 := cntN_le _ _
        obtain ⟨v,hv⟩ := at3_some l (by omega) fun x hx => by
          have := hw x hx
          simp [Lit.wf,IntKind.min,IntKind.max,IntKind.bits,IntKind.signed] at this
          omega
        have hx : v % 2 ^ n < 2 ^ n := Nat.mod_lt _ hp
        have hau1 := autA_le w (v % 2 ^ n) (2 ^ n)
        have hcub := spc_cubes (w := w) ht.1
        have hrj : rejN n w ≤ 1024 := by
          have := sumR_le (q := fun x => cntN (rejP w x) (2 ^ n)) (c := 32) (fun i => by have := cntN_le (rejP w i) (2 ^ n);omega) (2 ^ n)
          unfold rejN
          omega
        have hcr := sumI_range (q := fun u => spc n w u * spc n w u * spc n w u) (c := 32768) (M := 2 ^ n) (fun i hi => by have := cube_small ht hi;omega) (Nat.le_refl _) hM
        have hsq := spc_squares (w := w) ht.1
        have hsh := spc_shift (w := w) ht.1 hx
        rw [aut_sum] at hsh
        have hz := spc_zero ht
        have hsl := spL_length n w (2 ^ n)
        have hgz : rd (spL n w (2 ^ n)) 0 = spc n w 0 := spL_get (u := 0) hp
        have hga : rd (autL n w (2 ^ n)) ((v % 2 ^ n : Nat) : Int) = autA w (v % 2 ^ n) (2 ^ n) := autL_get hx
        have hMM : ((2 ^ n : Nat) : Int) * ((2 ^ n : Nat) : Int) = ((2 ^ n * 2 ^ n : Nat) : Int) := (Int.natCast_mul _ _).symm
        have hM2 : 2 ^ n * 2 ^ n ≤ 32 * 32 := Nat.mul_le_mul hM hM
        refine ⟨(u : Int),(b : Int),(v : Int),((cnt w : Nat) : Int),((rejN n w : Nat) : Int),2 * ((rejN n w : Nat) : Int) * ((2 ^ n : Nat) : Int),2 * ((rejN n w : Nat) : Int),2 * ((cnt w : Nat) : Int),((2 ^ n : Nat) : Int) * ((2 ^ n : Nat) : Int),((2 ^ n : Nat) : Int) * ((2 ^ n : Nat) : Int) * ((2 ^ n : Nat) : Int),sumI (fun u => spc n w u * spc n w u * spc n w u) (2 ^ n),((2 ^ n : Nat) : Int) * autA w (v % 2 ^ n) (2 ^ n),autL n w (2 ^ n),enL n w (2 ^ n),v % 2 ^ n,parI (v % 2 ^ n),?_⟩
        rw [hsp]
        exact {
          tos := by rw [impl_tos ht.1 hsl (by decide),tosR_sp ht]
          near := by
            rw [impl_nearest w0 w1 (by decide),en]
            have : nlI (n : Int) (w : Int) = ((dist n w u b : Nat) : Int) := by
              unfold nlI
              rw [if_pos hT,Int.toNat_natCast,Int.toNat_natCast,← hnl]
              have : Int.tdiv (2 * ((dist n w u b : Nat) : Int)) 2 = ((dist n w u b : Nat) : Int) := Int.mul_tdiv_cancel_left _ (by decide)
              exact this
            rw [this]
          aut := by
            unfold impl_AutocorrelationOf.f
            rw [impl_isTable w0 w1,Option.bind_some,if_pos hT,impl_aut ht (by decide),Option.bind_some]
          at3 := hv
          tm := by rw [hsl];rfl
          xlt := by rw [autL_length];exact hx
          par := fun i hi => by
            rw [hsl] at hi
            rw [and_cast (by omega) (by omega)]
            exact parity_some (and_small (by omega)) (by decide)
          ones := by
            rw [impl_cntI ⟨w0,w1⟩]
            unfold cntI
            rw [if_pos hT,Int.toNat_natCast]
          rej := by
            rw [impl_rejI w0 w1 (by decide)]
            unfold rejI
            rw [if_pos hT]
            rfl
          en := impl_en ht (by decide)
          tot := total_en ht (by decide)
          s1 := by rw [hsl,sq_is ht _ (Nat.le_refl _),hsq]
          s2 := by rw [hsl,cu_is ht _ (Nat.le_refl _)]
          s3 := by rw [hsl,sh_is ht _ (Nat.le_refl _),hsh]
          e1 := by rw [hsl,hMM,wrap64_of (by omega) (by omega)]
          e2 := by rw [wrap64_of (by omega) (by omega)]
          e3 := by rw [hsl,hgz,hz,wrap64_of (by omega) (by omega)]
          e4 := by
            rw [hsl,hga]
            have h5 := Int.mul_le_mul (show autA w (v % 2 ^ n) (2 ^ n) ≤ ((2 ^ n : Nat) : Int) by omega) (show ((2 ^ n : Nat) : Int) ≤ 32 by omega) (by omega) (by omega)
            have h6 := Int.mul_le_mul (show -autA w (v % 2 ^ n) (2 ^ n) ≤ ((2 ^ n : Nat) : Int) by omega) (show ((2 ^ n : Nat) : Int) ≤ 32 by omega) (by omega) (by omega)
            rw [Int.mul_comm (autA w (v % 2 ^ n) (2 ^ n))] at h5
            rw [Int.neg_mul,Int.mul_comm (autA w (v % 2 ^ n) (2 ^ n))] at h6
            rw [wrap64_of (by omega) (by omega)]
          e5 := by rw [wrap64_of (by omega) (by omega)]
          e6 := by
            rw [hsl]
            have h5 : rejN n w * 2 ^ n ≤ 1024 * 32 := Nat.mul_le_mul hrj hM
            have h6 : 2 * ((rejN n w : Nat) : Int) * ((2 ^ n : Nat) : Int) = 2 * ((rejN n w * 2 ^ n : Nat) : Int) := by rw [Int.natCast_mul,Int.mul_assoc]
            rw [h6,wrap64_of (by omega) (by omega)]
          e7 := by
            rw [hsl]
            have h5 : 2 ^ n * 2 ^ n * 2 ^ n ≤ 1024 * 32 := Nat.mul_le_mul hM2 hM
            have h6 : ((2 ^ n : Nat) : Int) * ((2 ^ n : Nat) : Int) * ((2 ^ n : Nat) : Int) = ((2 ^ n * 2 ^ n * 2 ^ n : Nat) : Int) := by rw [Int.natCast_mul,Int.natCast_mul]
            rw [h6,wrap64_of (by omega) (by omega)]
          e8 := by
            have h5 : 2 ^ n * 2 ^ n * 2 ^ n ≤ 1024 * 32 := Nat.mul_le_mul hM2 hM
            have h6 : ((2 ^ n : Nat) : Int) * ((2 ^ n : Nat) : Int) * ((2 ^ n : Nat) : Int) = ((2 ^ n * 2 ^ n * 2 ^ n : Nat) : Int) := by rw [Int.natCast_mul,Int.natCast_mul]
            rw [wrap64_of (by omega) (by omega),hcub,Int.mul_sub,← Int.mul_assoc,Int.sub_sub_self,Int.mul_comm] }
      dt := hdt
      ts1 := ht1
      ts2 := ht2
      db := hdb
      du1 := by rw [impl_bdual b0 b1 (by decide),← hdu]
      du2 := by rw [spec_bdual g1 g2 (by decide),← hdu]
      ib := impl_bent b0 b1 (by decide)
      back := fun h => by
        obtain ⟨n,w,rfl,rfl,ht,e1,td,hb2,e2,e3⟩ := dual_back h
        have hdl := td.lt63
        refine ⟨nlI n w,?_,?_,impl_nlI b0 b1 (by decide),e3⟩
        · rw [e1]
          dsimp only
          rw [impl_bdual (by omega) (by omega) (by decide),e2]
        · rw [e1]
          dsimp only
          rw [impl_bent (by omega) (by omega) (by decide),hb2]
      dh := hdh
      au1 := by
        unfold impl_AutocorrelationOf.f
        rw [impl_isTable s0 s1,Option.bind_some]
        by_cases h : isTab h1 h2 = true
        · obtain ⟨n,w,rfl,rfl,ht⟩ := tab_of h
          rw [if_pos h,if_pos h,impl_aut ht (by decide),Option.bind_some,Int.toNat_natCast,Int.toNat_natCast]
        · rw [if_neg h,if_neg h]
      au2 := spec_aut_I h1 h2 (by decide)
      ms := same_ints _ (by have := hau h1 h2;omega) (by have := hau h1 h2;omega) }
end Go.Proofs.Ytflacbjpeecjcaa.U
