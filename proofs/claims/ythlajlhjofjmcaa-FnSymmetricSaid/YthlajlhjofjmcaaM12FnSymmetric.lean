/- Walks of Go functions and lemmas on what they compute, for the row of FnSymmetric (a part of several): each call ends as the Lean function of its name tells; the conditions are those of each theorem. -/
import Derived.Test.YthlajlhjofjmcaaM1FnSymmetric
import Derived.Test.YthlajlhjofjmcaaM2FnSymmetric
import Derived.Test.YthlajlhjofjmcaaM3FnSymmetric
import Derived.Test.YthlajlhjofjmcaaM5FnSymmetric
import Derived.Test.YthlajlhjofjmcaaM6FnSymmetric
import Derived.Test.YthlajlhjofjmcaaM7FnSymmetric
import Derived.Test.YthlajlhjofjmcaaM8FnSymmetric
import Derived.Test.YthlajlhjofjmcaaM9FnSymmetric
import Derived.Test.YthlajlhjofjmcaaM10FnSymmetric
import Derived.Test.YthlajlhjofjmcaaM11FnSymmetric
namespace Go.Proofs.Ythlajlhjofjmcaa.U
open Go.RowKit Go.Proofs.YthlajlhjofjmcaaW.PrintWords Go.Proofs.YthlajlhjofjmcaaW.PrintLast Go.Proofs.YthlajlhjofjmcaaW.PrintMore Go.Proofs.Ythlajlhjofjmcaa.F Go.Proofs.Ythlajlhjofjmcaa.B
set_option linter.unusedVariables false
set_option linter.unusedSimpArgs false
def pop (x : Nat) : Nat := bitN x 0 + bitN x 1 + bitN x 2 + bitN x 3 + bitN x 4
theorem ones_small {x : Nat} (hx : x < 32) : impl_ones.f x = some ((pop x : Nat) : Int) := by
  have h : ∀ x : Fin 32,impl_ones.f ((x.val : Nat) : Int) = some ((pop x.val : Nat) : Int) := by decide +kernel
  exact h ⟨x,hx⟩
theorem pop_le {n x : Nat} (hn : n ≤ 5) (hx : x < 2 ^ n) : pop x ≤ n := by
  have h : ∀ n : Fin 6,∀ x : Fin 32,x.val < 2 ^ n.val → pop x.val ≤ n.val := by decide +kernel
  have := pow_le hn
  exact h ⟨n,by omega⟩ ⟨x,by omega⟩ hx
theorem ones_ref {x k : Nat} (hx : x < 32) (hk : 10 ≤ k) : spec_l2Count.f k x = some ((pop x : Nat) : Int) := by
  have hh : ∀ x : Fin 32,spec_l2Count.f 10 ((x.val : Nat) : Int) = some ((pop x.val : Nat) : Int) := by decide +kernel
  exact at_rounds (g := fun K => spec_l2Count.f K x) (fun K => spec_l2Count.mono _ K) hk (hh ⟨x,hx⟩)
end Go.Proofs.Ythlajlhjofjmcaa.U
namespace Go.Proofs.Ythlajlhjofjmcaa.U
open Go.RowKit Go.Proofs.YthlajlhjofjmcaaW.PrintWords Go.Proofs.YthlajlhjofjmcaaW.PrintLast Go.Proofs.YthlajlhjofjmcaaW.PrintMore Go.Proofs.Ythlajlhjofjmcaa.F Go.Proofs.Ythlajlhjofjmcaa.B
set_option linter.unusedVariables false
set_option linter.unusedSimpArgs false
set_option maxRecDepth 100000
def profT (l : List Int) (x : Nat) : Bool := rd l (pop x : Nat) == 1
def symI (l : List Int) : Int × Int × Bool := if (1 ≤ l.length ∧ l.length ≤ 6) ∧ exN (fun i => impl_SymmetricTable.bad (rd l i)) l.length = false then (((l.length - 1 : Nat) : Int),((tabN (profT l) (2 ^ (l.length - 1)) : Nat) : Int),true) else (0,0,false)
theorem pop_lt {l : List Int} (h : 1 ≤ l.length ∧ l.length ≤ 6) {x : Nat} (hx : x < 2 ^ (l.length - 1)) : x < 32 ∧ pop x < l.length := by
  have h1 := pow_le (n := l.length - 1) (by omega)
  have h2 := pop_le (n := l.length - 1) (by omega) hx
  omega
theorem impl_sym (l : List Int) (hl : l.length < 9223372036854775807) : impl_SymmetricTable.f l = some (symI l) := by
  unfold impl_SymmetricTable.f symI
  rw [if_pos hl]
  by_cases h : 1 ≤ l.length ∧ l.length ≤ 6
  · rw [if_pos h]
    cases hx : exN (fun i => impl_SymmetricTable.bad (rd l i)) l.length with
    | true => rw [if_pos rfl,if_neg (fun q => by cases q.2)]
    | false =>
      have ho : ∀ x : Nat,x < 2 ^ (l.length - 1) → impl_ones.f x = some ((pop x : Nat) : Int) := fun x hxl => ones_small (pop_lt h hxl).1
      rw [if_neg (by decide),if_pos (allN_iff.mpr fun x hxl => by unfold impl_SymmetricTable.okx;rw [ho x hxl];exact decide_eq_true ⟨by omega,by have := (pop_lt h hxl).2;omega⟩),if_pos ⟨h,rfl⟩]
      congr 4
      refine tabN_congr fun x hxl => ?_
      unfold impl_SymmetricTable.p profT
      rw [ho x hxl]
      rfl
  · rw [if_neg h,if_neg (fun q => h q.1)]
theorem bit_of {l : List Int} (h : exN (fun i => impl_SymmetricTable.bad (rd l i)) l.length = false) {i : Nat} (hi : i < l.length) : rd l i = ((rd l i == 1).toNat : Nat) := by
  cases hc : impl_SymmetricTable.bad (rd l i) with
  | true => rw [exN_hit (p := fun i => impl_SymmetricTable.bad (rd l i)) hi hc] at h;cases h
  | false =>
    unfold impl_SymmetricTable.bad at hc
    rw [Bool.not_eq_false'] at hc
    rcases of_decide_eq_true hc with h | h <;> rw [h] <;> rfl
theorem sym_l1 {l : List Int} (h : 1 ≤ l.length ∧ l.length ≤ 6) (hb : exN (fun i => impl_SymmetricTable.bad (rd l i)) l.length = false) : ∀ (d k x : Nat),x + d = 2 ^ (l.length - 1) → d + 20 < k →
    spec_SymmetricTable.l1 k l ((l.length - 1 : Nat) : Int) ((tabN (profT l) x : Nat) : Int) x = some (((l.length - 1 : Nat) : Int),((tabN (profT l) (2 ^ (l.length - 1)) : Nat) : Int),true) := by
  have hM := pow_le (n := l.length - 1) (by omega)
  intro d
  induction d with
  | zero =>
    intro k x hx hk
    obtain ⟨k,rfl⟩ : ∃ m,k = m + 1 := ⟨k - 1,by omega⟩
    obtain rfl : x = 2 ^ (l.length - 1) := by omega
    simp only [spec_SymmetricTable.l1]
    rw [if_pos (Int.natCast_nonneg _),shl1_of (by omega),if_neg (by omega)]
  | succ d ih =>
    intro k x hx hk
    obtain ⟨k,rfl⟩ : ∃ m,k = m + 1 := ⟨k - 1,by omega⟩
    have hxl : x < 2 ^ (l.length - 1) := by omega
    obtain ⟨h1,h2⟩ := pop_lt h hxl
    have hT := tabN_lt63 (profT l) (show x ≤ 32 by omega)
    have hs : (profT l x).toNat <<< x < 2 ^ 32 := by
      have := @bitN_shl_lt (if profT l x = true then 1 else 0) 0 x 32 (by omega)
      have e : bitN (if profT l x = true then 1 else 0) 0 = (profT l x).toNat := by cases profT l x <;> rfl
      rw [e] at this
      exact this
    have hr : rd l ((pop x : Nat) : Int) = (((profT l x).toNat : Nat) : Int) := bit_of hb h2
    simp only [spec_SymmetricTable.l1]
    rw [if_pos (Int.natCast_nonneg _),shl1_of (by omega),if_pos (by omega),ones_ref h1 (by omega),Option.bind_some,if_pos (Int.natCast_nonneg _),if_pos (by omega),if_pos (Int.natCast_nonneg _),hr,shl_cast (by omega) (by omega),or_cast hT (by omega),wrap64_succ (by omega)]
    exact ih k (x + 1) (by omega) (by omega)
theorem sym_l0 (l : List Int) (hl : l.length < 9223372036854775807) : ∀ (d k i : Nat),i + d = l.length → d + 100 < k → exN (fun i => impl_SymmetricTable.bad (rd l i)) i = false →
    spec_SymmetricTable.l0 k l i = some (symI l) := by
  intro d
  induction d with
  | zero =>
    intro k i hi hk hx
    obtain ⟨k,rfl⟩ : ∃ m,k = m + 1 := ⟨k - 1,by omega⟩
    obtain rfl : i = l.length := by omega
    unfold symI
    simp only [spec_SymmetricTable.l0]
    rw [if_neg (by omega),l1In_some _ _ _ _ rfl,Option.bind_some]
    by_cases h : 1 ≤ l.length ∧ l.length ≤ 6
    · rw [if_pos (decide_eq_true (by omega)),if_pos ⟨h,hx⟩,show wrap64 ((l.length : Int) - 1) = ((l.length - 1 : Nat) : Int) by rw [wrap64_of (by omega) (by omega)];omega]
      exact sym_l1 h hx (2 ^ (l.length - 1)) k 0 (by omega) (by have := pow_le (n := l.length - 1) (by omega);omega)
    · rw [if_neg (by rw [decide_eq_true_eq];omega),if_neg (fun q => h q.1)]
  | succ d ih =>
    intro k i hi hk hx
    obtain ⟨k,rfl⟩ : ∃ m,k = m + 1 := ⟨k - 1,by omega⟩
    simp only [spec_SymmetricTable.l0]
    rw [if_pos (by omega),if_pos (Int.natCast_nonneg _),l1In_some _ _ _ _ rfl,Option.bind_some,wrap64_succ (by omega)]
    by_cases h : 0 ≤ rd l i ∧ rd l i ≤ 1
    · rw [if_pos (decide_eq_true h)]
      exact ih k (i + 1) (by omega) (by omega) (exN_skip hx (by unfold impl_SymmetricTable.bad;rw [decide_eq_true (by omega)];rfl))
    · rw [if_neg (by simpa using h)]
      unfold symI
      rw [if_neg (fun q => ?_)]
      have hb : impl_SymmetricTable.bad (rd l i) = true := by
        unfold impl_SymmetricTable.bad
        rw [decide_eq_false (by omega)]
        rfl
      have := q.2
      rw [exN_hit (p := fun i => impl_SymmetricTable.bad (rd l i)) (i := i) (by omega) hb] at this
      cases this
theorem spec_sym (l : List Int) (hl : l.length < 9223372036854775807) {k : Nat} (hk : l.length + 100 < k) : spec_SymmetricTable.f k l = some (symI l) := sym_l0 l hl l.length k 0 (by omega) (by omega) rfl
end Go.Proofs.Ythlajlhjofjmcaa.U
namespace Go.Proofs.Ythlajlhjofjmcaa.U
open Go.RowKit Go.Proofs.YthlajlhjofjmcaaW.PrintWords Go.Proofs.YthlajlhjofjmcaaW.PrintLast Go.Proofs.YthlajlhjofjmcaaW.PrintMore Go.Proofs.Ythlajlhjofjmcaa.F Go.Proofs.Ythlajlhjofjmcaa.B
set_option linter.unusedVariables false
set_option linter.unusedSimpArgs false
theorem symI_any (l : List Int) : (-9223372036854775808 ≤ (symI l).1 ∧ (symI l).1 ≤ 9223372036854775807) ∧ (-9223372036854775808 ≤ (symI l).2.1 ∧ (symI l).2.1 ≤ 9223372036854775807) := by
  unfold symI
  split
  next h =>
    have hn : l.length - 1 ≤ 5 := by have := h.1.2;omega
    have h1 := tabN_lt63 (profT l) (m := 2 ^ (l.length - 1)) (pow_le hn)
    generalize tabN (profT l) (2 ^ (l.length - 1)) = w at h1
    dsimp only
    omega
  next => dsimp only;omega
theorem l18_loop {b : List Int} (hl : b.length ≤ 9223372036854775807) : ∀ (d k : Nat) (v : List Int) (i h : Int),0 ≤ i → v.length + d ≤ 10 → 200 + d < k → AnyR (spec_l18Draw.l0 k v (d : Nat) b i h) := by
  intro d
  induction d with
  | zero =>
    intro k v i h hi hv hk
    obtain ⟨k,rfl⟩ : ∃ m,k = m + 1 := ⟨k - 1,by omega⟩
    obtain ⟨q1,q2⟩ := symI_any v
    rw [spec_l18Draw.l0,if_neg (by omega),spec_sym v (by omega) (by omega),Option.bind_some]
    exact ⟨_,_,_,_,rfl,hi,q1,q2⟩
  | succ d ih =>
    intro k v i h hi hv hk
    obtain ⟨k,rfl⟩ : ∃ m,k = m + 1 := ⟨k - 1,by omega⟩
    obtain ⟨x,i1,h1,e,hi1,_,_,_⟩ := below_some h 2 hl hi
    have hw : wrap64 (((d + 1 : Nat) : Int) - 1) = (d : Int) := by rw [wrap64_of (by omega) (by omega)];omega
    rw [spec_l18Draw.l0,if_pos (by omega),e,Option.bind_some,if_pos (by omega),hw]
    exact ih k (v ++ [x]) i1 h1 hi1 (by rw [List.length_append,List.length_singleton];omega) (by omega)
theorem l18_some {k : Nat} {b : List Int} {i : Int} (h : Int) (hl : b.length ≤ 9223372036854775807) (hi : 0 ≤ i) (hk : 300 < k) : AnyR (spec_l18Draw.f k b i h) := by
  obtain ⟨c,i1,h1,e,hi1⟩ := once_some h 3 hl hi
  unfold spec_l18Draw.f
  rw [e,Option.bind_some]
  dsimp only
  by_cases hc : c = true
  · obtain ⟨a,w,i2,h2,e2,hi2,q1,q2⟩ := any_some (k := k) h1 hl hi1 (by omega)
    rw [if_pos hc,e2,Option.bind_some]
    exact ⟨_,_,_,_,rfl,hi2,q1,q2⟩
  · obtain ⟨x,i2,h2,e2,hi2,hx0,hx5,_⟩ := below_some h1 5 hl hi1
    obtain ⟨x,rfl⟩ := Int.eq_ofNat_of_zero_le hx0
    have hx : x < 5 := by have := hx5 (by decide);omega
    have hw : wrap64 (1 + (x : Int)) = ((1 + x : Nat) : Int) := by rw [wrap64_of (by omega) (by omega)];omega
    rw [if_neg hc,e2,Option.bind_some]
    dsimp only
    rw [hw]
    exact l18_loop hl (1 + x) k [] i2 h2 hi2 (by rw [List.length_nil];omega) (by omega)
theorem drawProfile_some {k : Nat} {b : List Int} (hl : b.length ≤ 9223372036854775807) (hk : 5000 < k) : ∃ a w : Int,spec_DrawProfileOf.f k b = some (a,w) ∧ (-9223372036854775808 ≤ a ∧ a ≤ 9223372036854775807) ∧ (-9223372036854775808 ≤ w ∧ w ≤ 9223372036854775807) := by
  obtain ⟨h,e⟩ := new_some hl (k := k) (by omega)
  obtain ⟨a,w,i2,h2,e2,_,q1,q2⟩ := l18_some (k := k) h hl (Int.le_refl 0) (by omega)
  unfold spec_DrawProfileOf.f
  rw [e,Option.bind_some,e2,Option.bind_some]
  exact ⟨_,_,rfl,q1,q2⟩
theorem drawExch_some {k : Nat} {b : List Int} (hl : b.length ≤ 9223372036854775807) (hk : 5000 < k) : ∃ a w i j : Int,spec_DrawAreExchangeable.f k b = some (a,w,i,j) ∧ (-9223372036854775808 ≤ a ∧ a ≤ 9223372036854775807) ∧ (-9223372036854775808 ≤ w ∧ w ≤ 9223372036854775807) ∧ (-1 ≤ i ∧ i ≤ 5) ∧ 0 ≤ j ∧ j ≤ 5 := by
  obtain ⟨h,e⟩ := new_some hl (k := k) (by omega)
  obtain ⟨a,w,i2,h2,e2,hi2,q1,q2⟩ := l18_some (k := k) h hl (Int.le_refl 0) (by omega)
  obtain ⟨x,i3,h3,e3,hi3,hx0,hx,_⟩ := below_some h2 6 hl hi2
  obtain ⟨y,i4,h4,e4,hi4,hy0,hy,_⟩ := below_some h3 5 hl hi3
  have hx6 := hx (by decide)
  have hy5 := hy (by decide)
  unfold spec_DrawAreExchangeable.f
  rw [e,Option.bind_some,e2,Option.bind_some,e3,Option.bind_some,e4,Option.bind_some]
  exact ⟨_,_,_,_,rfl,q1,q2,by dsimp only;rw [wrap64_of (by omega) (by omega)];omega,by omega,by omega⟩
theorem drawCount_some {k : Nat} {b : List Int} (hl : b.length ≤ 9223372036854775807) (hk : 5000 < k) : ∃ n : Int,spec_DrawCountSymmetric.f k b = some n ∧ -1 ≤ n ∧ n ≤ 4 := by
  obtain ⟨h,e⟩ := new_some hl (k := k) (by omega)
  obtain ⟨x,i3,h3,e3,_,hx0,hx,_⟩ := below_some h 6 hl (Int.le_refl 0)
  have hx6 := hx (by decide)
  unfold spec_DrawCountSymmetric.f
  rw [e,Option.bind_some,e3,Option.bind_some]
  exact ⟨_,rfl,by dsimp only;rw [wrap64_of (by omega) (by omega)];omega,by dsimp only;rw [wrap64_of (by omega) (by omega)];omega⟩
theorem drawSym_loop {b : List Int} (hl : b.length ≤ 9223372036854775807) : ∀ (d k : Nat) (v : List Int) (i h : Int),0 ≤ i → v.length + d ≤ 10 → d < k → ∃ l : List Int,spec_DrawSymmetricTable.l0 k v (d : Nat) b i h = some l ∧ l.length ≤ 10 := by
  intro d
  induction d with
  | zero =>
    intro k v i h hi hv hk
    obtain ⟨k,rfl⟩ : ∃ m,k = m + 1 := ⟨k - 1,by omega⟩
    rw [spec_DrawSymmetricTable.l0,if_neg (by omega)]
    by_cases h0 : (v.length : Int) > 0
    · obtain ⟨c,i1,h1,e,hi1⟩ := once_some h 8 hl hi
      rw [if_pos h0,e,Option.bind_some]
      dsimp only
      by_cases hc : c = true
      · obtain ⟨x,i2,h2,e2,_,_⟩ := pick_some (l := [2,(-1)]) h1 hl hi1 (by decide)
        rw [if_pos hc,e2,Option.bind_some,if_pos (by omega)]
        exact ⟨_,rfl,by rw [List.length_set];omega⟩
      · rw [if_neg hc];exact ⟨v,rfl,by omega⟩
    · rw [if_neg h0];exact ⟨v,rfl,by omega⟩
  | succ d ih =>
    intro k v i h hi hv hk
    obtain ⟨k,rfl⟩ : ∃ m,k = m + 1 := ⟨k - 1,by omega⟩
    obtain ⟨x,i1,h1,e,hi1,_,_,_⟩ := below_some h 2 hl hi
    have hw : wrap64 (((d + 1 : Nat) : Int) - 1) = (d : Int) := by rw [wrap64_of (by omega) (by omega)];omega
    rw [spec_DrawSymmetricTable.l0,if_pos (by omega),e,Option.bind_some,if_pos (by omega),hw]
    exact ih k (v ++ [x]) i1 h1 hi1 (by rw [List.length_append,List.length_singleton];omega) (by omega)
theorem drawSym_some {k : Nat} {b : List Int} (hl : b.length ≤ 9223372036854775807) (hk : 5000 < k) : ∃ l : List Int,spec_DrawSymmetricTable.f k b = some l ∧ l.length ≤ 10 := by
  obtain ⟨h,e⟩ := new_some hl (k := k) (by omega)
  obtain ⟨x,i3,h3,e3,hi3,hx0,hx,_⟩ := below_some h 8 hl (Int.le_refl 0)
  obtain ⟨x,rfl⟩ := Int.eq_ofNat_of_zero_le hx0
  have hx8 := hx (by decide)
  unfold spec_DrawSymmetricTable.f
  rw [e,Option.bind_some,e3,Option.bind_some]
  exact drawSym_loop hl x k [] i3 h3 hi3 (by rw [List.length_nil];omega) (by omega)
def swp (x i k : Nat) : Nat := if x.testBit i = x.testBit k then x else x ^^^ (2 ^ i ||| 2 ^ k)
def swapL (n i k : Nat) : List Int := (((List.range n).map fun j => ((j : Nat) : Int)).set i (k : Int)).set k (i : Int)
theorem moved_swap10 : ∀ n : Fin 6,∀ i : Fin 5,i.val < n.val → ∀ k : Fin 5,k.val < n.val → ∀ x : Fin 32,x.val < 2 ^ n.val → impl_moved.f 10 (x.val : Int) (swapL n.val i.val k.val) = some ((swp x.val i.val k.val : Nat) : Int) := by decide +kernel
theorem moved_swap {n i k x K : Nat} (hn : n ≤ 5) (hi : i < n) (hk : k < n) (hx : x < 2 ^ n) (hK : 10 ≤ K) : impl_moved.f K x (swapL n i k) = some ((swp x i k : Nat) : Int) := by
  have := pow_le hn
  exact at_rounds (g := fun K => impl_moved.f K x (swapL n i k)) (fun K => impl_moved.mono _ _ K) hK (moved_swap10 ⟨n,by omega⟩ ⟨i,by omega⟩ hi ⟨k,by omega⟩ hk ⟨x,by omega⟩ hx)
theorem swp_lt {n i k x : Nat} (hx : x < 2 ^ n) (hi : i < n) (hk : k < n) : swp x i k < 2 ^ n := by
  unfold swp
  split
  · exact hx
  · exact Nat.xor_lt_two_pow hx (Nat.or_lt_two_pow (pow_lt hi) (pow_lt hk))
theorem swp_swp {i k x : Nat} (hx : x < 32) (hi : i < 5) (hk : k < 5) : swp (swp x i k) i k = x := by
  have h : ∀ x : Fin 32,∀ i : Fin 5,∀ k : Fin 5,swp (swp x i k) i k = x := by decide +kernel
  exact h ⟨x,hx⟩ ⟨i,hi⟩ ⟨k,hk⟩
def exch (n w i k : Nat) : Bool := allN (fun x => w.testBit x == w.testBit (swp x i k)) (2 ^ n)
theorem permute_loop {n w i j : Nat} (ht : Tab n w) (hi : i < n) (hj : j < n) : ∀ (d k x : Nat),x + d = 2 ^ n → d + 15 < k →
    impl_Table_permute.l0 k (swapL n i j) ((2 ^ n : Nat) : Int) x n w n ((orN (fun x => bitN w x <<< swp x i j) x : Nat) : Int) = some ((n : Int),((orN (fun x => bitN w x <<< swp x i j) (2 ^ n) : Nat) : Int)) := by
  have hM := pow_le ht.1
  have hn := ht.1
  intro d
  induction d with
  | zero =>
    intro k x hx hk
    obtain ⟨k,rfl⟩ : ∃ m,k = m + 1 := ⟨k - 1,by omega⟩
    obtain rfl : x = 2 ^ n := by omega
    simp only [impl_Table_permute.l0]
    rw [if_neg (by omega)]
  | succ d ih =>
    intro k x hx hk
    obtain ⟨k,rfl⟩ : ∃ m,k = m + 1 := ⟨k - 1,by omega⟩
    have hlt : x < 2 ^ n := by omega
    have hq := swp_lt hlt hi hj
    have hb := @bitN_shl_lt w x (swp x i j) 32 (by omega)
    have ho : orN (fun x => bitN w x <<< swp x i j) x < 2 ^ 32 := orN_lt fun y hy => bitN_shl_lt (by have := swp_lt (show y < 2 ^ n by omega) hi hj;omega)
    simp only [impl_Table_permute.l0]
    rw [if_pos (by exact_mod_cast hlt),at_some' ht.lt63 (by omega)]
    simp only [Option.bind_some]
    rw [moved_swap hn hi hj hlt (by omega)]
    simp only [Option.bind_some]
    rw [if_pos (Int.natCast_nonneg _),shl_cast (by omega) (by omega),or_cast (by omega) (by omega),wrap64_succ (by omega)]
    exact ih k (x + 1) (by omega) (by omega)
theorem permute_swap {n w i j k : Nat} (ht : Tab n w) (hi : i < n) (hj : j < n) (hk : 50 < k) :
    impl_Table_permute.f k n w (swapL n i j) = some ((n : Int),((tabN (fun x => w.testBit (swp x i j)) (2 ^ n) : Nat) : Int)) := by
  have hM := pow_le ht.1
  have hn := ht.1
  unfold impl_Table_permute.f
  rw [size_some _ (by omega)]
  simp only [Option.bind_some]
  have h := permute_loop ht hi hj (2 ^ n) k 0 (by omega) (by omega)
  rw [orN_perm w (2 ^ n) (fun x => swp x i j) (fun x => swp x i j) (fun x hx => swp_lt hx hi hj) (fun x hx => swp_lt hx hi hj) (fun x hx => swp_swp (by omega) (by omega) (by omega)) (fun x hx => swp_swp (by omega) (by omega) (by omega))] at h
  exact h
theorem swap_eq {n w i j : Nat} (ht : Tab n w) : (tabN (fun x => w.testBit (swp x i j)) (2 ^ n) == w) = exch n w i j := by
  apply Bool.eq_iff_iff.mpr
  unfold exch
  rw [beq_iff_eq,allN_iff]
  constructor
  · intro h x hx
    have := testBit_tabN (fun x => w.testBit (swp x i j)) (2 ^ n) x
    rw [h] at this
    rw [this]
    simp [hx]
  · intro h
    refine word_ext (tabN_lt _ _) ht.2 fun x hx => ?_
    rw [testBit_tabN]
    have := h x hx
    rw [beq_iff_eq] at this
    rw [this]
    simp [hx]
theorem ids_step (n x : Nat) (h : x < n) : (((List.range x).map fun j => ((j : Nat) : Int)) ++ List.replicate (n - x) 0).set x ((x : Nat) : Int) = ((List.range (x + 1)).map fun j => ((j : Nat) : Int)) ++ List.replicate (n - (x + 1)) 0 := by
  obtain ⟨d,hd⟩ : ∃ d,n - x = d + 1 := ⟨n - x - 1,by omega⟩
  rw [hd,show n - (x + 1) = d by omega,List.replicate_succ,List.set_append,if_neg (by simp)]
  simp [List.range_succ]
theorem exch_loop {n w i j : Nat} (ht : Tab n w) (hi : i < n) (hj : j < n) : ∀ (d k x : Nat),x + d = n → d + 60 < k →
    impl_AreExchangeable.l0 k i j (((List.range x).map fun j => ((j : Nat) : Int)) ++ List.replicate (n - x) 0) ((n : Nat) : Int) x n w = some (exch n w i j) := by
  have hn := ht.1
  intro d
  induction d with
  | zero =>
    intro k x hx hk
    obtain ⟨k,rfl⟩ : ∃ m,k = m + 1 := ⟨k - 1,by omega⟩
    obtain rfl : x = n := by omega
    simp only [impl_AreExchangeable.l0,Nat.sub_self,List.replicate_zero,List.append_nil,List.length_map,List.length_range,Int.toNat_natCast]
    rw [if_neg (by omega),if_pos (by omega),if_pos (by omega),if_pos (by omega),if_pos (by omega)]
    have e := permute_swap ht hi hj (k := k) (by omega)
    unfold swapL at e
    rw [e]
    simp only [Option.bind_some]
    congr 1
    rw [← swap_eq ht]
    generalize tabN (fun x => w.testBit (swp x i j)) (2 ^ x) = v
    rw [beq_self_eq_true,Bool.true_and]
    apply Bool.eq_iff_iff.mpr
    rw [beq_iff_eq,beq_iff_eq]
    omega
  | succ d ih =>
    intro k x hx hk
    obtain ⟨k,rfl⟩ : ∃ m,k = m + 1 := ⟨k - 1,by omega⟩
    simp only [impl_AreExchangeable.l0,List.length_append,List.length_map,List.length_range,List.length_replicate,Int.toNat_natCast]
    rw [if_pos (by omega),if_pos (by omega),if_pos (by omega),wrap64_succ (by omega),ids_step n x (by omega)]
    exact ih k (x + 1) (by omega) (by omega)
theorem hasVar {a b : Int} (h0 : -9223372036854775808 ≤ b) (h1 : b ≤ 9223372036854775807) (i : Int) : impl_hasVariable.f a b i = some (isTab a b && decide (0 ≤ i ∧ i < a)) := by
  unfold impl_hasVariable.f
  rw [impl_isTable h0 h1]
  simp only [Option.bind_some]
  cases isTab a b with
  | false => rfl
  | true =>
    rw [if_pos rfl,Bool.true_and]
    by_cases h : i ≥ 0
    · rw [if_pos h];congr 1;exact decide_eq_decide.mpr (by omega)
    · rw [if_neg h];congr 1;symm;exact decide_eq_false (by omega)
def exchB (a b i j : Int) : Bool := isTab a b && (decide (0 ≤ i ∧ i < a) && (decide (0 ≤ j ∧ j < a) && exch a.toNat b.toNat i.toNat j.toNat))
theorem impl_exch {a b : Int} (h0 : -9223372036854775808 ≤ b) (h1 : b ≤ 9223372036854775807) (i j : Int) {k : Nat} (hk : 80 < k) : impl_AreExchangeable.f k a b i j = some (exchB a b i j) := by
  obtain ⟨k,rfl⟩ : ∃ m,k = m + 1 := ⟨k - 1,by omega⟩
  unfold impl_AreExchangeable.f exchB
  rw [hasVar h0 h1 i,hasVar h0 h1 j]
  simp only [Option.bind_some]
  cases hT : isTab a b with
  | false => simp only [Bool.false_and,if_neg (show ¬ (false = true) by decide),impl_AreExchangeable.j0,if_true]
  | true =>
    simp only [Bool.true_and]
    by_cases hi : 0 ≤ i ∧ i < a
    · rw [decide_eq_true hi,if_pos rfl]
      by_cases hj : 0 ≤ j ∧ j < a
      · obtain ⟨n,w,rfl,rfl,ht⟩ := tab_of hT
        obtain ⟨i,rfl⟩ := Int.eq_ofNat_of_zero_le hi.1
        obtain ⟨j,rfl⟩ := Int.eq_ofNat_of_zero_le hj.1
        have := ht.1
        simp only [decide_eq_true hj,impl_AreExchangeable.j0,Bool.not_true,if_neg (show ¬ (false = true) by decide),Int.toNat_natCast,Bool.true_and]
        rw [if_pos (by omega),if_pos (by omega)]
        simp only [Option.bind_some,List.length_replicate]
        exact exch_loop ht (by omega) (by omega) n k 0 (by omega) (by omega)
      · simp only [decide_eq_false hj,impl_AreExchangeable.j0,Bool.not_false,if_true,Bool.false_and,Bool.and_false]
    · simp only [decide_eq_false hi,if_neg (show ¬ (false = true) by decide),impl_AreExchangeable.j0,if_true,Bool.false_and]
theorem spec_exch_loop {n w i j : Nat} (ht : Tab n w) (hi : i < n) (hj : j < n) : ∀ (d k x : Nat),x + d = 2 ^ n → d < k → allN (fun x => w.testBit x == w.testBit (swp x i j)) x = true →
    spec_AreExchangeable.l0 k i j x n w = some (exch n w i j) := by
  have hM := pow_le ht.1
  have hn := ht.1
  intro d
  induction d with
  | zero =>
    intro k x hx hk ha
    obtain ⟨k,rfl⟩ : ∃ m,k = m + 1 := ⟨k - 1,by omega⟩
    obtain rfl : x = 2 ^ n := by omega
    simp only [spec_AreExchangeable.l0]
    rw [if_pos (by omega),shl1_of (by omega),if_neg (by omega),exch,ha]
  | succ d ih =>
    intro k x hx hk ha
    obtain ⟨k,rfl⟩ : ∃ m,k = m + 1 := ⟨k - 1,by omega⟩
    have hlt : x < 2 ^ n := by omega
    have hq := swp_lt hlt hi hj
    have hpi := pow_le_pow (show i ≤ 4 by omega)
    have hpj := pow_le_pow (show j ≤ 4 by omega)
    have hor : 2 ^ i ||| 2 ^ j < 2 ^ 5 := Nat.or_lt_two_pow (pow_lt (by omega)) (pow_lt (by omega))
    simp only [spec_AreExchangeable.l0]
    rw [if_pos (by omega),shl1_of (by omega),if_pos (by exact_mod_cast hlt),if_pos (by omega),if_pos (by omega),bit_cast (by omega) (by omega),bit_cast (by omega) (by omega),wrap64_succ (by omega)]
    have hbit : ((((bitN x i : Nat) : Int)) = ((bitN x j : Nat) : Int)) ↔ x.testBit i = x.testBit j := by
      unfold bitN
      cases x.testBit i <;> cases x.testBit j <;> simp
    by_cases hs : x.testBit i = x.testBit j
    · have e : swp x i j = x := by unfold swp;rw [if_pos hs]
      rw [if_pos (hbit.mpr hs),if_pos (by omega),if_pos trivial]
      exact ih k (x + 1) (by omega) (by omega) (allN_next ha (by simp [e]))
    · have e : swp x i j = x ^^^ (2 ^ i ||| 2 ^ j) := by unfold swp;rw [if_neg hs]
      rw [if_neg (fun h => hs (hbit.mp h)),if_pos (by omega),shl1_of (by omega),shl1_of (by omega),or_cast (by omega) (by omega),xor_cast (by omega) (by omega),if_pos (Int.natCast_nonneg _),← e,bit_cast ht.lt63 (by omega),bit_cast ht.lt63 (by omega)]
      by_cases hv : w.testBit x = w.testBit (swp x i j)
      · rw [if_pos (by unfold bitN;rw [hv])]
        exact ih k (x + 1) (by omega) (by omega) (allN_next ha (by simp [hv]))
      · rw [if_neg (by intro h;apply hv;unfold bitN at h;revert h;cases w.testBit x <;> cases w.testBit (swp x i j) <;> simp),exch,allN_miss (i := x) hlt (by simpa using hv)]
theorem l1In_var (i : Int) {n : Nat} (hn : n ≤ 5) : spec_l1In.f i 0 (wrap64 ((n : Int) - 1)) = some (decide (0 ≤ i ∧ i < n)) := by
  rw [wrap64_of (by omega) (by omega)]
  exact l1In_some _ _ _ _ (decide_eq_decide.mpr (by omega))
theorem spec_exch (a b i j : Int) {k : Nat} (hk : 80 < k) : spec_AreExchangeable.f k a b i j = some (exchB a b i j) := by
  obtain ⟨k,rfl⟩ : ∃ m,k = m + 1 := ⟨k - 1,by omega⟩
  unfold spec_AreExchangeable.f exchB
  rw [spec_isTable]
  simp only [Option.bind_some]
  cases hT : isTab a b with
  | false => simp only [Bool.false_and,if_neg (show ¬ (false = true) by decide),spec_AreExchangeable.j0,if_true]
  | true =>
    obtain ⟨n,w,rfl,rfl,ht⟩ := tab_of hT
    have hn := ht.1
    have hM := pow_le ht.1
    simp only [if_true,Bool.true_and]
    rw [l1In_var i hn,l1In_var j hn]
    simp only [Option.bind_some]
    by_cases hi : 0 ≤ i ∧ i < (n : Int)
    · rw [decide_eq_true hi,if_pos rfl]
      by_cases hj : 0 ≤ j ∧ j < (n : Int)
      · obtain ⟨i,rfl⟩ := Int.eq_ofNat_of_zero_le hi.1
        obtain ⟨j,rfl⟩ := Int.eq_ofNat_of_zero_le hj.1
        simp only [decide_eq_true hj,spec_AreExchangeable.j0,Bool.not_true,if_neg (show ¬ (false = true) by decide),Int.toNat_natCast,Bool.true_and]
        exact spec_exch_loop ht (by omega) (by omega) (2 ^ n) k 0 (by omega) (by omega) rfl
      · simp only [decide_eq_false hj,spec_AreExchangeable.j0,Bool.not_false,if_true,Bool.false_and,Bool.and_false]
    · simp only [decide_eq_false hi,if_neg (show ¬ (false = true) by decide),spec_AreExchangeable.j0,if_true,Bool.false_and]
def symAt (w x : Nat) : Bool := w.testBit x == w.testBit (2 ^ pop x - 1)
def sym (n w : Nat) : Bool := allN (symAt w) (2 ^ n)
theorem sort_step {n x : Nat} (hn : n ≤ 5) (hx : x < 2 ^ n) : x = 2 ^ pop x - 1 ∨ ∃ i,1 ≤ i ∧ i < n ∧ swp x (i - 1) i < x ∧ pop (swp x (i - 1) i) = pop x := by
  have h : ∀ n : Fin 6,∀ x : Fin 32,x.val < 2 ^ n.val → x.val = 2 ^ pop x.val - 1 ∨ ∃ i : Fin 5,1 ≤ i.val ∧ i.val < n.val ∧ swp x.val (i.val - 1) i.val < x.val ∧ pop (swp x.val (i.val - 1) i.val) = pop x.val := by decide +kernel
  have := pow_le hn
  rcases h ⟨n,by omega⟩ ⟨x,by omega⟩ hx with h | ⟨i,h1,h2,h3,h4⟩
  · exact .inl h
  · exact .inr ⟨i.val,h1,h2,h3,h4⟩
theorem pop_swp {x i k : Nat} (hx : x < 32) (hi : i < 5) (hk : k < 5) : pop (swp x i k) = pop x := by
  have h : ∀ x : Fin 32,∀ i : Fin 5,∀ k : Fin 5,pop (swp x.val i.val k.val) = pop x.val := by decide +kernel
  exact h ⟨x,hx⟩ ⟨i,hi⟩ ⟨k,hk⟩
def nbs (n w m : Nat) : Bool := allN (fun i => i == 0 || exch n w (i - 1) i) m
theorem nbs_sym {n w : Nat} (ht : Tab n w) (hn0 : 0 < n) : nbs n w n = sym n w := by
  have hn := ht.1
  have hM := pow_le ht.1
  apply Bool.eq_iff_iff.mpr
  unfold nbs sym
  rw [allN_iff,allN_iff]
  constructor
  · intro h
    have key : ∀ (b x : Nat),x < b → x < 2 ^ n → symAt w x = true := by
      intro b
      induction b with
      | zero => intro x hb;omega
      | succ b ih =>
        intro x hb hx
        unfold symAt
        rw [beq_iff_eq]
        rcases sort_step hn hx with e | ⟨i,h1,h2,h3,h4⟩
        · rw [← e]
        · have hi := h i h2
          rw [Bool.or_eq_true,beq_iff_eq] at hi
          have hi : exch n w (i - 1) i = true := hi.resolve_left (by omega)
          have hs := allN_iff.mp hi x hx
          rw [beq_iff_eq] at hs
          have := ih (swp x (i - 1) i) (by omega) (by omega)
          unfold symAt at this
          rw [beq_iff_eq,h4] at this
          rw [hs,this]
    exact fun x hx => key (x + 1) x (by omega) hx
  · intro h i hi
    rw [Bool.or_eq_true,beq_iff_eq]
    by_cases h0 : i = 0
    · exact .inl h0
    · refine .inr (allN_iff.mpr fun x hx => ?_)
      have e1 := h x hx
      have e2 := h (swp x (i - 1) i) (swp_lt hx (by omega) hi)
      unfold symAt at e1 e2
      rw [beq_iff_eq] at e1 e2 ⊢
      rw [e1,e2,pop_swp (by omega) (by omega) (by omega)]
theorem nbs_zero (w : Nat) : sym 0 w = true := by
  unfold sym
  rw [allN_iff]
  intro x hx
  obtain rfl : x = 0 := by omega
  unfold symAt
  rw [show 2 ^ pop 0 - 1 = 0 from by decide]
  simp
def profL (w : Nat) : Nat → List Int
  | 0 => []
  | k + 1 => profL w k ++ [((bitN w (2 ^ k - 1) : Nat) : Int)]
theorem profL_length (w k : Nat) : (profL w k).length = k := by
  induction k with
  | zero => rfl
  | succ k ih => rw [profL,List.length_append,ih];rfl
theorem profL_get {w m k : Nat} (h : k < m) : (profL w m).getD k 0 = ((bitN w (2 ^ k - 1) : Nat) : Int) := by
  induction m with
  | zero => omega
  | succ m ih =>
    rw [profL,List.getD_eq_getElem?_getD]
    by_cases e : k = m
    · subst e
      rw [List.getElem?_append_right (by rw [profL_length];omega),profL_length]
      simp
    · rw [List.getElem?_append_left (by rw [profL_length];omega),← List.getD_eq_getElem?_getD]
      exact ih (by omega)
theorem rd_cast' (l : List Int) (x : Nat) : rd l (x : Int) = l.getD x 0 := by unfold rd;rw [Int.toNat_natCast]
theorem prof_step (w n x : Nat) (h : x < n) : (profL w x ++ List.replicate (n - x) 0).set x ((bitN w (2 ^ x - 1) : Nat) : Int) = profL w (x + 1) ++ List.replicate (n - (x + 1)) 0 := by
  obtain ⟨d,hd⟩ : ∃ d,n - x = d + 1 := ⟨n - x - 1,by omega⟩
  rw [hd,show n - (x + 1) = d by omega,List.replicate_succ,List.set_append,if_neg (by rw [profL_length];omega),profL_length]
  simp [profL]
theorem bit_same {w x y : Nat} : ((((bitN w x : Nat) : Int)) = ((bitN w y : Nat) : Int)) ↔ w.testBit x = w.testBit y := by
  unfold bitN
  generalize w.testBit x = p
  generalize w.testBit y = q
  cases p <;> cases q <;> simp
theorem sym_miss {n w x : Nat} (hx : x < 2 ^ n) (h : ¬ w.testBit x = w.testBit (2 ^ pop x - 1)) : sym n w = false :=
  allN_miss hx (by unfold symAt;exact beq_eq_false_iff_ne.mpr h)
theorem prof_l1 {n w : Nat} (ht : Tab n w) : ∀ (d k x : Nat),x + d = 2 ^ n → d < k → allN (symAt w) x = true →
    impl_Table_profile.l1 k (profL w (n + 1)) ((2 ^ n : Nat) : Int) x n w = some (if sym n w = true then (profL w (n + 1),true) else ([],false)) := by
  have hM := pow_le ht.1
  have hn := ht.1
  intro d
  induction d with
  | zero =>
    intro k x hx hk ha
    obtain ⟨k,rfl⟩ : ∃ m,k = m + 1 := ⟨k - 1,by omega⟩
    obtain rfl : x = 2 ^ n := by omega
    simp only [impl_Table_profile.l1]
    rw [if_neg (by omega),if_pos (show sym n w = true from ha)]
  | succ d ih =>
    intro k x hx hk ha
    obtain ⟨k,rfl⟩ : ∃ m,k = m + 1 := ⟨k - 1,by omega⟩
    have hlt : x < 2 ^ n := by omega
    have hp := pop_le hn hlt
    have hone := ones_small (x := x) (by omega)
    have hmiss := sym_miss (n := n) (w := w) hlt
    have hgo : w.testBit x = w.testBit (2 ^ pop x - 1) → allN (symAt w) (x + 1) = true := fun hv => allN_next ha (by unfold symAt;exact beq_iff_eq.mpr hv)
    generalize pop x = p at hp hone hmiss hgo
    have hget := profL_get (w := w) (m := n + 1) (k := p) (by omega)
    generalize 2 ^ p - 1 = y at hmiss hgo hget
    simp only [impl_Table_profile.l1,hone]
    rw [if_pos (by exact_mod_cast hlt),at_some' ht.lt63 (by omega)]
    simp only [Option.bind_some,profL_length]
    rw [if_pos (by omega),if_pos (by omega),rd_cast',hget,wrap64_succ (by omega)]
    by_cases hv : w.testBit x = w.testBit y
    · rw [if_pos (bit_same.mpr hv)]
      exact ih k (x + 1) (by omega) (by omega) (hgo hv)
    · rw [if_neg (fun h => hv (bit_same.mp h)),hmiss hv]
      rfl
theorem prof_l0 {n w : Nat} (ht : Tab n w) : ∀ (d k x : Nat),x + d = n + 1 → d + 40 < k →
    impl_Table_profile.l0 k (profL w x ++ List.replicate (n + 1 - x) 0) ((n + 1 : Nat) : Int) x n w = some (if sym n w = true then (profL w (n + 1),true) else ([],false)) := by
  have hM := pow_le ht.1
  have hn := ht.1
  intro d
  induction d with
  | zero =>
    intro k x hx hk
    obtain ⟨k,rfl⟩ : ∃ m,k = m + 1 := ⟨k - 1,by omega⟩
    obtain rfl : x = n + 1 := by omega
    simp only [impl_Table_profile.l0,Nat.sub_self,List.replicate_zero,List.append_nil]
    rw [if_neg (by omega),size_some _ (by omega)]
    simp only [Option.bind_some]
    exact prof_l1 ht (2 ^ n) k 0 (by omega) (by omega) rfl
  | succ d ih =>
    intro k x hx hk
    obtain ⟨k,rfl⟩ : ∃ m,k = m + 1 := ⟨k - 1,by omega⟩
    have hp := pow_pos x
    have hp2 := pow_le_pow (show x ≤ 5 by omega)
    simp only [impl_Table_profile.l0,List.length_append,profL_length,List.length_replicate,Int.toNat_natCast]
    rw [if_pos (by omega),if_pos (by omega),shl1_of (by omega),pred_cast' hp (by omega),at_some' ht.lt63 (by omega)]
    simp only [Option.bind_some]
    rw [if_pos (by omega),wrap64_succ (by omega),prof_step w (n + 1) x (by omega)]
    exact ih k (x + 1) (by omega) (by omega)
theorem impl_profile {n w k : Nat} (ht : Tab n w) (hk : 60 < k) : impl_Table_profile.f k n w = some (if sym n w = true then (profL w (n + 1),true) else ([],false)) := by
  have hn := ht.1
  unfold impl_Table_profile.f
  rw [wrap64_succ (by omega),if_pos (by omega),if_pos (by omega)]
  simp only [Option.bind_some,List.length_replicate,Int.toNat_natCast]
  exact prof_l0 ht (n + 1) k 0 (by omega) (by omega)
theorem impl_isSym {a b : Int} (h0 : -9223372036854775808 ≤ b) (h1 : b ≤ 9223372036854775807) {k : Nat} (hk : 60 < k) : impl_IsSymmetric.f k a b = some (isTab a b && sym a.toNat b.toNat) := by
  unfold impl_IsSymmetric.f
  rw [impl_isTable h0 h1]
  simp only [Option.bind_some]
  by_cases h : isTab a b = true
  · obtain ⟨n,w,rfl,rfl,ht⟩ := tab_of h
    rw [if_pos h,impl_profile ht hk,h]
    simp only [Option.bind_some,Bool.true_and,Int.toNat_natCast]
    cases sym n w <;> rfl
  · rw [if_neg h,Bool.eq_false_iff.mpr h];rfl
theorem spec_sym_loop {n w : Nat} (ht : Tab n w) (hn0 : 0 < n) : ∀ (d k i : Nat),i + d = n → 1 ≤ i → d * 2 + 90 < k → nbs n w i = true →
    spec_IsSymmetric.l0 k i n w = some (sym n w) := by
  have hn := ht.1
  have hw := ht.lt
  intro d
  induction d with
  | zero =>
    intro k i hi h1 hk ha
    obtain ⟨k,rfl⟩ : ∃ m,k = m + 1 := ⟨k - 1,by omega⟩
    obtain ⟨k,rfl⟩ : ∃ m,k = m + 1 := ⟨k - 1,by omega⟩
    obtain rfl : i = n := by omega
    simp only [spec_IsSymmetric.l0]
    rw [spec_isTable,isTab_of ht]
    simp only [Option.bind_some,if_true,spec_IsSymmetric.j1]
    rw [if_neg (by simp),← nbs_sym ht hn0,ha,spec_isTable,isTab_of ht]
    rfl
  | succ d ih =>
    intro k i hi h1 hk ha
    obtain ⟨k,rfl⟩ : ∃ m,k = m + 1 := ⟨k - 1,by omega⟩
    obtain ⟨k,rfl⟩ : ∃ m,k = m + 1 := ⟨k - 1,by omega⟩
    simp only [spec_IsSymmetric.l0]
    rw [spec_isTable,isTab_of ht]
    simp only [Option.bind_some,if_true]
    rw [decide_eq_true (by omega)]
    simp only [spec_IsSymmetric.j1,if_true]
    have e1 : wrap64 ((i : Int) - 1) = ((i - 1 : Nat) : Int) := by rw [wrap64_of (by omega) (by omega)];omega
    have e2 : exchB n w ((i - 1 : Nat) : Int) i = exch n w (i - 1) i := by
      unfold exchB
      rw [isTab_of ht,decide_eq_true (by omega),decide_eq_true (by omega)]
      simp
    rw [e1,spec_exch _ _ _ _ (by omega),e2,wrap64_succ (by omega)]
    simp only [Option.bind_some]
    have hst : nbs n w (i + 1) = (nbs n w i && (i == 0 || exch n w (i - 1) i)) := rfl
    cases hx : exch n w (i - 1) i with
    | true =>
      rw [if_pos rfl]
      exact ih k (i + 1) (by omega) (by omega) (by omega) (by rw [hst,ha,hx];simp)
    | false =>
      rw [if_neg (by decide),← nbs_sym ht hn0,nbs,allN_miss (i := i) (by omega) (by rw [hx];simp;omega)]
theorem spec_isSym (a b : Int) {k : Nat} (hk : 110 < k) : spec_IsSymmetric.f k a b = some (isTab a b && sym a.toNat b.toNat) := by
  unfold spec_IsSymmetric.f
  by_cases h : isTab a b = true
  · obtain ⟨n,w,rfl,rfl,ht⟩ := tab_of h
    have hn := ht.1
    rw [h]
    by_cases hn0 : 0 < n
    · exact spec_sym_loop ht hn0 (n - 1) k 1 (by omega) (by omega) (by omega) (by simp [nbs,allN])
    · obtain rfl : n = 0 := by omega
      obtain ⟨k,rfl⟩ : ∃ m,k = m + 1 := ⟨k - 1,by omega⟩
      obtain ⟨k,rfl⟩ : ∃ m,k = m + 1 := ⟨k - 1,by omega⟩
      simp only [spec_IsSymmetric.l0]
      rw [spec_isTable,h]
      simp only [Option.bind_some,if_true,spec_IsSymmetric.j1]
      rw [if_neg (by decide),spec_isTable,h]
      simp only [Option.bind_some,Int.toNat_natCast,nbs_zero]
      rfl
  · obtain ⟨k,rfl⟩ : ∃ m,k = m + 1 := ⟨k - 1,by omega⟩
    obtain ⟨k,rfl⟩ : ∃ m,k = m + 1 := ⟨k - 1,by omega⟩
    simp only [spec_IsSymmetric.l0]
    rw [spec_isTable]
    simp only [Option.bind_some]
    rw [if_neg h]
    simp only [spec_IsSymmetric.j1]
    rw [if_neg (by decide),spec_isTable,Bool.eq_false_iff.mpr h]
    rfl
def prof (a b : Int) : List Int := if (isTab a b && sym a.toNat b.toNat) = true then profL b.toNat (a.toNat + 1) else []
theorem impl_prof {a b : Int} (h0 : -9223372036854775808 ≤ b) (h1 : b ≤ 9223372036854775807) {k : Nat} (hk : 60 < k) : impl_ProfileOf.f k a b = some (prof a b) := by
  unfold impl_ProfileOf.f prof
  rw [impl_isTable h0 h1]
  simp only [Option.bind_some]
  by_cases h : isTab a b = true
  · obtain ⟨n,w,rfl,rfl,ht⟩ := tab_of h
    rw [if_pos h,impl_profile ht hk,h]
    simp only [Option.bind_some,Bool.true_and,Int.toNat_natCast]
    cases sym n w <;> rfl
  · rw [if_neg h,Bool.eq_false_iff.mpr h];rfl
theorem spec_prof_loop {n w : Nat} (ht : Tab n w) (hs : sym n w = true) : ∀ (d k x : Nat),x + d = n + 1 → d + 120 < k →
    spec_ProfileOf.l0 k (profL w x) x n w = some (profL w (n + 1)) := by
  have hn := ht.1
  intro d
  induction d with
  | zero =>
    intro k x hx hk
    obtain ⟨k,rfl⟩ : ∃ m,k = m + 1 := ⟨k - 1,by omega⟩
    obtain rfl : x = n + 1 := by omega
    simp only [spec_ProfileOf.l0]
    rw [spec_isSym _ _ (by omega),isTab_of ht]
    simp only [Option.bind_some,Int.toNat_natCast,hs,Bool.and_self,if_true]
    rw [if_neg (by omega)]
  | succ d ih =>
    intro k x hx hk
    obtain ⟨k,rfl⟩ : ∃ m,k = m + 1 := ⟨k - 1,by omega⟩
    have hp := pow_pos x
    have hp2 := pow_le_pow (show x ≤ 5 by omega)
    simp only [spec_ProfileOf.l0]
    rw [spec_isSym _ _ (by omega),isTab_of ht]
    simp only [Option.bind_some,Int.toNat_natCast,hs,Bool.and_self,if_true,profL_length]
    rw [if_pos (by omega),if_pos (by omega),shlu1_of (by omega),upred_cast hp (by omega),if_pos (Int.natCast_nonneg _),if_pos (by omega),bit_cast ht.lt63 (by omega),wrap64_succ (by omega)]
    exact ih k (x + 1) (by omega) (by omega)
theorem spec_prof (a b : Int) {k : Nat} (hk : 140 < k) : spec_ProfileOf.f k a b = some (prof a b) := by
  unfold spec_ProfileOf.f prof
  by_cases h : (isTab a b && sym a.toNat b.toNat) = true
  · rw [if_pos h]
    rw [Bool.and_eq_true] at h
    obtain ⟨n,w,rfl,rfl,ht⟩ := tab_of h.1
    have := ht.1
    exact spec_prof_loop ht h.2 (n + 1) k 0 (by omega) (by omega)
  · obtain ⟨k,rfl⟩ : ∃ m,k = m + 1 := ⟨k - 1,by omega⟩
    simp only [spec_ProfileOf.l0]
    rw [spec_isSym _ _ (by omega)]
    simp only [Option.bind_some]
    rw [if_neg h,if_neg h]
theorem prof_length (a b : Int) : (prof a b).length ≤ 32 := by
  unfold prof
  by_cases h : (isTab a b && sym a.toNat b.toNat) = true
  · rw [if_pos h]
    rw [Bool.and_eq_true] at h
    obtain ⟨n,w,rfl,rfl,ht⟩ := tab_of h.1
    have := ht.1
    rw [profL_length,Int.toNat_natCast]
    omega
  · rw [if_neg h];exact Nat.zero_le _
theorem spec_CountSymmetric_loop {n : Nat} (hn : n ≤ 4) : ∀ (d k x : Nat),x + d = 2 ^ 2 ^ n → d + 150 < k →
    spec_CountSymmetric.l0 k n ((cntN (sym n) x : Nat) : Int) x = some ((cntN (sym n) (2 ^ 2 ^ n) : Nat) : Int) := by
  have hM : 2 ^ 2 ^ n ≤ 65536 := Nat.pow_le_pow_right (n := 2) (by decide) (Nat.pow_le_pow_right (n := 2) (by decide) hn)
  have hp := pow_pos (2 ^ n)
  intro d
  induction d with
  | zero =>
    intro k x hx hk
    obtain ⟨k,rfl⟩ : ∃ m,k = m + 1 := ⟨k - 1,by omega⟩
    obtain rfl : x = 2 ^ 2 ^ n := by omega
    simp only [spec_CountSymmetric.l0]
    rw [full_some (by omega)]
    simp only [Option.bind_some]
    rw [if_neg (by omega)]
  | succ d ih =>
    intro k x hx hk
    obtain ⟨k,rfl⟩ : ∃ m,k = m + 1 := ⟨k - 1,by omega⟩
    have hlt : x < 2 ^ 2 ^ n := by omega
    have ht : Tab n x := ⟨by omega,hlt⟩
    have hc := cntN_le (sym n) x
    have hi := ih k (x + 1) (by omega) (by omega)
    simp only [spec_CountSymmetric.l0]
    rw [full_some (by omega)]
    simp only [Option.bind_some]
    rw [if_pos (by omega),spec_isSym n x (by omega),isTab_of ht,Bool.true_and,Int.toNat_natCast,Int.toNat_natCast]
    simp only [Option.bind_some]
    rw [wrap64_succ (by omega),wrap64_succ (by omega)]
    rw [cntN] at hi
    cases hv : sym n x with
    | true =>
      rw [hv] at hi
      rw [if_pos rfl]
      exact hi
    | false =>
      rw [hv] at hi
      rw [if_neg (by decide)]
      exact hi
def cntCountSymmetric (a : Int) : Int := if 0 ≤ a ∧ a ≤ 4 then ((cntN (sym a.toNat) (2 ^ 2 ^ a.toNat) : Nat) : Int) else -1
theorem spec_CountSymmetric_some (a : Int) {k : Nat} (hk : 66000 < k) : spec_CountSymmetric.f k a = some (cntCountSymmetric a) := by
  unfold spec_CountSymmetric.f cntCountSymmetric
  rw [l1In_some a 0 4 _ rfl]
  simp only [Option.bind_some]
  by_cases h : 0 ≤ a ∧ a ≤ 4
  · rw [if_pos (decide_eq_true h),if_pos h]
    obtain ⟨n,rfl⟩ := Int.eq_ofNat_of_zero_le h.1
    have hn : n ≤ 4 := by omega
    have hM : 2 ^ 2 ^ n ≤ 65536 := Nat.pow_le_pow_right (n := 2) (by decide) (Nat.pow_le_pow_right (n := 2) (by decide) hn)
    exact spec_CountSymmetric_loop hn (2 ^ 2 ^ n) k 0 (by omega) (by omega)
  · rw [if_neg (fun q => h (of_decide_eq_true q)),if_neg h]
theorem impl_CountSymmetric_some (a : Int) : impl_CountSymmetric.f a = some (cntCountSymmetric a) := by
  unfold impl_CountSymmetric.f cntCountSymmetric
  by_cases h1 : a < 0
  · rw [if_pos h1,if_neg (by omega)]
  · rw [if_neg h1]
    by_cases h2 : 4 < a
    · rw [if_pos h2,if_neg (by omega)]
    · rw [if_neg h2,if_pos (show 0 ≤ a ∧ a ≤ 4 by omega)]
      obtain ⟨n,rfl⟩ := Int.eq_ofNat_of_zero_le (show 0 ≤ a by omega)
      simp only [Int.toNat_natCast]
      have hn : n ≤ 4 := by omega
      have hv : ∀ x : Nat,x < 2 ^ 2 ^ n → impl_IsSymmetric.f 200 n x = some (sym n x) := fun x hx => by
        have ht : Tab n x := ⟨by omega,hx⟩
        have hw := ht.lt
        rw [impl_isSym (by omega) (by omega) (by decide),isTab_of ht,Bool.true_and,Int.toNat_natCast,Int.toNat_natCast]
      rw [if_pos (allN_iff.mpr fun x hx => by rw [hv x hx];rfl),cntN_congr (q := sym n) fun x hx => by unfold impl_CountSymmetric.p;rw [hv x hx];cases sym n x <;> rfl]
theorem spec_grp_l1 {a b R' : Int} {n i : Nat} {xs : List (List Int)} {R : List (List Int)} (hn : n ≤ 5) (hi : i < n) (hok : GrpOk i xs) {m : Nat} (hnext : ∀ k,m < k → spec_GroupsOf.l0 k (grpPut (exchB n b) (i : Int) xs) ((i + 1 : Nat) : Int) n b = some R) :
    ∀ (d k p : Nat),p + d = xs.length → (∀ j : Nat,j < p → exchB n b (rd (rdL xs j) 0) (i : Int) = false) → 2 * d + m + 90 < k → spec_GroupsOf.l1 k xs i false p n b = some R := by
  have hl := hok.1
  intro d
  induction d with
  | zero =>
    intro k p hp hno hk
    obtain ⟨k,rfl⟩ : ∃ m,k = m + 2 := ⟨k - 2,by omega⟩
    rw [spec_GroupsOf.l1,if_neg (by omega),spec_GroupsOf.j3,if_neg (by decide),if_neg (by decide),if_pos (by omega),wrap64_succ (by omega)]
    have h := hnext k (by omega)
    rw [grpPut_miss (exchB n b) (i : Int) xs (fun j hj => hno j (by omega))] at h
    exact h
  | succ d ih =>
    intro k p hp hno hk
    obtain ⟨k,rfl⟩ : ∃ m,k = m + 2 := ⟨k - 2,by omega⟩
    have hp2 : p < xs.length := by omega
    obtain ⟨h1,h2,_⟩ := hok.2 _ (rdL_mem hp2)
    have hrl : rd_L2 xs (p : Int) = rdL xs p := rfl
    rw [spec_GroupsOf.l1,if_pos (by omega),spec_GroupsOf.j3,Bool.not_false,if_pos rfl,if_pos (Int.natCast_nonneg _),if_pos (by omega),hrl,if_pos (by omega),spec_exch _ _ _ _ (by omega),Option.bind_some]
    cases he : exchB n b (rd (rdL xs p) 0) (i : Int) with
    | false =>
      rw [if_neg (by decide),wrap64_succ (by omega)]
      exact ih k (p + 1) (by omega) (fun j hj => by
        by_cases e : j = p
        · rw [e];exact he
        · exact hno j (by omega)) (by omega)
    | true =>
      rw [if_pos rfl,if_pos (by omega),wrap64_succ (by omega),Int.toNat_natCast,← grpPut_hit (exchB n b) (i : Int) xs p hp2 he hno]
      obtain ⟨k,rfl⟩ : ∃ m,k = m + 2 := ⟨k - 2,by omega⟩
      have hj : spec_GroupsOf.j3 (k + 1) (grpPut (exchB n b) (i : Int) xs) i true ((p + 1 : Nat) : Int) false n b = some R := by
        rw [spec_GroupsOf.j3,if_neg (by decide),if_pos rfl,wrap64_succ (by omega)]
        exact hnext k (by omega)
      rw [spec_GroupsOf.l1]
      split
      · exact hj
      · exact hj
theorem spec_grp_l0 {b : Int} {n : Nat} (hT : isTab n b = true) (hn : n ≤ 5) : ∀ (d k i : Nat),i + d = n → d * 120 + 5 < k → spec_GroupsOf.l0 k (grpN (exchB n b) i) i n b = some (grpN (exchB n b) n) := by
  intro d
  induction d with
  | zero =>
    intro k i hi hk
    obtain ⟨k,rfl⟩ : ∃ m,k = m + 2 := ⟨k - 2,by omega⟩
    obtain rfl : i = n := by omega
    rw [spec_GroupsOf.l0,spec_isTable,hT,Option.bind_some,if_pos rfl,spec_GroupsOf.j1,decide_eq_false (by omega),if_neg (by decide)]
  | succ d ih =>
    intro k i hi hk
    obtain ⟨k,rfl⟩ : ∃ m,k = m + 2 := ⟨k - 2,by omega⟩
    rw [spec_GroupsOf.l0,spec_isTable,hT,Option.bind_some,if_pos rfl,spec_GroupsOf.j1,decide_eq_true (by omega),if_pos rfl]
    have hok := grpN_ok (exchB n b) i
    exact spec_grp_l1 (R' := 0) (a := 0) hn (by omega) hok (m := d * 120 + 5) (fun k hk => ih k (i + 1) (by omega) hk) (grpN (exchB n b) i).length k 0 (by omega) (fun j hj => absurd hj (Nat.not_lt_zero _)) (by have := hok.1;omega)
def grpI (a b : Int) : List (List Int) := if isTab a b = true then grpN (exchB a b) a.toNat else []
theorem spec_groups (a b : Int) {k : Nat} (hk : 800 < k) : spec_GroupsOf.f k a b = some (grpI a b) := by
  unfold spec_GroupsOf.f grpI
  cases hT : isTab a b with
  | false =>
    obtain ⟨k,rfl⟩ : ∃ m,k = m + 2 := ⟨k - 2,by omega⟩
    rw [spec_GroupsOf.l0,spec_isTable,hT,Option.bind_some,if_neg (by decide),spec_GroupsOf.j1,if_neg (by decide),if_neg (by decide)]
  | true =>
    obtain ⟨n,w,rfl,rfl,ht⟩ := tab_of hT
    have := ht.1
    rw [if_pos rfl,Int.toNat_natCast]
    exact spec_grp_l0 hT ht.1 n k 0 (by omega) (by omega)
theorem grpN_congr {ex ex' : Int → Int → Bool} : ∀ i : Nat,(∀ x y : Nat,y < i → x < y → ex x y = ex' x y) → grpN ex i = grpN ex' i := by
  intro i
  induction i with
  | zero => intro _;rfl
  | succ i ih =>
    intro h
    rw [grpN,grpN,ih (fun x y hy hx => h x y (by omega) hx)]
    have hok := (grpN_ok ex' i).2
    generalize grpN ex' i = xs at hok
    induction xs with
    | nil => rfl
    | cons l ls ihl =>
      obtain ⟨_,_,y,hy,hyi⟩ := hok l (List.mem_cons_self ..)
      rw [grpPut,grpPut,hy,h y i (by omega) hyi,ihl (fun l hl => hok l (List.mem_cons_of_mem _ hl))]
theorem impl_groups {a b : Int} (h0 : -9223372036854775808 ≤ b) (h1 : b ≤ 9223372036854775807) : impl_GroupsOf.f a b = some (grpI a b) := by
  unfold impl_GroupsOf.f grpI
  rw [impl_isTable h0 h1,Option.bind_some]
  cases hT : isTab a b with
  | false => rw [if_neg (by decide),if_neg (by decide)]
  | true =>
    obtain ⟨n,w,rfl,rfl,ht⟩ := tab_of hT
    have hn := ht.1
    rw [if_pos rfl,if_pos rfl,if_pos (by omega),Int.toNat_natCast]
    have hd : grpDom n n w = true := by
      unfold grpDom
      rw [allN_iff]
      intro i hi
      rw [allN_iff]
      intro j hj
      rw [impl_exch h0 h1 _ _ (by omega)]
      rfl
    rw [if_pos hd]
    congr 1
    refine grpN_congr n (fun x y hy hx => ?_)
    unfold grpEx
    rw [impl_exch h0 h1 _ _ (by omega)]
    cases exchB n w x y <;> rfl
theorem grpI_ok (a b : Int) : (grpI a b).length ≤ 5 ∧ ∀ l ∈ grpI a b,l.length ≤ 5 := by
  unfold grpI
  split
  next h =>
    obtain ⟨n,w,rfl,rfl,ht⟩ := tab_of h
    have hn := ht.1
    obtain ⟨h1,h2⟩ := grpN_ok (exchB n w) n
    rw [Int.toNat_natCast]
    exact ⟨by omega,fun l hl => by have := (h2 l hl).2.1;omega⟩
  next => exact ⟨Nat.zero_le _,fun l hl => by cases hl⟩
theorem same_loop (l : List Int) (hl : l.length < 1000000) : ∀ (d k x : Nat),x + d = l.length → d < k → laws_sameInts.l0 k l l (x : Nat) = some true := by
  intro d
  induction d with
  | zero =>
    intro k x hx hk
    obtain ⟨k,rfl⟩ : ∃ m,k = m + 1 := ⟨k - 1,by omega⟩
    rw [laws_sameInts.l0,if_neg (by omega)]
  | succ d ih =>
    intro k x hx hk
    obtain ⟨k,rfl⟩ : ∃ m,k = m + 1 := ⟨k - 1,by omega⟩
    rw [laws_sameInts.l0,if_pos (by omega),if_pos (Int.natCast_nonneg _),if_pos (by omega),if_pos rfl,wrap64_succ (by omega)]
    exact ih k (x + 1) (by omega) (by omega)
theorem same_ints (l : List Int) (hl : l.length < 1000000) {k : Nat} (hk : l.length < k) : laws_sameInts.f k l l = some true := by
  unfold laws_sameInts.f
  rw [if_pos rfl]
  exact same_loop l hl l.length k 0 (by omega) hk
theorem sameL_loop (r : List (List Int)) (hl : r.length < 1000) (hr : ∀ l ∈ r,l.length < 1000) : ∀ (d k x : Nat),x + d = r.length → d + 1000 < k → laws_sameLists.l0 k r r (x : Nat) = some true := by
  intro d
  induction d with
  | zero =>
    intro k x hx hk
    obtain ⟨k,rfl⟩ : ∃ m,k = m + 1 := ⟨k - 1,by omega⟩
    rw [laws_sameLists.l0,if_neg (by omega)]
  | succ d ih =>
    intro k x hx hk
    obtain ⟨k,rfl⟩ : ∃ m,k = m + 1 := ⟨k - 1,by omega⟩
    have hm : rd_L2 r (x : Int) ∈ r := by
      unfold rd_L2
      rw [Int.toNat_natCast,List.getD_eq_getElem?_getD,List.getElem?_eq_getElem (show x < r.length by omega)]
      exact List.getElem_mem _
    have := hr _ hm
    rw [laws_sameLists.l0,if_pos (by omega),if_pos (Int.natCast_nonneg _),if_pos (by omega),same_ints _ (by omega) (by omega),Option.bind_some,if_pos rfl,wrap64_succ (by omega)]
    exact ih k (x + 1) (by omega) (by omega)
theorem same_lists (r : List (List Int)) {k : Nat} (hl : r.length < 1000) (hr : ∀ l ∈ r,l.length < 1000) (hk : 3000 < k) : laws_sameLists.f k r r = some true := by
  unfold laws_sameLists.f
  rw [if_pos rfl]
  exact sameL_loop r hl hr r.length k 0 (by omega) (by omega)
theorem rd_profL {w m k : Nat} (h : k < m) : rd (profL w m) (k : Int) = ((bitN w (2 ^ k - 1) : Nat) : Int) := by rw [rd_cast',profL_get h]
theorem symI_profL {n w : Nat} (ht : Tab n w) (hs : sym n w = true) : symI (profL w (n + 1)) = ((n : Int),(w : Int),true) := by
  have hn := ht.1
  unfold symI
  rw [profL_length]
  have hb : exN (fun i => impl_SymmetricTable.bad (rd (profL w (n + 1)) i)) (n + 1) = false := by
    cases hx : exN (fun i => impl_SymmetricTable.bad (rd (profL w (n + 1)) i)) (n + 1) with
    | false => rfl
    | true =>
      obtain ⟨i,hi,hbad⟩ := exN_iff.mp hx
      rw [rd_profL hi] at hbad
      have := bitN_le w (2 ^ i - 1)
      unfold impl_SymmetricTable.bad at hbad
      rw [decide_eq_true (by omega)] at hbad
      cases hbad
  have he : tabN (profT (profL w (n + 1))) (2 ^ (n + 1 - 1)) = w := by
    rw [Nat.add_sub_cancel]
    refine Eq.trans (tabN_congr fun x hx => ?_) (tabN_testBit ht.2)
    unfold profT
    have hp := pop_le hn hx
    rw [rd_profL (by omega)]
    have hsx := allN_iff.mp hs x hx
    unfold symAt at hsx
    rw [beq_iff_eq] at hsx
    rw [hsx]
    unfold bitN
    generalize w.testBit (2 ^ pop x - 1) = b
    cases b <;> rfl
  rw [if_pos ⟨by omega,hb⟩,he,Nat.add_sub_cancel]
theorem swp_mid : ∀ x : Fin 32,∀ h a b : Fin 5,h.val = a.val ∨ h.val = b.val ∨ a.val = b.val ∨ swp x.val a.val b.val = swp (swp (swp x.val h.val a.val) h.val b.val) h.val a.val := by decide +kernel
theorem swp_same : ∀ x : Fin 32,∀ a : Fin 5,swp x.val a.val a.val = x.val := by decide +kernel
theorem swp_comm : ∀ x : Fin 32,∀ a b : Fin 5,swp x.val a.val b.val = swp x.val b.val a.val := by decide +kernel
theorem exch_at {n w i k x : Nat} (h : exch n w i k = true) (hx : x < 2 ^ n) : w.testBit x = w.testBit (swp x i k) := beq_iff_eq.mp (allN_iff.mp h x hx)
theorem exch_of {n w h a b : Nat} (hn : n ≤ 5) (hh : h < n) (ha : a < n) (hb : b < n) (h1 : exch n w h a = true) (h2 : exch n w h b = true) : exch n w a b = true := by
  have hp := pow_le hn
  refine allN_iff.mpr fun x hx => beq_iff_eq.mpr ?_
  rcases swp_mid ⟨x,by omega⟩ ⟨h,by omega⟩ ⟨a,by omega⟩ ⟨b,by omega⟩ with e | e | e | e
  · have e : h = a := e
    subst e;exact exch_at h2 hx
  · have e : h = b := e
    subst e
    have := swp_comm ⟨x,by omega⟩ ⟨a,by omega⟩ ⟨h,by omega⟩
    dsimp only at this
    rw [this];exact exch_at h1 hx
  · have e : a = b := e
    subst e
    have := swp_same ⟨x,by omega⟩ ⟨a,by omega⟩
    dsimp only at this
    rw [this]
  · dsimp only at e
    have y1 := swp_lt (i := h) (k := a) hx hh ha
    have y2 := swp_lt (i := h) (k := b) y1 hh hb
    rw [e,exch_at h1 hx,exch_at h2 y1,exch_at h1 y2]
theorem exch_self {n w a : Nat} (hn : n ≤ 5) (ha : a < n) : exch n w a a = true := by
  have hp := pow_le hn
  refine allN_iff.mpr fun x hx => beq_iff_eq.mpr ?_
  have := swp_same ⟨x,by omega⟩ ⟨a,by omega⟩
  dsimp only at this
  rw [this]
theorem exch_sym {n w i k : Nat} (hn : n ≤ 5) (hs : sym n w = true) (hi : i < n) (hk : k < n) : exch n w i k = true := by
  have hp := pow_le hn
  refine allN_iff.mpr fun x hx => ?_
  have e1 := allN_iff.mp hs x hx
  have e2 := allN_iff.mp hs (swp x i k) (swp_lt hx hi hk)
  unfold symAt at e1 e2
  rw [beq_iff_eq] at e1 e2 ⊢
  rw [e1,e2,pop_swp (by omega) (by omega) (by omega)]
def GrpIn (ex : Int → Int → Bool) (i : Nat) (xs : List (List Int)) : Prop := ∀ l ∈ xs,∃ h : Nat,h < i ∧ rd l 0 = h ∧ ∀ y : Nat,y < l.length → ∃ z : Nat,z < i ∧ rd l (y : Int) = z ∧ (y = 0 ∨ ex (h : Int) (z : Int) = true)
theorem rd_app {l : List Int} {z : Int} {y : Nat} (h : y < l.length) : rd (l ++ [z]) (y : Int) = rd l (y : Int) := by
  rw [rd_cast',rd_cast',List.getD_eq_getElem?_getD,List.getD_eq_getElem?_getD,List.getElem?_append_left h]
theorem rd_end (l : List Int) (z : Int) : rd (l ++ [z]) ((l.length : Nat) : Int) = z := by
  rw [rd_cast',List.getD_eq_getElem?_getD,List.getElem?_append_right (Nat.le_refl _)]
  simp
theorem grpIn_mono {ex : Int → Int → Bool} {i : Nat} {xs : List (List Int)} (h : GrpIn ex i xs) : GrpIn ex (i + 1) xs := fun l hl => by
  obtain ⟨a,ha,e,hy⟩ := h l hl
  exact ⟨a,by omega,e,fun y hyl => by obtain ⟨z,hz,e2,e3⟩ := hy y hyl;exact ⟨z,by omega,e2,e3⟩⟩
theorem grpPut_in (ex : Int → Int → Bool) (i : Nat) : ∀ xs : List (List Int),(∀ l ∈ xs,0 < l.length) → GrpIn ex i xs → GrpIn ex (i + 1) (grpPut ex (i : Int) xs) := by
  intro xs
  induction xs with
  | nil =>
    intro _ _ l hl
    rw [grpPut,List.mem_singleton] at hl
    subst hl
    refine ⟨i,by omega,rfl,fun y hy => ⟨i,by omega,?_,.inl ?_⟩⟩
    · have : y = 0 := by simpa using hy
      subst this;rfl
    · simpa using hy
  | cons a xs ih =>
    intro h0 h
    have hm := grpIn_mono h
    rw [grpPut]
    split
    next hex =>
      intro l hl
      rcases List.mem_cons.mp hl with rfl | hl
      · obtain ⟨b,hb,e,hy⟩ := h a (List.mem_cons_self ..)
        have ha0 := h0 a (List.mem_cons_self ..)
        refine ⟨b,by omega,by rw [rd_zero ha0];exact e,fun y hyl => ?_⟩
        rw [List.length_append,List.length_singleton] at hyl
        by_cases hya : y < a.length
        · obtain ⟨z,hz,e2,e3⟩ := hy y hya
          exact ⟨z,by omega,by rw [rd_app hya];exact e2,e3⟩
        · obtain rfl : y = a.length := by omega
          refine ⟨i,by omega,rd_end a _,.inr ?_⟩
          rw [e] at hex
          exact hex
      · exact hm l (List.mem_cons_of_mem _ hl)
    next =>
      intro l hl
      rcases List.mem_cons.mp hl with rfl | hl
      · exact hm _ (List.mem_cons_self ..)
      · exact ih (fun l hl => h0 l (List.mem_cons_of_mem _ hl)) (fun l hl => h l (List.mem_cons_of_mem _ hl)) l hl
theorem grpN_in (ex : Int → Int → Bool) : ∀ i : Nat,GrpIn ex i (grpN ex i) := by
  intro i
  induction i with
  | zero => intro l hl;cases hl
  | succ i ih => exact grpPut_in ex i _ (fun l hl => ((grpN_ok ex i).2 l hl).1) ih
def sumL : List (List Int) → Nat
  | [] => 0
  | l :: ls => l.length + sumL ls
theorem grpPut_sum (ex : Int → Int → Bool) (i : Int) : ∀ xs : List (List Int),sumL (grpPut ex i xs) = sumL xs + 1 := by
  intro xs
  induction xs with
  | nil => rfl
  | cons a xs ih =>
    rw [grpPut]
    split
    · simp only [sumL,List.length_append,List.length_singleton];omega
    · simp only [sumL,ih];omega
theorem grpN_sum (ex : Int → Int → Bool) : ∀ i : Nat,sumL (grpN ex i) = i := by
  intro i
  induction i with
  | zero => rfl
  | succ i ih => rw [grpN,grpPut_sum,ih]
theorem grpN_one {ex : Int → Int → Bool} {n : Nat} (h : ∀ x y : Nat,x < n → y < n → ex x y = true) : ∀ i : Nat,i < n → (grpN ex (i + 1)).length = 1 := by
  intro i
  induction i with
  | zero => intro _;rfl
  | succ i ih =>
    intro hi
    have hl := ih (by omega)
    have hok := (grpN_ok ex (i + 1)).2
    rw [grpN]
    generalize grpN ex (i + 1) = xs at hl hok
    match xs,hl with
    | [l],_ =>
      obtain ⟨_,_,y,hy,hyi⟩ := hok l (List.mem_cons_self ..)
      rw [grpPut,hy,if_pos (h y (i + 1) (by omega) (by omega))]
      rfl
theorem grp_neighbours {n w : Nat} (hn : n ≤ 5) (ht : isTab n w = true) {l : List Int} (hl : l ∈ grpN (exchB n w) n) {y : Nat} (h1 : 1 ≤ y) (h2 : y < l.length) : exchB n w (rd l ((y - 1 : Nat) : Int)) (rd l (y : Int)) = true := by
  obtain ⟨h,hh,e0,hy⟩ := grpN_in (exchB n w) n l hl
  obtain ⟨a,ha,ea,xa⟩ := hy (y - 1) (by omega)
  obtain ⟨b,hb,eb,xb⟩ := hy y h2
  have get : ∀ z : Nat,z < n → exchB n w (h : Int) (z : Int) = true → exch n w h z = true := fun z hz hx => by
    unfold exchB at hx
    rw [ht,decide_eq_true (by omega),decide_eq_true (by omega)] at hx
    simpa using hx
  have kb : exch n w h b = true := by
    rcases xb with e | e
    · omega
    · exact get b hb e
  have ka : exch n w h a = true := by
    rcases xa with e | e
    · rw [e] at ea
      have : a = h := by
        have h9 : rd l ((0 : Nat) : Int) = (h : Int) := e0
        rw [h9] at ea;omega
      rw [this];exact exch_self hn hh
    · exact get a ha e
  rw [ea,eb]
  unfold exchB
  rw [ht,decide_eq_true (by omega),decide_eq_true (by omega),Int.toNat_natCast,Int.toNat_natCast,Int.toNat_natCast,Int.toNat_natCast,exch_of hn hh ha hb ka kb]
  rfl
theorem cntN_or {p q : Nat → Bool} (m : Nat) (h : ∀ i,i < m → (p i && q i) = false) : cntN (fun i => p i || q i) m = cntN p m + cntN q m := by
  induction m with
  | zero => rfl
  | succ m ih =>
    have := ih (fun i hi => h i (by omega))
    have hm := h m (by omega)
    rw [cntN,cntN,cntN,this]
    cases hp : p m <;> cases hq : q m <;> rw [hp,hq] at hm <;> simp_all <;> omega
theorem cntN_none {p : Nat → Bool} (m : Nat) (h : ∀ i,i < m → p i = false) : cntN p m = 0 := by
  induction m with
  | zero => rfl
  | succ m ih => rw [cntN,ih (fun i hi => h i (by omega)),h m (by omega)];rfl
theorem cntN_at {a m : Nat} (h : a < m) : cntN (fun i => i == a) m = 1 := by
  induction m with
  | zero => omega
  | succ m ih =>
    rw [cntN]
    by_cases e : a = m
    · subst e
      rw [cntN_none a (fun i hi => by simp;omega)];simp
    · rw [ih (by omega),show (m == a) = false by simp;omega];rfl
theorem cntN_list (m : Nat) : ∀ L : List Nat,L.Nodup → (∀ a ∈ L,a < m) → cntN (fun i => L.contains i) m = L.length := by
  intro L
  induction L with
  | nil => intro _ _;exact cntN_none m (fun i _ => rfl)
  | cons a L ih =>
    intro hd hl
    rw [List.nodup_cons] at hd
    have e : (fun i => (a :: L).contains i) = fun i => (i == a) || L.contains i := by funext i;rw [List.contains_cons]
    rw [e,cntN_or m,cntN_at (hl a (List.mem_cons_self ..)),ih hd.2 (fun b hb => hl b (List.mem_cons_of_mem _ hb)),List.length_cons,Nat.add_comm]
    intro i _
    by_cases h : i = a
    · subst h
      rw [show L.contains i = false by simp only [List.contains_iff_mem,Bool.eq_false_iff,ne_eq];simpa using hd.1,Bool.and_false]
    · rw [show (i == a) = false by simp [h],Bool.false_and]
def symTab (n c : Nat) : Nat := tabN (fun x => c.testBit (pop x)) (2 ^ n)
def symTabs (n : Nat) : List Nat := (List.range (2 ^ (n + 1))).map (symTab n)
theorem symTabs_ok : ∀ n : Fin 5,(symTabs n.val).Nodup ∧ (symTabs n.val).length = 2 ^ (n.val + 1) ∧ ∀ a ∈ symTabs n.val,a < 2 ^ 2 ^ n.val ∧ sym n.val a = true := by decide +kernel
theorem sym_mem {n w : Nat} (ht : Tab n w) (hs : sym n w = true) : w ∈ symTabs n := by
  have hn := ht.1
  refine List.mem_map.mpr ⟨tabN (fun k => w.testBit (2 ^ k - 1)) (n + 1),List.mem_range.mpr (tabN_lt _ _),?_⟩
  unfold symTab
  refine Eq.trans (tabN_congr fun x hx => ?_) (tabN_testBit ht.2)
  have hp := pop_le hn hx
  rw [testBit_tabN,decide_eq_true (by omega),Bool.true_and]
  have hsx := allN_iff.mp hs x hx
  unfold symAt at hsx
  rw [beq_iff_eq] at hsx
  exact hsx.symm
theorem cnt_sym {n : Nat} (hn : n ≤ 4) : cntN (sym n) (2 ^ 2 ^ n) = 2 ^ (n + 1) := by
  obtain ⟨h1,h2,h3⟩ := symTabs_ok ⟨n,by omega⟩
  rw [← h2,← cntN_list (2 ^ 2 ^ n) (symTabs n) h1 (fun a ha => (h3 a ha).1)]
  refine cntN_congr fun w hw => ?_
  cases hc : (symTabs n).contains w with
  | true => exact (h3 w (by simpa using hc)).2
  | false =>
    cases hs : sym n w with
    | false => rfl
    | true =>
      have := sym_mem ⟨by omega,hw⟩ hs
      rw [show (symTabs n).contains w = true by simpa using this] at hc
      cases hc
theorem cntCountSymmetric_law (m : Int) : cntCountSymmetric m < 0 ∨ 0 ≤ m ∧ cntCountSymmetric m = shl .i64 2 m := by
  unfold cntCountSymmetric
  by_cases h : 0 ≤ m ∧ m ≤ 4
  · right
    rw [if_pos h]
    obtain ⟨n,rfl⟩ := Int.eq_ofNat_of_zero_le h.1
    have hn : n ≤ 4 := by omega
    refine ⟨h.1,?_⟩
    rw [Int.toNat_natCast,cnt_sym hn]
    have : ∀ n : Fin 5,((2 ^ (n.val + 1) : Nat) : Int) = shl .i64 2 (n.val : Int) := by decide +kernel
    exact this ⟨n,by omega⟩
  · left
    rw [if_neg h];decide
theorem sumLen_eq : ∀ xs : List (List Int),sumLen xs = sumL xs := by
  intro xs
  induction xs with
  | nil => rfl
  | cons a xs ih => rw [sumLen,sumL,ih]
theorem FnSymmetric (l : List Int) (_ : l.length ≤ maxLen) (hy : l.length * 1 ≤ 140737488351232) (_ : ∀ x ∈ l,(Lit.int .u8 x).wf = true) : ∃ k,laws_FnSymmetric.f k l = some true := by
  refine ⟨70000,?_⟩
  unfold laws_FnSymmetric.f
  refine if_pos ?_
  by_cases hb : (l.length : Int) > 1048576
  · left
    unfold laws_big.f
    rw [decide_eq_true hb]
  · right
    have hl : l.length ≤ 9223372036854775807 := by omega
    obtain ⟨a,u,hd,_,hu0,hu1⟩ := drawProfile_some (k := 70000) hl (by decide)
    obtain ⟨v,hv,hvl⟩ := drawSym_some (k := 70000) hl (by decide)
    obtain ⟨b1,b2,i,j,he,_,⟨hb0,hb1⟩,_⟩ := drawExch_some (k := 70000) hl (by decide)
    obtain ⟨m,hm,_⟩ := drawCount_some (k := 70000) hl (by decide)
    have hpl := prof_length a u
    obtain ⟨g1,g2⟩ := grpI_ok a u
    refine ⟨a,u,prof a u,isTab a u && sym a.toNat u.toNat,grpI a u,v,(symI v).1,(symI v).2.1,(symI v).2.2,b1,b2,i,j,exchB b1 b2 i j,m,cntCountSymmetric m,?_⟩
    exact {
      small := by unfold laws_big.f;rw [decide_eq_false hb]
      draw := hd
      prof := impl_prof hu0 hu1 (by decide)
      prof2 := spec_prof a u (by decide)
      qs := same_ints _ (by omega) (by omega)
      sym := impl_isSym hu0 hu1 (by decide)
      sym2 := spec_isSym a u (by decide)
      grp := impl_groups hu0 hu1
      grp2 := spec_groups a u (by decide)
      gs := same_lists _ (by omega) (fun r hr => by have := g2 r hr;omega) (by decide)
      len := by
        unfold U.prof
        cases h : (isTab a u && U.sym a.toNat u.toNat) with
        | true => rw [if_pos rfl,profL_length];exact (decide_eq_true (by omega)).symm
        | false => rw [if_neg (by decide)];rfl
      back := fun h => by
        have h2 := h
        rw [Bool.and_eq_true] at h2
        obtain ⟨n,w,rfl,rfl,ht⟩ := tab_of h2.1
        have hs : U.sym n w = true := h2.2
        have hn := ht.1
        unfold U.prof
        rw [if_pos h,Int.toNat_natCast,Int.toNat_natCast]
        refine ⟨?_,fun hpos => ?_⟩
        · rw [impl_sym _ (by rw [profL_length];omega),symI_profL ht hs]
        · unfold grpI
          rw [if_pos h2.1,Int.toNat_natCast]
          obtain ⟨p,rfl⟩ : ∃ p,n = p + 1 := ⟨n - 1,by omega⟩
          refine grpN_one (n := p + 1) (fun x y hx hy => ?_) p (by omega)
          unfold exchB
          rw [h2.1,decide_eq_true (by omega),decide_eq_true (by omega),Int.toNat_natCast,Int.toNat_natCast,Int.toNat_natCast,Int.toNat_natCast,exch_sym hn hs hx hy]
          rfl
      exch := fun r hr z hz => by
        rw [impl_exch hu0 hu1 _ _ (by decide)]
        have hm := rdL_in hr
        unfold grpI at hm hr hz ⊢
        cases hT : isTab a u with
        | false => rw [hT,if_neg (by decide)] at hr;cases hr
        | true =>
          obtain ⟨n,w,rfl,rfl,ht⟩ := tab_of hT
          rw [hT,if_pos rfl,Int.toNat_natCast] at hm hz
          rw [if_pos rfl,Int.toNat_natCast]
          have := grp_neighbours (y := z + 1) ht.1 hT hm (by omega) hz
          rw [Nat.add_sub_cancel] at this
          rw [this]
      short := ⟨by omega,fun r hr => by have := g2 r hr;omega⟩
      isT := ⟨isTab a u,spec_isTable _ _,fun hT => by
        obtain ⟨n,w,rfl,rfl,ht⟩ := tab_of hT
        unfold grpI
        rw [if_pos hT,sumLen_eq,Int.toNat_natCast,grpN_sum],fun h => by rw [Bool.and_eq_true] at h;exact h.1⟩
      dv := hv
      st := impl_sym v (by omega)
      st2 := spec_sym v (by omega) (by omega)
      de := he
      ex := impl_exch hb0 hb1 _ _ (by decide)
      ex2 := spec_exch _ _ _ _ (by decide)
      dc := hm
      ct := impl_CountSymmetric_some m
      ct2 := spec_CountSymmetric_some m (by decide)
      cnt := cntCountSymmetric_law m }
end Go.Proofs.Ythlajlhjofjmcaa.U
