/- Walks of Go functions and lemmas on what they compute, for the row of FnMatrices (a part of several): each call ends as the Lean function of its name tells; the conditions are those of each theorem. -/
import Derived.Test.YthlajlhjofjmcaaM1FnMatrices
import Derived.Test.YthlajlhjofjmcaaM2FnMatrices
import Derived.Test.YthlajlhjofjmcaaM3FnMatrices
import Derived.Test.YthlajlhjofjmcaaM4FnMatrices
import Derived.Test.YthlajlhjofjmcaaM6FnMatrices
import Derived.Test.YthlajlhjofjmcaaM7FnMatrices
import Derived.Test.YthlajlhjofjmcaaM8FnMatrices
import Derived.Test.YthlajlhjofjmcaaM9FnMatrices
import Derived.Test.YthlajlhjofjmcaaM10FnMatrices
import Derived.Test.YthlajlhjofjmcaaM11FnMatrices
import Derived.Test.YthlajlhjofjmcaaM12FnMatrices
import Derived.Test.YthlajlhjofjmcaaM13FnMatrices
import Derived.Test.YthlajlhjofjmcaaM14FnMatrices
namespace Go.Proofs.Ythlajlhjofjmcaa.U
open Go.RowKit Go.Proofs.YthlajlhjofjmcaaW.PrintWords Go.Proofs.YthlajlhjofjmcaaW.PrintLast Go.Proofs.YthlajlhjofjmcaaW.PrintMore Go.Proofs.Ythlajlhjofjmcaa.F Go.Proofs.Ythlajlhjofjmcaa.B
set_option linter.unusedVariables false
set_option linter.unusedSimpArgs false
def resW (m w i b : Nat) : Nat := tabN (fun x => w.testBit (ins x i b)) (2 ^ m)
end Go.Proofs.Ythlajlhjofjmcaa.U
namespace Go.Proofs.Ythlajlhjofjmcaa.U
open Go.RowKit Go.Proofs.YthlajlhjofjmcaaW.PrintWords Go.Proofs.YthlajlhjofjmcaaW.PrintLast Go.Proofs.YthlajlhjofjmcaaW.PrintMore Go.Proofs.Ythlajlhjofjmcaa.F Go.Proofs.Ythlajlhjofjmcaa.B
set_option linter.unusedVariables false
set_option linter.unusedSimpArgs false
end Go.Proofs.Ythlajlhjofjmcaa.U
namespace Go.Proofs.Ythlajlhjofjmcaa.U
open Go.RowKit Go.Proofs.YthlajlhjofjmcaaW.PrintWords Go.Proofs.YthlajlhjofjmcaaW.PrintLast Go.Proofs.YthlajlhjofjmcaaW.PrintMore Go.Proofs.Ythlajlhjofjmcaa.F Go.Proofs.Ythlajlhjofjmcaa.B
set_option linter.unusedVariables false
set_option linter.unusedSimpArgs false
end Go.Proofs.Ythlajlhjofjmcaa.U
namespace Go.Proofs.Ythlajlhjofjmcaa.U
open Go.RowKit Go.Proofs.YthlajlhjofjmcaaW.PrintWords Go.Proofs.YthlajlhjofjmcaaW.PrintLast Go.Proofs.YthlajlhjofjmcaaW.PrintMore Go.Proofs.Ythlajlhjofjmcaa.F Go.Proofs.Ythlajlhjofjmcaa.B
set_option linter.unusedVariables false
set_option linter.unusedSimpArgs false
set_option maxRecDepth 100000
end Go.Proofs.Ythlajlhjofjmcaa.U
namespace Go.Proofs.Ythlajlhjofjmcaa.U
open Go.RowKit Go.Proofs.YthlajlhjofjmcaaW.PrintWords Go.Proofs.YthlajlhjofjmcaaW.PrintLast Go.Proofs.YthlajlhjofjmcaaW.PrintMore Go.Proofs.Ythlajlhjofjmcaa.F Go.Proofs.Ythlajlhjofjmcaa.B
set_option linter.unusedVariables false
set_option linter.unusedSimpArgs false
set_option maxRecDepth 100000
end Go.Proofs.Ythlajlhjofjmcaa.U
namespace Go.Proofs.Ythlajlhjofjmcaa.U
open Go.RowKit Go.Proofs.YthlajlhjofjmcaaW.PrintWords Go.Proofs.YthlajlhjofjmcaaW.PrintLast Go.Proofs.YthlajlhjofjmcaaW.PrintMore Go.Proofs.Ythlajlhjofjmcaa.F Go.Proofs.Ythlajlhjofjmcaa.B
set_option linter.unusedVariables false
set_option linter.unusedSimpArgs false
def monoAt (n w i : Nat) : Bool := ldiff (resW (n - 1) w i 0) (resW (n - 1) w i 1) == 0
def mono (n w : Nat) : Bool := allN (monoAt n w) n
end Go.Proofs.Ythlajlhjofjmcaa.U
namespace Go.Proofs.Ythlajlhjofjmcaa.U
open Go.RowKit Go.Proofs.YthlajlhjofjmcaaW.PrintWords Go.Proofs.YthlajlhjofjmcaaW.PrintLast Go.Proofs.YthlajlhjofjmcaaW.PrintMore Go.Proofs.Ythlajlhjofjmcaa.F Go.Proofs.Ythlajlhjofjmcaa.B
set_option linter.unusedVariables false
set_option linter.unusedSimpArgs false
theorem bit_eq_one {w x : Nat} : ((((bitN w x : Nat) : Int)) = 1) ↔ w.testBit x = true := by
  rw [← bitN_eq_one]
  exact ⟨fun h => by exact_mod_cast h,fun h => by exact_mod_cast h⟩
theorem bitz {w x : Nat} : ((((bitN w x : Nat) : Int)) = 0) ↔ w.testBit x = false := by unfold bitN;cases w.testBit x <;> decide
theorem bitz_beq (w x : Nat) : ((((bitN w x : Nat) : Int)) == 0) = !w.testBit x := by unfold bitN;cases w.testBit x <;> rfl
def listN (f : Nat → Int) (n : Nat) : List Int := (List.range n).map f
theorem listN_length (f : Nat → Int) (n : Nat) : (listN f n).length = n := by simp [listN]
theorem listN_succ (f : Nat → Int) (n : Nat) : listN f (n + 1) = listN f n ++ [f n] := by simp [listN,List.range_succ]
theorem listN_get {f : Nat → Int} {n i : Nat} (h : i < n) : rd (listN f n) (i : Int) = f i := by
  unfold rd
  rw [Int.toNat_natCast]
  simp [listN,List.getD_eq_getElem?_getD,h]
theorem listN_congr {f g : Nat → Int} {n : Nat} (h : ∀ i,i < n → f i = g i) : listN f n = listN g n := by
  unfold listN
  exact List.map_congr_left fun i hi => h i (by simpa using hi)
theorem listN_const (c : Int) (n : Nat) : List.replicate n c = listN (fun _ => c) n := by
  apply List.ext_getElem
  · rw [List.length_replicate,listN_length]
  · intro j h1 h2
    simp [listN]
theorem same_loop (l : List Int) (hl : l.length < 1000000) : ∀ (d k x : Nat),x + d = l.length → d < k → laws_sameInts.l0 k l l (x : Nat) = some true := by
  intro d
  induction d with
  | zero =>
    intro k x hx hk
    obtain ⟨k,rfl⟩ : ∃ m,k = m + 1 := ⟨k - 1,by omega⟩
    rw [laws_sameInts.l0,if_neg (by omega)]
  | succ d ih =>
    intro k x hx hk
    obtain ⟨k,rfl⟩ : ∃ m,k = m + 1 := ⟨k - 1,by omega⟩
    rw [laws_sameInts.l0,if_pos (by omega),if_pos (Int.natCast_nonneg _),if_pos (by omega),if_pos rfl,wrap64_succ (by omega)]
    exact ih k (x + 1) (by omega) (by omega)
theorem same_ints (l : List Int) (hl : l.length < 1000000) {k : Nat} (hk : l.length < k) : laws_sameInts.f k l l = some true := by
  unfold laws_sameInts.f
  rw [if_pos rfl]
  exact same_loop l hl l.length k 0 (by omega) hk
def fresh (l : List Int) (i : Nat) : Bool := allN (fun k => rd l k != rd l i) i
theorem any_take (l : List Int) (x : Int) : ∀ m,m ≤ l.length → ((l.take m).map (Lit.int .i64)).any (fun y => y.sameKey (.int .i64 x)) = exN (fun k => rd l k == x) m := by
  intro m
  induction m with
  | zero => intro _;rfl
  | succ m ih =>
    intro h
    have hs : (Lit.int .i64 (rd l (m : Nat))).sameKey (.int .i64 x) = (rd l (m : Nat) == x) := by
      show decide (IntKind.i64 = IntKind.i64 ∧ rd l (m : Nat) = x) = _
      by_cases e : rd l (m : Nat) = x <;> simp [e]
    rw [exN,← ih (by omega),← hs,List.take_add_one,List.map_append,List.any_append,List.getElem?_eq_getElem (by omega)]
    congr 1
    unfold rd
    rw [Int.toNat_natCast,List.getD_eq_getElem?_getD,List.getElem?_eq_getElem (by omega)]
    simp
theorem keys_ok (l : List Int) (m : Nat) : ∀ x ∈ (l.take m).map (Lit.int .i64),WideAt.IsKeyLit x := fun x hx => by
  obtain ⟨_,_,rfl⟩ := List.mem_map.1 hx
  trivial
theorem size_S (l : List Int) : ∀ m,m ≤ l.length → Go.Maps.size (impl_DifferentRows.S l m) = cntN (fresh l) m := by
  intro m
  induction m with
  | zero => intro _;rfl
  | succ m ih =>
    intro h
    rw [impl_DifferentRows.S_succ l m (by omega),Go.Maps.size_put (D := impl_DifferentRows.S l m) (Go.Maps.tidy_setOf _ _ (keys_ok l m)),cntN,← ih (by omega)]
    have hh : Go.Maps.has (impl_DifferentRows.S l m) (.int .i64 (rd l (m : Nat))) = !fresh l m := by
      unfold impl_DifferentRows.S
      rw [Go.Maps.has_setOf _ _ _ (keys_ok l m),any_take l _ m (by omega)]
      apply Bool.eq_iff_iff.mpr
      rw [exN_iff,Bool.not_eq_true',Bool.eq_false_iff]
      constructor
      · rintro ⟨i,hi,e⟩ hf
        have := allN_iff.mp hf i hi
        rw [bne_iff_ne] at this
        exact this (beq_iff_eq.mp e)
      · intro hf
        apply Classical.byContradiction
        intro hn
        exact hf (allN_iff.mpr fun i hi => by
          rw [bne_iff_ne]
          intro e
          exact hn ⟨i,hi,beq_iff_eq.mpr e⟩)
    rw [hh]
    cases fresh l m <;> simp
theorem rows_inner (l : List Int) (hl : l.length < 1099511627776) {i c : Nat} (hi : i < l.length) (hc : c < 1099511627776) : ∀ (d k x : Nat),x + d = i →
    spec_DifferentRows.l1 (k + d + 1) l c i (allN (fun k => rd l k != rd l i) x) x = spec_DifferentRows.l0 k l ((c + (fresh l i).toNat : Nat) : Int) ((i + 1 : Nat) : Int) := by
  intro d
  induction d with
  | zero =>
    intro k x hx
    obtain rfl : x = i := by omega
    simp only [spec_DifferentRows.l1,Nat.add_zero]
    rw [if_neg (by omega),wrap64_succ (by omega),wrap64_succ (by omega)]
    show (if fresh l x = true then _ else _) = _
    cases fresh l x <;> simp
  | succ d ih =>
    intro k x hx
    have hi' := ih k (x + 1) (by omega)
    rw [allN] at hi'
    rw [show k + (d + 1) + 1 = (k + d + 1) + 1 by omega]
    simp only [spec_DifferentRows.l1]
    rw [if_pos (by omega),wrap64_succ (by omega)]
    cases ha : allN (fun k => rd l k != rd l i) x with
    | true =>
      rw [ha,Bool.true_and] at hi'
      rw [if_pos rfl,if_pos (by omega),if_pos (by omega),if_pos (by omega),if_pos (by omega)]
      exact hi'
    | false =>
      rw [ha,Bool.false_and] at hi'
      rw [if_neg (by decide)]
      exact hi'
theorem rows_outer (l : List Int) (hl : l.length < 1099511627776) : ∀ (d k i : Nat),i + d = l.length →
    spec_DifferentRows.l0 (k + d * (l.length + 2) + 1) l ((cntN (fresh l) i : Nat) : Int) i = some ((cntN (fresh l) l.length : Nat) : Int) := by
  intro d
  induction d with
  | zero =>
    intro k i hi
    obtain rfl : i = l.length := by omega
    simp only [spec_DifferentRows.l0,Nat.zero_mul,Nat.add_zero]
    rw [if_neg (by omega)]
  | succ d ih =>
    intro k i hi
    have hc := cntN_le (fresh l) i
    rw [show k + (d + 1) * (l.length + 2) + 1 = (((k + (l.length - i)) + d * (l.length + 2) + 1) + i + 1) + 1 by rw [Nat.succ_mul];omega]
    simp only [spec_DifferentRows.l0]
    rw [if_pos (by omega)]
    exact (rows_inner l hl (by omega) (by omega) i ((k + (l.length - i)) + d * (l.length + 2) + 1) 0 (by omega)).trans (ih (k + (l.length - i)) (i + 1) (by omega))
end Go.Proofs.Ythlajlhjofjmcaa.U
namespace Go.Proofs.Ythlajlhjofjmcaa.U
open Go.RowKit Go.Proofs.YthlajlhjofjmcaaW.PrintWords Go.Proofs.YthlajlhjofjmcaaW.PrintLast Go.Proofs.YthlajlhjofjmcaaW.PrintMore Go.Proofs.Ythlajlhjofjmcaa.F Go.Proofs.Ythlajlhjofjmcaa.B
set_option linter.unusedVariables false
set_option linter.unusedSimpArgs false
set_option maxRecDepth 100000
def splitI (a b s : Int) : Bool := isTab a b && decide (0 ≤ s ∧ s ≤ a)
theorem impl_isSplit {a b : Int} (s : Int) (h0 : -9223372036854775808 ≤ b) (h1 : b ≤ 9223372036854775807) : impl_isSplit.f a b s = some (splitI a b s) := by
  unfold impl_isSplit.f splitI
  rw [impl_isTable h0 h1,Option.bind_some]
  cases hT : isTab a b with
  | false => rfl
  | true =>
    rw [if_pos rfl,Bool.true_and]
    by_cases h : s ≥ 0
    · rw [if_pos h];congr 1;exact decide_eq_decide.mpr (by omega)
    · rw [if_neg h];congr 1;symm;exact decide_eq_false (by omega)
theorem split_of {a b s : Int} (h : splitI a b s = true) : ∃ t m w : Nat,a = ((t + m : Nat) : Int) ∧ b = w ∧ s = t ∧ Tab (t + m) w := by
  unfold splitI at h
  rw [Bool.and_eq_true] at h
  obtain ⟨n,w,rfl,rfl,ht⟩ := tab_of h.1
  have h2 := of_decide_eq_true h.2
  obtain ⟨t,rfl⟩ := Int.eq_ofNat_of_zero_le h2.1
  obtain ⟨m,rfl⟩ : ∃ m,n = t + m := ⟨n - t,by omega⟩
  exact ⟨t,m,w,rfl,rfl,rfl,ht⟩
def rowV (w s m a : Nat) : Nat := tabN (fun b => w.testBit (a + 2 ^ s * b)) (2 ^ m)
def rowsV (w s m : Nat) (n : Nat) : List Int := listN (fun a => ((rowV w s m a : Nat) : Int)) n
theorem at_lt {s m a b : Nat} (ha : a < 2 ^ s) (hb : b < 2 ^ m) : a + 2 ^ s * b < 2 ^ (s + m) := by
  rw [Nat.pow_add]
  have : 2 ^ s * (b + 1) ≤ 2 ^ s * 2 ^ m := Nat.mul_le_mul_left _ hb
  rw [Nat.mul_add] at this
  omega
theorem or_at {s a b : Nat} (ha : a < 2 ^ s) : a ||| b <<< s = a + 2 ^ s * b := by
  rw [Nat.shiftLeft_eq,Nat.mul_comm b,Nat.or_comm,← Nat.two_pow_add_eq_or_of_lt ha,Nat.add_comm]
theorem tab_step (w : Nat) (p : Nat → Nat) (b : Nat) : tabN (fun i => w.testBit (p i)) b ||| bitN w (p b) <<< b = tabN (fun i => w.testBit (p i)) (b + 1) := rfl
theorem spec_mat_l1 {w s m a : Nat} (ht : Tab (s + m) w) (ha : a < 2 ^ s) (L : List Int) (hL : L.length < 1000) : ∀ (d k b : Nat),b + d = 2 ^ m → d < k →
    spec_MatrixOf.l1 k s L a ((tabN (fun i => w.testBit (a + 2 ^ s * i)) b : Nat) : Int) b ((s + m : Nat) : Int) w = spec_MatrixOf.l0 (k - d - 1) s (L ++ [((rowV w s m a : Nat) : Int)]) ((a + 1 : Nat) : Int) ((s + m : Nat) : Int) w := by
  have hn := ht.1
  have hM := pow_le (n := s) (by omega)
  have hM2 := pow_le (n := m) (by omega)
  have hM3 := pow_le hn
  have em : wrap64 (((s + m : Nat) : Int) - (s : Int)) = (m : Int) := by rw [wrap64_of (by omega) (by omega)];omega
  intro d
  induction d with
  | zero =>
    intro k b hb hk
    obtain ⟨k,rfl⟩ : ∃ m,k = m + 1 := ⟨k - 1,by omega⟩
    obtain rfl : b = 2 ^ m := by omega
    simp only [spec_MatrixOf.l1]
    rw [em,if_pos (Int.natCast_nonneg _),shl1_of (by omega),if_neg (by omega),if_pos (by omega),wrap64_succ (by omega)]
    rfl
  | succ d ih =>
    intro k b hb hk
    obtain ⟨k,rfl⟩ : ∃ m,k = m + 1 := ⟨k - 1,by omega⟩
    have hat := at_lt ha (show b < 2 ^ m by omega)
    have hor := or_at (b := b) ha
    have hsh : b <<< s ≤ a ||| b <<< s := Nat.right_le_or
    have hc := @bitN_shl_lt w (a + 2 ^ s * b) b 32 (by omega)
    have hT := tabN_lt63 (fun i => w.testBit (a + 2 ^ s * i)) (show b ≤ 32 by omega)
    simp only [spec_MatrixOf.l1]
    rw [em,if_pos (Int.natCast_nonneg _),shl1_of (by omega),if_pos (by omega),if_pos (Int.natCast_nonneg _),shl_cast (by omega) (by omega),or_cast (by omega) (by omega),hor,if_pos (Int.natCast_nonneg _),if_pos (Int.natCast_nonneg _),bit_cast ht.lt63 (by omega),shl_cast (by omega) (by omega),or_cast hT (by omega),tab_step w (fun i => a + 2 ^ s * i) b,wrap64_succ (by omega),show k + 1 - (d + 1) - 1 = k - d - 1 by omega]
    exact ih k (b + 1) (by omega) (by omega)
theorem spec_mat_l0 {w s m : Nat} (ht : Tab (s + m) w) : ∀ (d k a : Nat),a + d = 2 ^ s → d * 40 + 1 < k →
    spec_MatrixOf.l0 k s (rowsV w s m a) a ((s + m : Nat) : Int) w = some (rowsV w s m (2 ^ s),true) := by
  have hn := ht.1
  have hM := pow_le (n := s) (by omega)
  have hM2 := pow_le (n := m) (by omega)
  intro d
  induction d with
  | zero =>
    intro k a ha hk
    obtain ⟨k,rfl⟩ : ∃ m,k = m + 1 := ⟨k - 1,by omega⟩
    obtain rfl : a = 2 ^ s := by omega
    simp only [spec_MatrixOf.l0]
    rw [if_pos (Int.natCast_nonneg _),shl1_of (by omega),if_neg (by omega)]
  | succ d ih =>
    intro k a ha hk
    obtain ⟨k,rfl⟩ : ∃ m,k = m + 1 := ⟨k - 1,by omega⟩
    have h1 := spec_mat_l1 ht (show a < 2 ^ s by omega) (rowsV w s m a) (by rw [rowsV,listN_length];omega) (2 ^ m) k 0 (by omega) (by omega)
    simp only [spec_MatrixOf.l0]
    rw [if_pos (Int.natCast_nonneg _),shl1_of (by omega),if_pos (by omega)]
    refine Eq.trans h1 ?_
    rw [rowsV,← listN_succ]
    exact ih (k - 2 ^ m - 1) (a + 1) (by omega) (by omega)
def matI (a b s : Int) : List Int × Bool := if splitI a b s = true then (rowsV b.toNat s.toNat (a - s).toNat (2 ^ s.toNat),true) else ([],false)
theorem matI_of {w s m : Nat} (ht : Tab (s + m) w) : matI ((s + m : Nat) : Int) w s = (rowsV w s m (2 ^ s),true) := by
  unfold matI
  rw [if_pos (by unfold splitI;rw [isTab_of ht,Bool.true_and];exact decide_eq_true ⟨by omega,by omega⟩),Int.toNat_natCast,Int.toNat_natCast,show (((s + m : Nat) : Int) - (s : Int)).toNat = m by omega]
theorem spec_matrix (a b s : Int) {k : Nat} (hk : 2000 < k) : spec_MatrixOf.f k a b s = some (matI a b s) := by
  obtain ⟨k,rfl⟩ : ∃ m,k = m + 1 := ⟨k - 1,by omega⟩
  have hj : ∀ x20 : Bool,x20 = !(splitI a b s) → spec_MatrixOf.j0 (k + 1) s [] x20 a b = some (matI a b s) := by
    intro x20 hx
    simp only [spec_MatrixOf.j0]
    cases hS : splitI a b s with
    | false => rw [hx,hS,Bool.not_false,if_pos rfl];unfold matI;rw [hS,if_neg (by decide)]
    | true =>
      rw [hx,hS,Bool.not_true,if_neg (by decide)]
      obtain ⟨t,m,w,rfl,rfl,rfl,ht⟩ := split_of hS
      rw [matI_of ht]
      have := pow_le (n := t) (by have := ht.1;omega)
      exact spec_mat_l0 ht (2 ^ t) k 0 (by omega) (by omega)
  unfold spec_MatrixOf.f
  rw [Option.bind_some,spec_isTable,Option.bind_some]
  cases hT : isTab a b with
  | false => rw [if_neg (by decide)];exact hj _ (by unfold splitI;rw [hT];rfl)
  | true =>
    rw [if_pos rfl,l1In_some _ _ _ _ rfl,Option.bind_some]
    exact hj _ (by unfold splitI;rw [hT,Bool.true_and])
def partV (w s m x a : Nat) : Nat := tabN (fun b => decide (a + 2 ^ s * b < x) && w.testBit (a + 2 ^ s * b)) (2 ^ m)
theorem partV_lt63 {w s m x a : Nat} (h : m ≤ 5) : partV w s m x a < 9223372036854775808 := tabN_lt63 _ (pow_le h)
theorem part_step {w s m x : Nat} (hx : x < 2 ^ (s + m)) : partV w s m x (x % 2 ^ s) ||| bitN w x <<< (x / 2 ^ s) = partV w s m (x + 1) (x % 2 ^ s) := by
  have hp := pow_pos s
  have hd : x / 2 ^ s < 2 ^ m := by rw [Nat.div_lt_iff_lt_mul hp,Nat.mul_comm,← Nat.pow_add];exact hx
  have e : x % 2 ^ s + 2 ^ s * (x / 2 ^ s) = x := Nat.mod_add_div x (2 ^ s)
  refine word_ext (m := 2 ^ m) (Nat.or_lt_two_pow (tabN_lt _ _) (bitN_shl_lt hd)) (tabN_lt _ _) fun y hy => ?_
  rw [Nat.testBit_or,partV,partV,testBit_tabN,testBit_tabN,testBit_bitN_shl,decide_eq_true hy,Bool.true_and,Bool.true_and]
  by_cases h : y = x / 2 ^ s
  · subst h
    rw [e,decide_eq_false (Nat.lt_irrefl x),decide_eq_true (Nat.lt_succ_self x),Bool.false_and,Bool.false_or,decide_eq_true rfl]
  · rw [decide_eq_false h,Bool.false_and,Bool.or_false]
    have hne : x % 2 ^ s + 2 ^ s * y ≠ x := by
      intro q
      rw [← e] at q
      have q2 : 2 ^ s * y = 2 ^ s * (x / 2 ^ s) := by
        have := congrArg (fun z => z) q
        rw [Nat.add_mod,Nat.mul_mod_right,Nat.mod_mod,Nat.add_zero,Nat.mod_mod] at q
        omega
      exact h (Nat.eq_of_mul_eq_mul_left hp q2)
    congr 1
    exact decide_eq_decide.mpr (by omega)
theorem part_other {w s m x a : Nat} (ha : a < 2 ^ s) (h : a ≠ x % 2 ^ s) : partV w s m (x + 1) a = partV w s m x a := by
  refine tabN_congr fun y _ => ?_
  congr 1
  have hne : a + 2 ^ s * y ≠ x := by
    intro q
    apply h
    rw [← q,Nat.add_mul_mod_self_left,Nat.mod_eq_of_lt ha]
  exact decide_eq_decide.mpr (by omega)
def partsV (w s m x : Nat) : List Int := listN (fun a => ((partV w s m x a : Nat) : Int)) (2 ^ s)
theorem parts_step {w s m x : Nat} (hx : x < 2 ^ (s + m)) : (partsV w s m x).set (x % 2 ^ s) ((partV w s m (x + 1) (x % 2 ^ s) : Nat) : Int) = partsV w s m (x + 1) := by
  unfold partsV
  apply List.ext_getElem
  · rw [List.length_set,listN_length,listN_length]
  · intro j h1 h2
    rw [listN_length] at h2
    rw [List.getElem_set]
    by_cases e : x % 2 ^ s = j
    · subst e;rw [if_pos rfl];simp [listN]
    · rw [if_neg e];simp only [listN,List.getElem_map,List.getElem_range];rw [part_other h2 (Ne.symm e)]
theorem impl_mat_l0 {w s m : Nat} (ht : Tab (s + m) w) : ∀ (d k x : Nat),x + d = 2 ^ (s + m) → d < k →
    impl_Table_rows.l0 k s (partsV w s m x) ((2 ^ (s + m) : Nat) : Int) x ((s + m : Nat) : Int) w = some (partsV w s m (2 ^ (s + m))) := by
  have hn := ht.1
  have hM := pow_le (n := s) (by omega)
  have hM2 := pow_le (n := m) (by omega)
  have hM3 := pow_le hn
  have hp := pow_pos s
  intro d
  induction d with
  | zero =>
    intro k x hx hk
    obtain ⟨k,rfl⟩ : ∃ m,k = m + 1 := ⟨k - 1,by omega⟩
    obtain rfl : x = 2 ^ (s + m) := by omega
    simp only [impl_Table_rows.l0]
    rw [if_neg (by omega)]
  | succ d ih =>
    intro k x hx hk
    obtain ⟨k,rfl⟩ : ∃ m,k = m + 1 := ⟨k - 1,by omega⟩
    have hxl : x < 2 ^ (s + m) := by omega
    have hmod : x % 2 ^ s < 2 ^ s := Nat.mod_lt _ hp
    have hdiv : x / 2 ^ s ≤ x := Nat.div_le_self _ _
    have hdl : x / 2 ^ s < 32 := by omega
    have hc := @bitN_shl_lt w x (x / 2 ^ s) 32 hdl
    have eand : Go.bits .and .i64 (x : Int) (wrap64 (shl .i64 1 (s : Int) - 1)) = ((x % 2 ^ s : Nat) : Int) := by
      rw [shl1_of (by omega),show wrap64 (((2 ^ s : Nat) : Int) - 1) = ((2 ^ s - 1 : Nat) : Int) by rw [wrap64_of (by omega) (by omega)];omega,and_cast (by omega) (by omega),Nat.and_two_pow_sub_one_eq_mod]
    have eshr : shr .i64 (x : Int) (s : Int) = ((x / 2 ^ s : Nat) : Int) := by rw [shr_cast _ _ (by omega),Nat.shiftRight_eq_div_pow]
    have hr : rd (partsV w s m x) ((x % 2 ^ s : Nat) : Int) = ((partV w s m x (x % 2 ^ s) : Nat) : Int) := listN_get hmod
    simp only [impl_Table_rows.l0]
    rw [if_pos (by omega),if_pos (Int.natCast_nonneg _),eand,if_pos (Int.natCast_nonneg _),if_pos (by rw [partsV,listN_length];omega),at_some' ht.lt63 (by omega),Option.bind_some,eshr,if_pos (Int.natCast_nonneg _),shl_cast (by omega) (by omega),hr,or_cast (partV_lt63 (by omega)) (by omega),part_step hxl,Int.toNat_natCast,parts_step hxl,wrap64_succ (by omega)]
    exact ih k (x + 1) (by omega) (by omega)
theorem impl_rows {w s m k : Nat} (ht : Tab (s + m) w) (hk : 40 < k) : impl_Table_rows.f k ((s + m : Nat) : Int) w s = some (rowsV w s m (2 ^ s)) := by
  have hn := ht.1
  have hM := pow_le (n := s) (by omega)
  have hM3 := pow_le hn
  unfold impl_Table_rows.f
  rw [if_pos (Int.natCast_nonneg _),shl1_of (by omega),if_pos (Int.natCast_nonneg _),Int.toNat_natCast,if_pos (by omega),size_some _ (by omega),Option.bind_some]
  have e0 : List.replicate (2 ^ s) (0 : Int) = partsV w s m 0 := by
    rw [listN_const]
    refine listN_congr fun a _ => ?_
    have : partV w s m 0 a = tabN (fun _ => false) (2 ^ m) := tabN_congr fun _ _ => by simp
    have z : ∀ q,tabN (fun _ => false) q = 0 := by intro q;induction q with
      | zero => rfl
      | succ q ih => rw [tabN_false rfl,ih]
    rw [this,z];rfl
  have e1 : partsV w s m (2 ^ (s + m)) = rowsV w s m (2 ^ s) := by
    unfold partsV rowsV
    refine listN_congr fun a ha => ?_
    congr 1
    refine tabN_congr fun b hb => ?_
    rw [decide_eq_true (at_lt ha hb),Bool.true_and]
  rw [e0,← e1]
  exact impl_mat_l0 ht (2 ^ (s + m)) k 0 (by omega) (by omega)
theorem impl_matrix {a b : Int} (s : Int) (h0 : -9223372036854775808 ≤ b) (h1 : b ≤ 9223372036854775807) {k : Nat} (hk : 40 < k) : impl_MatrixOf.f k a b s = some (matI a b s) := by
  unfold impl_MatrixOf.f
  rw [impl_isSplit s h0 h1,Option.bind_some]
  cases hS : splitI a b s with
  | false => rw [if_neg (by decide)];unfold matI;rw [hS,if_neg (by decide)]
  | true =>
    obtain ⟨t,m,w,rfl,rfl,rfl,ht⟩ := split_of hS
    rw [if_pos rfl,impl_rows ht hk,Option.bind_some,matI_of ht]
theorem matI_length (a b s : Int) : (matI a b s).1.length ≤ 32 := by
  cases hS : splitI a b s with
  | false => unfold matI;rw [hS,if_neg (by decide)];exact Nat.zero_le _
  | true =>
    obtain ⟨t,m,w,rfl,rfl,rfl,ht⟩ := split_of hS
    rw [matI_of ht]
    show (rowsV w t m (2 ^ t)).length ≤ 32
    rw [rowsV,listN_length]
    exact pow_le (by have := ht.1;omega)
end Go.Proofs.Ythlajlhjofjmcaa.U
namespace Go.Proofs.Ythlajlhjofjmcaa.U
open Go.RowKit Go.Proofs.YthlajlhjofjmcaaW.PrintWords Go.Proofs.YthlajlhjofjmcaaW.PrintLast Go.Proofs.YthlajlhjofjmcaaW.PrintMore Go.Proofs.Ythlajlhjofjmcaa.F Go.Proofs.Ythlajlhjofjmcaa.B
set_option linter.unusedVariables false
set_option linter.unusedSimpArgs false
def noInp (n : Nat) (x : Int) : Bool := !decide (0 ≤ x ∧ x < ((2 ^ n : Nat) : Int))
theorem isInput_some {n : Nat} (hn : n ≤ 5) (x : Int) : impl_isInput.f n x = some (!noInp n x) := by
  have hM := pow_le hn
  unfold impl_isInput.f noInp
  rw [Bool.not_not]
  by_cases h : x ≥ 0
  · rw [if_pos h,if_pos (Int.natCast_nonneg _),shl1_of (by omega)];congr 1;exact decide_eq_decide.mpr (by omega)
  · rw [if_neg h];congr 1;symm;exact decide_eq_false (by omega)
end Go.Proofs.Ythlajlhjofjmcaa.U
namespace Go.Proofs.Ythlajlhjofjmcaa.U
open Go.RowKit Go.Proofs.YthlajlhjofjmcaaW.PrintWords Go.Proofs.YthlajlhjofjmcaaW.PrintLast Go.Proofs.YthlajlhjofjmcaaW.PrintMore Go.Proofs.Ythlajlhjofjmcaa.F Go.Proofs.Ythlajlhjofjmcaa.B
set_option linter.unusedVariables false
set_option linter.unusedSimpArgs false
set_option maxRecDepth 100000
theorem bad_eq {m : Nat} (hm : m ≤ 5) (r : Int) : impl_TableOfMatrix.bad m r = !decide (0 ≤ r ∧ r ≤ wrap64 (shl .i64 1 (shl .u64 1 (m : Int)) - 1)) := by
  have hM := pow_le hm
  have hF := full_le hm
  have hp := pow_pos (2 ^ m)
  rw [shlu1_of (by omega),shl1_of (by omega),wrap64_of (by omega) (by omega)]
  unfold impl_TableOfMatrix.bad
  by_cases h : r < 0
  · rw [decide_eq_true h,decide_eq_false (fun q => by omega)];rfl
  · obtain ⟨r,rfl⟩ := Int.eq_ofNat_of_zero_le (show 0 ≤ r by omega)
    rw [decide_eq_false h,Bool.false_or,show (2 : Int) ^ 2 ^ m = ((2 ^ 2 ^ m : Nat) : Int) by simp]
    generalize 2 ^ 2 ^ m = F at hF hp
    by_cases hq : r < F
    · rw [decide_eq_true ⟨by omega,by omega⟩,show ((r : Int) / (F : Int)) = ((r / F : Nat) : Int) by simp,Nat.div_eq_of_lt hq];rfl
    · rw [decide_eq_false (fun q => by omega),show ((r : Int) / (F : Int)) = ((r / F : Nat) : Int) by simp,Bool.not_false,bne_iff_ne]
      intro q
      have : r / F = 0 := by exact_mod_cast q
      rw [Nat.div_eq_zero_iff] at this
      omega
def wordT (l : List Int) (s m a b : Nat) : Nat := tabN (fun x => (decide (x % 2 ^ s < a) || (decide (x % 2 ^ s = a) && decide (x / 2 ^ s < b))) && (rd l ((x % 2 ^ s : Nat) : Int)).toNat.testBit (x / 2 ^ s)) (2 ^ (s + m))
theorem place_iff {s a b y : Nat} (ha : a < 2 ^ s) : y = a + 2 ^ s * b ↔ y % 2 ^ s = a ∧ y / 2 ^ s = b := by
  constructor
  · rintro rfl
    exact ⟨by rw [Nat.add_mul_mod_self_left,Nat.mod_eq_of_lt ha],by rw [Nat.add_mul_div_left _ _ (pow_pos s),Nat.div_eq_of_lt ha,Nat.zero_add]⟩
  · rintro ⟨rfl,rfl⟩
    exact (Nat.mod_add_div y (2 ^ s)).symm
theorem place_lt {s m a b : Nat} (ha : a < 2 ^ s) (hb : b < 2 ^ m) : a + 2 ^ s * b < 2 ^ (s + m) := by
  rw [Nat.pow_add]
  have : 2 ^ s * (b + 1) ≤ 2 ^ s * 2 ^ m := Nat.mul_le_mul_left _ hb
  rw [Nat.mul_add] at this
  omega
theorem place_or {s a b : Nat} (ha : a < 2 ^ s) : a ||| b <<< s = a + 2 ^ s * b := by
  rw [Nat.shiftLeft_eq,Nat.mul_comm b,Nat.or_comm,← Nat.two_pow_add_eq_or_of_lt ha,Nat.add_comm]
theorem word_step {l : List Int} {s m a b : Nat} (ha : a < 2 ^ s) (hb : b < 2 ^ m) : wordT l s m a b ||| bitN (rd l a).toNat b <<< (a + 2 ^ s * b) = wordT l s m a (b + 1) := by
  refine word_ext (m := 2 ^ (s + m)) (Nat.or_lt_two_pow (tabN_lt _ _) (bitN_shl_lt (place_lt ha hb))) (tabN_lt _ _) fun y hy => ?_
  rw [Nat.testBit_or,wordT,wordT,testBit_tabN,testBit_tabN,testBit_bitN_shl,decide_eq_true hy,Bool.true_and,Bool.true_and]
  by_cases h : y = a + 2 ^ s * b
  · obtain ⟨h1,h2⟩ := (place_iff ha).mp h
    rw [decide_eq_true h,h1,h2,decide_eq_false (Nat.lt_irrefl a),decide_eq_false (Nat.lt_irrefl b),decide_eq_true rfl,decide_eq_true (Nat.lt_succ_self b)]
    simp
  · rw [decide_eq_false h,Bool.false_and,Bool.or_false]
    have hn : ¬ (y % 2 ^ s = a ∧ y / 2 ^ s = b) := fun q => h ((place_iff ha).mpr q)
    congr 2
    by_cases h1 : y % 2 ^ s = a
    · rw [decide_eq_true h1,Bool.true_and,Bool.true_and]
      exact decide_eq_decide.mpr (by omega)
    · rw [decide_eq_false h1,Bool.false_and,Bool.false_and]
theorem word_next {l : List Int} {s m a : Nat} : wordT l s m a (2 ^ m) = wordT l s m (a + 1) 0 := by
  refine tabN_congr fun y hy => ?_
  have hd : y / 2 ^ s < 2 ^ m := by rw [Nat.div_lt_iff_lt_mul (pow_pos s),Nat.mul_comm,← Nat.pow_add];exact hy
  rw [decide_eq_true hd,Bool.and_true,decide_eq_false (Nat.not_lt_zero (y / 2 ^ s)),Bool.and_false,Bool.or_false]
  congr 1
  apply Bool.eq_iff_iff.mpr
  simp
  omega
theorem word_zero {l : List Int} {s m : Nat} : wordT l s m 0 0 = 0 := by
  have h : wordT l s m 0 0 = tabN (fun _ => false) (2 ^ (s + m)) := tabN_congr fun y _ => by simp
  have z : ∀ q,tabN (fun _ => false) q = 0 := by intro q;induction q with
    | zero => rfl
    | succ q ih => rw [tabN_false rfl,ih]
  rw [h,z]
def tomI (l : List Int) (s m : Nat) : Int × Int × Bool := if exN (fun i => impl_TableOfMatrix.bad m (rd l i)) l.length = true then (0,0,false) else (((s + m : Nat) : Int),((tabN (impl_TableOfMatrix.bit l s) (2 ^ (s + m)) : Nat) : Int),true)
theorem good_of {m : Nat} (hm : m ≤ 5) {r : Int} (h : impl_TableOfMatrix.bad m r = false) : ∃ v : Nat,r = v ∧ v < 2 ^ 2 ^ m := by
  have hM := pow_le hm
  have hF := full_le hm
  have hp := pow_pos (2 ^ m)
  rw [bad_eq hm,shlu1_of (by omega),shl1_of (by omega),wrap64_of (by omega) (by omega),Bool.not_eq_false'] at h
  have h := of_decide_eq_true h
  obtain ⟨v,rfl⟩ := Int.eq_ofNat_of_zero_le h.1
  exact ⟨v,rfl,by omega⟩
theorem word_all {l : List Int} {s m : Nat} (hm : m ≤ 5) (hl : l.length = 2 ^ s) (h : exN (fun i => impl_TableOfMatrix.bad m (rd l i)) l.length = false) : wordT l s m (2 ^ s) 0 = tabN (impl_TableOfMatrix.bit l s) (2 ^ (s + m)) := by
  refine tabN_congr fun y hy => ?_
  have hlt : y % 2 ^ s < 2 ^ s := Nat.mod_lt _ (pow_pos s)
  have hd : y / 2 ^ s < 2 ^ m := by rw [Nat.div_lt_iff_lt_mul (pow_pos s),Nat.mul_comm,← Nat.pow_add];exact hy
  rw [decide_eq_true hlt,Bool.true_or,Bool.true_and]
  have hb : impl_TableOfMatrix.bad m (rd l ((y % 2 ^ s : Nat) : Int)) = false := by
    cases hc : impl_TableOfMatrix.bad m (rd l ((y % 2 ^ s : Nat) : Int)) with
    | false => rfl
    | true => rw [exN_hit (p := fun i => impl_TableOfMatrix.bad m (rd l i)) (i := y % 2 ^ s) (by rw [hl];exact hlt) hc] at h;cases h
  obtain ⟨v,hv,hvl⟩ := good_of hm hb
  have hM := pow_le hm
  have hF := full_le hm
  unfold impl_TableOfMatrix.bit
  rw [hv,Int.toNat_natCast,bit_cast (by omega) (by omega)]
  unfold bitN
  cases v.testBit (y / 2 ^ s) <;> rfl
theorem spec_tom_l1 {l : List Int} {s m a v : Nat} (hsm : s + m ≤ 5) (hl : l.length = 2 ^ s) (ha : a < 2 ^ s) (hv : rd l a = v) (hvl : v < 4294967296) : ∀ (d k b : Nat),b + d = 2 ^ m → d < k →
    spec_TableOfMatrix.l1 k l ((s + m : Nat) : Int) s ((wordT l s m a b : Nat) : Int) a b = spec_TableOfMatrix.l0 (k - d - 1) l ((s + m : Nat) : Int) s ((wordT l s m (a + 1) 0 : Nat) : Int) ((a + 1 : Nat) : Int) := by
  have hM := pow_le (n := s) (by omega)
  have hM2 := pow_le (n := m) (by omega)
  have hM3 := pow_le hsm
  have em : wrap64 (((s + m : Nat) : Int) - (s : Int)) = (m : Int) := by rw [wrap64_of (by omega) (by omega)];omega
  intro d
  induction d with
  | zero =>
    intro k b hb hk
    obtain ⟨k,rfl⟩ : ∃ m,k = m + 1 := ⟨k - 1,by omega⟩
    obtain rfl : b = 2 ^ m := by omega
    simp only [spec_TableOfMatrix.l1]
    rw [em,if_pos (Int.natCast_nonneg _),shl1_of (by omega),if_neg (by omega),word_next,wrap64_succ (by omega)]
    rfl
  | succ d ih =>
    intro k b hb hk
    obtain ⟨k,rfl⟩ : ∃ m,k = m + 1 := ⟨k - 1,by omega⟩
    have hat := place_lt ha (show b < 2 ^ m by omega)
    have hor := place_or (b := b) ha
    have hsh : b <<< s ≤ a ||| b <<< s := Nat.right_le_or
    have hc := @bitN_shl_lt v b (a + 2 ^ s * b) 32 (by omega)
    have hT : wordT l s m a b < 9223372036854775808 := tabN_lt63 _ hM3
    have hw := word_step (l := l) ha (show b < 2 ^ m by omega)
    rw [hv,Int.toNat_natCast] at hw
    simp only [spec_TableOfMatrix.l1]
    rw [em,if_pos (Int.natCast_nonneg _),shl1_of (by omega),if_pos (by omega),if_pos (Int.natCast_nonneg _),if_pos (by omega),if_pos (Int.natCast_nonneg _),if_pos (Int.natCast_nonneg _),shl_cast (by omega) (by omega),or_cast (by omega) (by omega),hor,if_pos (Int.natCast_nonneg _),hv,bit_cast (by omega) (by omega),shl_cast (by omega) (by omega),or_cast hT (by omega),hw,wrap64_succ (by omega),show k + 1 - (d + 1) - 1 = k - d - 1 by omega]
    exact ih k (b + 1) (by omega) (by omega)
theorem spec_tom_l0 {l : List Int} {s m : Nat} (hsm : s + m ≤ 5) (hl : l.length = 2 ^ s) : ∀ (d k a : Nat),a + d = 2 ^ s → d * 40 + 1 < k → exN (fun i => impl_TableOfMatrix.bad m (rd l i)) a = false →
    spec_TableOfMatrix.l0 k l ((s + m : Nat) : Int) s ((wordT l s m a 0 : Nat) : Int) a = some (tomI l s m) := by
  have hM := pow_le (n := s) (by omega)
  have hM2 := pow_le (n := m) (by omega)
  have hF := full_le (n := m) (by omega)
  have em : wrap64 (((s + m : Nat) : Int) - (s : Int)) = (m : Int) := by rw [wrap64_of (by omega) (by omega)];omega
  intro d
  induction d with
  | zero =>
    intro k a ha hk hx
    obtain ⟨k,rfl⟩ : ∃ m,k = m + 1 := ⟨k - 1,by omega⟩
    obtain rfl : a = 2 ^ s := by omega
    rw [← hl] at hx
    simp only [spec_TableOfMatrix.l0]
    rw [if_neg (by omega),tomI,hx,if_neg (by decide),word_all (by omega) hl hx]
  | succ d ih =>
    intro k a ha hk hx
    obtain ⟨k,rfl⟩ : ∃ m,k = m + 1 := ⟨k - 1,by omega⟩
    simp only [spec_TableOfMatrix.l0]
    rw [if_pos (by omega),if_pos (Int.natCast_nonneg _),em,if_pos (Int.natCast_nonneg _),l1In_some _ _ _ _ rfl,Option.bind_some,← Bool.not_not (decide _),← bad_eq (by omega)]
    cases hb : impl_TableOfMatrix.bad m (rd l a) with
    | true =>
      rw [Bool.not_true,if_neg (by decide),tomI,exN_hit (p := fun i => impl_TableOfMatrix.bad m (rd l i)) (i := a) (by omega) hb,if_pos rfl]
    | false =>
      obtain ⟨v,hv,hvl⟩ := good_of (by omega) hb
      rw [Bool.not_false,if_pos rfl]
      have h1 := spec_tom_l1 (l := l) hsm hl (show a < 2 ^ s by omega) hv (by omega) (2 ^ m) k 0 (by omega) (by omega)
      refine Eq.trans h1 ?_
      exact ih _ (a + 1) (by omega) (by omega) (exN_skip hx hb)
def tomA (l : List Int) (n s : Int) : Int × Int × Bool := if impl_TableOfMatrix.ok n s l.length = true then tomI l s.toNat (n - s).toNat else (0,0,false)
theorem impl_tom (l : List Int) (n s : Int) (hl : l.length < 9223372036854775807) : impl_TableOfMatrix.f l n s = some (tomA l n s) := by
  unfold impl_TableOfMatrix.f tomA
  rw [if_pos hl]
  cases ho : impl_TableOfMatrix.ok n s l.length with
  | false => rw [if_neg (by decide),if_neg (by decide)]
  | true =>
    rw [if_pos rfl,if_pos rfl]
    have ho := of_decide_eq_true ho
    obtain ⟨n,rfl⟩ := Int.eq_ofNat_of_zero_le ho.1
    obtain ⟨s,rfl⟩ := Int.eq_ofNat_of_zero_le ho.2.2.1
    obtain ⟨m,rfl⟩ : ∃ m,n = s + m := ⟨n - s,by omega⟩
    rw [show (((s + m : Nat) : Int) - (s : Int)).toNat = m by omega,Int.toNat_natCast,Int.toNat_natCast]
    unfold tomI
    split <;> rfl
theorem spec_tom (l : List Int) (n s : Int) {k : Nat} (hk : 2000 < k) : spec_TableOfMatrix.f k l n s = some (tomA l n s) := by
  obtain ⟨k,rfl⟩ : ∃ m,k = m + 1 := ⟨k - 1,by omega⟩
  have hno : impl_TableOfMatrix.ok n s l.length = false → spec_TableOfMatrix.j0 (k + 1) l n s true = some (tomA l n s) := by
    intro h
    simp only [spec_TableOfMatrix.j0]
    rw [if_pos trivial,tomA,h,if_neg (by decide)]
  unfold spec_TableOfMatrix.f
  rw [l1In_some _ _ _ _ rfl,Option.bind_some]
  by_cases h1 : 0 ≤ n ∧ n ≤ 5
  · rw [if_pos (decide_eq_true h1),l1In_some _ _ _ _ rfl,Option.bind_some]
    by_cases h2 : 0 ≤ s ∧ s ≤ n
    · rw [if_pos (decide_eq_true h2),if_pos h2.1]
      obtain ⟨n,rfl⟩ := Int.eq_ofNat_of_zero_le h1.1
      obtain ⟨s,rfl⟩ := Int.eq_ofNat_of_zero_le h2.1
      obtain ⟨m,rfl⟩ : ∃ m,n = s + m := ⟨n - s,by omega⟩
      have hM := pow_le (n := s) (by omega)
      rw [shl1_of (by omega)]
      by_cases h3 : l.length = 2 ^ s
      · have ho : impl_TableOfMatrix.ok ((s + m : Nat) : Int) s l.length = true := decide_eq_true ⟨by omega,by omega,by omega,by omega,by rw [Int.toNat_natCast];exact h3⟩
        rw [show (((l.length : Nat) : Int) != ((2 ^ s : Nat) : Int)) = false by rw [h3];exact bne_self_eq_false _]
        simp only [spec_TableOfMatrix.j0]
        rw [if_neg (by decide),tomA,ho,if_pos rfl,Int.toNat_natCast,show (((s + m : Nat) : Int) - (s : Int)).toNat = m by omega]
        have h := spec_tom_l0 (l := l) (s := s) (m := m) (by omega) h3 (2 ^ s) k 0 (by omega) (by omega) rfl
        rw [word_zero] at h
        exact h
      · rw [show (((l.length : Nat) : Int) != ((2 ^ s : Nat) : Int)) = true from bne_iff_ne.mpr (fun q => h3 (by omega))]
        exact hno (decide_eq_false (fun q => h3 (by simpa using q.2.2.2.2)))
    · rw [if_neg (by simpa using h2)]
      exact hno (decide_eq_false (fun q => h2 ⟨q.2.2.1,q.2.2.2.1⟩))
  · rw [if_neg (by simpa using h1)]
    exact hno (decide_eq_false (fun q => h1 ⟨q.1,q.2.1⟩))
def comb (s x y : Nat) : Nat := x % 2 ^ s + (y - y % 2 ^ s)
theorem comb_facts {s x y : Nat} (hs : s ≤ 5) (hx : x < 32) (hy : y < 32) : (x &&& (2 ^ s - 1)) ||| ldiff y (2 ^ s - 1) = comb s x y ∧ ldiff y (2 ^ s - 1) < 32 ∧ comb s x y < 64 := by
  have h : ∀ s : Fin 6,∀ x : Fin 32,∀ y : Fin 32,(x.val &&& (2 ^ s.val - 1)) ||| ldiff y.val (2 ^ s.val - 1) = comb s.val x.val y.val ∧ ldiff y.val (2 ^ s.val - 1) < 32 ∧ comb s.val x.val y.val < 64 := by decide +kernel
  exact h ⟨s,by omega⟩ ⟨x,hx⟩ ⟨y,hy⟩
def apX (s w : Nat) (v : Bool) (x y : Nat) : Bool := (w.testBit (comb s x y) != v) || (w.testBit (comb s y x) != v)
def apB (s w : Nat) (v : Bool) (l : List Int) (i j : Nat) : Bool := apX s w v (rd l j).toNat (rd l i).toNat
def elemB (n w : Nat) (v : Bool) (l : List Int) (i : Nat) : Bool := (decide (0 ≤ rd l i ∧ rd l i < ((2 ^ n : Nat) : Int)) && (w.testBit (rd l i).toNat == v)) && (decide (i = 0) || decide (rd l ((i - 1 : Nat) : Int) < rd l i))
def foolE (n s w : Nat) (v : Bool) (l : List Int) (i : Nat) : Bool := elemB n w v l i && allN (apB s w v l i) i
theorem low_cast {s : Nat} (hs : s ≤ 5) : wrap64 (shl .i64 1 (s : Int) - 1) = ((2 ^ s - 1 : Nat) : Int) := by
  have hM := pow_le hs
  have hp := pow_pos s
  rw [shl1_of (by omega),wrap64_of (by omega) (by omega)]
  omega
theorem bit_ne (b : Bool) (w x : Nat) : ((((bitN w x : Nat) : Int)) != ((b.toNat : Nat) : Int)) = (w.testBit x != b) := by unfold bitN;cases w.testBit x <;> cases b <;> rfl
theorem bit_is' (b : Bool) (w x : Nat) : ((((bitN w x : Nat) : Int)) = ((b.toNat : Nat) : Int)) ↔ w.testBit x = b := by unfold bitN;cases w.testBit x <;> cases b <;> simp
theorem impl_apart {n s w x y : Nat} (v : Bool) (ht : Tab n w) (hs : s ≤ 5) (hx : x < 32) (hy : y < 32) : impl_Table_apartBy.f n w s ((v.toNat : Nat) : Int) x y = some (apX s w v x y) := by
  obtain ⟨e1,l1,c1⟩ := comb_facts hs hx hy
  obtain ⟨e2,l2,c2⟩ := comb_facts hs hy hx
  have hM := pow_le hs
  have a1 : x &&& (2 ^ s - 1) ≤ x := Nat.and_le_left
  have a2 : y &&& (2 ^ s - 1) ≤ y := Nat.and_le_left
  unfold impl_Table_apartBy.f apX
  rw [if_pos (Int.natCast_nonneg _),low_cast hs,and_cast (by omega) (by omega),andNot_cast (by omega) (by omega),or_cast (by omega) (by omega),e1,at_some' ht.lt63 (by omega),Option.bind_some,and_cast (by omega) (by omega),andNot_cast (by omega) (by omega),or_cast (by omega) (by omega),e2,at_some' ht.lt63 (by omega),Option.bind_some,bit_ne]
  by_cases h : w.testBit (comb s x y) = v
  · rw [if_pos ((bit_is' v w _).mpr h),h,bne_self_eq_false,Bool.false_or]
  · rw [if_neg (fun q => h ((bit_is' v w _).mp q)),show (w.testBit (comb s x y) != v) = true from bne_iff_ne.mpr h,Bool.true_or]
theorem rd_take {l : List Int} {i j : Nat} (h : j < i) : rd (l.take i) (j : Int) = rd l j := by
  unfold rd
  rw [Int.toNat_natCast,List.getD_eq_getElem?_getD,List.getD_eq_getElem?_getD,List.getElem?_take_of_lt h]
theorem in_of {n w : Nat} {v : Bool} {l : List Int} {i : Nat} (ht : Tab n w) (h : elemB n w v l i = true) : ∃ x : Nat,rd l i = x ∧ x < 2 ^ n ∧ x < 32 ∧ w.testBit x = v ∧ (i = 0 ∨ rd l ((i - 1 : Nat) : Int) < rd l i) := by
  unfold elemB at h
  rw [Bool.and_eq_true,Bool.and_eq_true,decide_eq_true_eq,beq_iff_eq,Bool.or_eq_true,decide_eq_true_eq,decide_eq_true_eq] at h
  obtain ⟨x,hx⟩ := Int.eq_ofNat_of_zero_le h.1.1.1
  have hM := pow_le ht.1
  have h1 := h.1.1.2
  have h2 := h.1.2
  rw [hx] at h1 h2
  exact ⟨x,hx,by omega,by omega,h2,h.2⟩
theorem elem_in {n s w : Nat} {v : Bool} {l : List Int} {i j : Nat} (ht : Tab n w) (h : allN (foolE n s w v l) i = true) (hj : j < i) : ∃ x : Nat,rd l j = x ∧ x < 32 := by
  have := allN_iff.mp h j hj
  unfold foolE at this
  rw [Bool.and_eq_true] at this
  obtain ⟨x,hx,_,h32,_⟩ := in_of ht this.1
  exact ⟨x,hx,h32⟩
theorem sum_comb {s x y : Nat} (hs : s ≤ 5) (hx : x < 32) (hy : y < 32) : wrap64 (wrap64 (Go.bits .and .i64 (x : Int) ((2 ^ s - 1 : Nat) : Int) + (y : Int)) - Go.bits .and .i64 (y : Int) ((2 ^ s - 1 : Nat) : Int)) = ((comb s x y : Nat) : Int) := by
  have hM := pow_le hs
  have h1 : x % 2 ^ s ≤ x := Nat.mod_le _ _
  have h2 : y % 2 ^ s ≤ y := Nat.mod_le _ _
  rw [and_cast (by omega) (by omega),and_cast (by omega) (by omega),Nat.and_two_pow_sub_one_eq_mod,Nat.and_two_pow_sub_one_eq_mod]
  unfold comb
  rw [wrap64_of (n := ((x % 2 ^ s : Nat) : Int) + (y : Int)) (by omega) (by omega),wrap64_of (by omega) (by omega)]
  omega
theorem spec_fool_l1 {n s w i : Nat} {v : Bool} {l : List Int} (ht : Tab n w) (hs : s ≤ 5) (hi : i < l.length) (hl : l.length < 9223372036854775807) (ha : allN (foolE n s w v l) i = true) {x : Nat} (hx : rd l i = x) (hx32 : x < 32) : ∀ (d k j : Nat),j + d = i → d < k → allN (apB s w v l i) j = true →
    spec_IsFooling.l1 k ((v.toNat : Nat) : Int) l ((2 ^ s - 1 : Nat) : Int) i j n w = if allN (apB s w v l i) i = true then spec_IsFooling.l0 (k - d - 1) ((v.toNat : Nat) : Int) l ((2 ^ s - 1 : Nat) : Int) ((i + 1 : Nat) : Int) n w else some false := by
  intro d
  induction d with
  | zero =>
    intro k j hj hk hq
    obtain ⟨k,rfl⟩ : ∃ m,k = m + 1 := ⟨k - 1,by omega⟩
    obtain rfl : j = i := by omega
    simp only [spec_IsFooling.l1]
    rw [if_neg (by omega),if_pos hq,wrap64_succ (by omega)]
    rfl
  | succ d ih =>
    intro k j hj hk hq
    obtain ⟨k,rfl⟩ : ∃ m,k = m + 1 := ⟨k - 1,by omega⟩
    obtain ⟨y,hy,hy32⟩ := elem_in ht ha (show j < i by omega)
    have e : apB s w v l i j = apX s w v y x := by unfold apB;rw [hx,hy,Int.toNat_natCast,Int.toNat_natCast]
    have c1 := (comb_facts hs hx32 hy32).2.2
    have c2 := (comb_facts hs hy32 hx32).2.2
    have hn : apB s w v l i j = true → spec_IsFooling.l1 k ((v.toNat : Nat) : Int) l ((2 ^ s - 1 : Nat) : Int) i (wrap64 ((j : Int) + 1)) n w = if allN (apB s w v l i) i = true then spec_IsFooling.l0 (k + 1 - (d + 1) - 1) ((v.toNat : Nat) : Int) l ((2 ^ s - 1 : Nat) : Int) ((i + 1 : Nat) : Int) n w else some false := by
      intro hb
      rw [wrap64_succ (by omega),show k + 1 - (d + 1) - 1 = k - d - 1 by omega]
      exact ih k (j + 1) (by omega) (by omega) (allN_next hq hb)
    simp only [spec_IsFooling.l1]
    rw [if_pos (by omega),if_pos (Int.natCast_nonneg _),if_pos (by omega),if_pos (Int.natCast_nonneg _),if_pos (by omega),hy,hx,sum_comb hs hx32 hy32,sum_comb hs hy32 hx32,if_pos (Int.natCast_nonneg _),bit_cast ht.lt63 (by omega),if_pos (Int.natCast_nonneg _),bit_cast ht.lt63 (by omega)]
    by_cases h1 : w.testBit (comb s x y) = v
    · rw [if_pos ((bit_is' v w _).mpr h1)]
      by_cases h2 : w.testBit (comb s y x) = v
      · have hb : apB s w v l i j = false := by rw [e];unfold apX;rw [h1,h2,bne_self_eq_false];rfl
        rw [if_pos ((bit_is' v w _).mpr h2),if_neg (by rw [allN_miss (p := apB s w v l i) (i := j) (by omega) hb];decide)]
      · rw [if_neg (fun q => h2 ((bit_is' v w _).mp q))]
        exact hn (by rw [e];unfold apX;rw [show (w.testBit (comb s y x) != v) = true from bne_iff_ne.mpr h2,Bool.true_or])
    · rw [if_neg (fun q => h1 ((bit_is' v w _).mp q))]
      exact hn (by rw [e];unfold apX;rw [show (w.testBit (comb s x y) != v) = true from bne_iff_ne.mpr h1,Bool.or_true])
theorem spec_fool_j2 {n s w i : Nat} {v : Bool} {l : List Int} (ht : Tab n w) (hs : s ≤ 5) (hi : i < l.length) (hl : l.length < 9223372036854775807) (ha : allN (foolE n s w v l) i = true) {x : Nat} (hx : rd l i = x) (hx32 : x < 32) {k : Nat} (hk : i + 2 < k) :
    spec_IsFooling.j2 k ((v.toNat : Nat) : Int) l ((2 ^ s - 1 : Nat) : Int) i false n w = if allN (apB s w v l i) i = true then spec_IsFooling.l0 (k - i - 2) ((v.toNat : Nat) : Int) l ((2 ^ s - 1 : Nat) : Int) ((i + 1 : Nat) : Int) n w else some false := by
  obtain ⟨k,rfl⟩ : ∃ m,k = m + 1 := ⟨k - 1,by omega⟩
  simp only [spec_IsFooling.j2]
  rw [if_neg (by decide),show k + 1 - i - 2 = k - i - 1 by omega]
  exact spec_fool_l1 ht hs hi hl ha hx hx32 i k 0 (by omega) (by omega) rfl
theorem spec_fool_l0 {n s w : Nat} {v : Bool} {l : List Int} (ht : Tab n w) (hs : s ≤ 5) (hl : l.length < 9223372036854775807) : ∀ (d k i : Nat),i + d = l.length → d * (l.length + 5) < k → allN (foolE n s w v l) i = true →
    spec_IsFooling.l0 k ((v.toNat : Nat) : Int) l ((2 ^ s - 1 : Nat) : Int) i n w = some (allN (foolE n s w v l) l.length) := by
  have hM := pow_le ht.1
  have hp := pow_pos n
  have hn := ht.1
  intro d
  induction d with
  | zero =>
    intro k i hi hk ha
    obtain ⟨k,rfl⟩ : ∃ m,k = m + 1 := ⟨k - 1,by omega⟩
    obtain rfl : i = l.length := by omega
    simp only [spec_IsFooling.l0]
    rw [if_neg (by omega),ha]
  | succ d ih =>
    intro k i hi hk ha
    rw [Nat.succ_mul] at hk
    obtain ⟨k,rfl⟩ : ∃ m,k = m + 2 := ⟨k - 2,by omega⟩
    have hno : elemB n w v l i = false → allN (foolE n s w v l) l.length = false := fun h => allN_miss (p := foolE n s w v l) (i := i) (by omega) (by unfold foolE;rw [h,Bool.false_and])
    have hj : spec_IsFooling.j2 (k + 1) ((v.toNat : Nat) : Int) l ((2 ^ s - 1 : Nat) : Int) i true n w = some false := by
      simp only [spec_IsFooling.j2]
      rw [if_pos trivial]
    have hin : spec_l1In.f (rd l i) 0 (wrap64 (((2 ^ n : Nat) : Int) - 1)) = some (decide (0 ≤ rd l i ∧ rd l i < ((2 ^ n : Nat) : Int))) := by
      rw [wrap64_of (by omega) (by omega)]
      exact l1In_some _ _ _ _ (decide_eq_decide.mpr (by omega))
    simp only [spec_IsFooling.l0]
    rw [if_pos (by omega),if_pos (Int.natCast_nonneg _),if_pos (Int.natCast_nonneg _),shl1_of (by omega),hin,Option.bind_some]
    by_cases h1 : 0 ≤ rd l i ∧ rd l i < ((2 ^ n : Nat) : Int)
    · rw [if_pos (decide_eq_true h1)]
      obtain ⟨x,hx⟩ := Int.eq_ofNat_of_zero_le h1.1
      have hx2 : x < 2 ^ n := by have := h1.2;rw [hx] at this;omega
      have hbit : Go.bits .and .i64 (shr .i64 (w : Int) (rd l i)) 1 = ((bitN w x : Nat) : Int) := by rw [hx];exact bit_cast ht.lt63 (by omega)
      rw [hbit,bit_ne]
      have hend : (i = 0 ∨ rd l ((i - 1 : Nat) : Int) < rd l i) → spec_IsFooling.j2 (k + 1) ((v.toNat : Nat) : Int) l ((2 ^ s - 1 : Nat) : Int) i (w.testBit x != v) n w = some (allN (foolE n s w v l) l.length) := by
        intro h3
        by_cases h2 : w.testBit x = v
        · have he : elemB n w v l i = true := by
            unfold elemB
            rw [decide_eq_true h1,hx,Int.toNat_natCast,h2,beq_self_eq_true,← hx]
            rcases h3 with h3 | h3
            · rw [decide_eq_true h3,Bool.true_or];rfl
            · rw [decide_eq_true h3,Bool.or_true];rfl
          rw [h2,bne_self_eq_false,spec_fool_j2 ht hs (by omega) hl ha hx (by omega) (by omega)]
          cases hq : allN (apB s w v l i) i with
          | true =>
            rw [if_pos rfl]
            exact ih _ (i + 1) (by omega) (by omega) (allN_next ha (by unfold foolE;rw [he,hq];rfl))
          | false => rw [if_neg (by decide),allN_miss (p := foolE n s w v l) (i := i) (by omega) (by unfold foolE;rw [hq,Bool.and_false])]
        · rw [show (w.testBit x != v) = true from bne_iff_ne.mpr h2,hj,hno (by unfold elemB;rw [hx,Int.toNat_natCast,show (w.testBit x == v) = false from beq_eq_false_iff_ne.mpr h2,Bool.and_false,Bool.false_and])]
      by_cases h0 : (i : Int) > 0
      · have em : wrap64 ((i : Int) - 1) = ((i - 1 : Nat) : Int) := by rw [wrap64_of (by omega) (by omega)];omega
        rw [if_pos h0,em,if_pos (Int.natCast_nonneg _),if_pos (by omega)]
        by_cases h3 : rd l ((i - 1 : Nat) : Int) < rd l i
        · rw [if_neg (show ¬ rd l i ≤ rd l ((i - 1 : Nat) : Int) by omega),if_pos h1.1]
          exact hend (.inr h3)
        · rw [if_pos (show rd l i ≤ rd l ((i - 1 : Nat) : Int) by omega),hj,hno (by unfold elemB;rw [decide_eq_false h3,decide_eq_false (show ¬ i = 0 by omega)];exact Bool.and_false _)]
      · rw [if_neg h0,if_pos h1.1]
        exact hend (.inl (by omega))
    · rw [if_neg (by simpa using h1),hj,hno (by unfold elemB;rw [decide_eq_false h1,Bool.false_and,Bool.false_and])]
def foolI (a b s v : Int) (l : List Int) : Bool := (splitI a b s && decide (0 ≤ v ∧ v ≤ 1)) && allN (foolE a.toNat s.toNat b.toNat (v == 1) l) l.length
theorem val_of {v : Int} (h : 0 ≤ v ∧ v ≤ 1) : v = (((v == 1).toNat : Nat) : Int) := by
  rcases (show v = 0 ∨ v = 1 by omega) with rfl | rfl <;> rfl
theorem spec_fooling (a b s v : Int) (l : List Int) (hl : l.length < 9223372036854775807) {k : Nat} (hk : l.length * (l.length + 5) + 2 < k) : spec_IsFooling.f k a b s v l = some (foolI a b s v l) := by
  obtain ⟨k,rfl⟩ : ∃ m,k = m + 1 := ⟨k - 1,by omega⟩
  unfold spec_IsFooling.f foolI
  rw [spec_isTable,Option.bind_some]
  have hj : spec_IsFooling.j0 (k + 1) s v l true a b = some false := by
    simp only [spec_IsFooling.j0]
    rw [if_pos trivial]
  cases hT : isTab a b with
  | false => rw [if_neg (by decide),hj,show splitI a b s = false by unfold splitI;rw [hT,Bool.false_and]];rfl
  | true =>
    rw [if_pos rfl,l1In_some _ _ _ _ rfl,Option.bind_some]
    by_cases h2 : 0 ≤ s ∧ s ≤ a
    · rw [if_pos (decide_eq_true h2),l1In_some _ _ _ _ rfl,Option.bind_some]
      have hS : splitI a b s = true := by unfold splitI;rw [hT,decide_eq_true h2];rfl
      rw [hS,Bool.true_and]
      simp only [spec_IsFooling.j0]
      by_cases hv : 0 ≤ v ∧ v ≤ 1
      · rw [decide_eq_true hv,Bool.not_true,if_neg (by decide),Bool.true_and,if_pos h2.1]
        obtain ⟨t,m,w,rfl,rfl,rfl,ht⟩ := split_of hS
        have := ht.1
        have h := spec_fool_l0 (s := t) (v := (v == 1)) (l := l) ht (by omega) hl l.length k 0 (by omega) (by omega) rfl
        rw [← val_of hv,← low_cast (by omega)] at h
        rw [Int.toNat_natCast,Int.toNat_natCast,Int.toNat_natCast]
        exact h
      · rw [decide_eq_false hv,Bool.not_false,if_pos rfl,Bool.false_and]
    · rw [if_neg (by simpa using h2),hj,show splitI a b s = false by unfold splitI;rw [decide_eq_false h2,Bool.and_false]];rfl
theorem impl_fool_l1 {n s w i : Nat} {v : Bool} {l : List Int} (ht : Tab n w) (hs : s ≤ 5) (hi : i < l.length) (hl : l.length < 9223372036854775807) (ha : allN (foolE n s w v l) i = true) {x : Nat} (hx : rd l i = x) (hx32 : x < 32) : ∀ (d k j : Nat),j + d = i → d < k → allN (apB s w v l i) j = true →
    impl_IsFooling.l1 k s ((v.toNat : Nat) : Int) l (rd l i) l (l.length : Int) i (l.take i) ((l.take i).length : Int) j n w = if allN (apB s w v l i) i = true then impl_IsFooling.l0 (k - d - 1) s ((v.toNat : Nat) : Int) l l (l.length : Int) ((i + 1 : Nat) : Int) n w else some false := by
  have htk : (l.take i).length = i := by rw [List.length_take];omega
  intro d
  induction d with
  | zero =>
    intro k j hj hk hq
    obtain ⟨k,rfl⟩ : ∃ m,k = m + 1 := ⟨k - 1,by omega⟩
    obtain rfl : j = i := by omega
    simp only [impl_IsFooling.l1]
    rw [if_neg (by omega),if_pos hq,wrap64_succ (by omega)]
    rfl
  | succ d ih =>
    intro k j hj hk hq
    obtain ⟨k,rfl⟩ : ∃ m,k = m + 1 := ⟨k - 1,by omega⟩
    obtain ⟨y,hy,hy32⟩ := elem_in ht ha (show j < i by omega)
    have e : apX s w v y x = apB s w v l i j := by unfold apB;rw [hx,hy,Int.toNat_natCast,Int.toNat_natCast]
    simp only [impl_IsFooling.l1]
    rw [if_pos (by omega),if_pos (Int.natCast_nonneg _),if_pos (by omega),rd_take (by omega),hy,hx,impl_apart v ht hs hy32 hx32,Option.bind_some,e,wrap64_succ (by omega)]
    cases hb : apB s w v l i j with
    | true =>
      rw [if_pos rfl,show k + 1 - (d + 1) - 1 = k - d - 1 by omega,← hx]
      exact ih k (j + 1) (by omega) (by omega) (allN_next hq hb)
    | false => rw [if_neg (by decide),if_neg (by rw [allN_miss (p := apB s w v l i) (i := j) (by omega) hb];decide)]
theorem impl_fool_j2 {n s w i : Nat} {v : Bool} {l : List Int} (ht : Tab n w) (hs : s ≤ 5) (hi : i < l.length) (hl : l.length < 9223372036854775807) (ha : allN (foolE n s w v l) i = true) {x : Nat} (hx : rd l i = x) (hx32 : x < 32) {k : Nat} (hk : i + 2 < k) :
    impl_IsFooling.j2 k s ((v.toNat : Nat) : Int) l i (rd l i) l (l.length : Int) i false n w = if allN (apB s w v l i) i = true then impl_IsFooling.l0 (k - i - 2) s ((v.toNat : Nat) : Int) l l (l.length : Int) ((i + 1 : Nat) : Int) n w else some false := by
  obtain ⟨k,rfl⟩ : ∃ m,k = m + 1 := ⟨k - 1,by omega⟩
  simp only [impl_IsFooling.j2]
  rw [if_neg (by decide),if_pos (Int.natCast_nonneg _),if_pos (by omega),Int.toNat_natCast,show k + 1 - i - 2 = k - i - 1 by omega]
  exact impl_fool_l1 ht hs hi hl ha hx hx32 i k 0 (by omega) (by omega) rfl
theorem impl_fool_l0 {n s w : Nat} {v : Bool} {l : List Int} (ht : Tab n w) (hs : s ≤ 5) (hl : l.length < 9223372036854775807) : ∀ (d k i : Nat),i + d = l.length → d * (l.length + 5) < k → allN (foolE n s w v l) i = true →
    impl_IsFooling.l0 k s ((v.toNat : Nat) : Int) l l (l.length : Int) i n w = some (allN (foolE n s w v l) l.length) := by
  have hM := pow_le ht.1
  have hn := ht.1
  intro d
  induction d with
  | zero =>
    intro k i hi hk ha
    obtain ⟨k,rfl⟩ : ∃ m,k = m + 1 := ⟨k - 1,by omega⟩
    obtain rfl : i = l.length := by omega
    simp only [impl_IsFooling.l0]
    rw [if_neg (by omega),ha]
  | succ d ih =>
    intro k i hi hk ha
    rw [Nat.succ_mul] at hk
    obtain ⟨k,rfl⟩ : ∃ m,k = m + 2 := ⟨k - 2,by omega⟩
    have hno : elemB n w v l i = false → allN (foolE n s w v l) l.length = false := fun h => allN_miss (p := foolE n s w v l) (i := i) (by omega) (by unfold foolE;rw [h,Bool.false_and])
    have hj : ∀ t : Bool,impl_IsFooling.j2 (k + 1) s ((v.toNat : Nat) : Int) l i (rd l i) l (l.length : Int) i true n w = some false := by
      intro t
      simp only [impl_IsFooling.j2]
      rw [if_pos trivial]
    simp only [impl_IsFooling.l0]
    rw [if_pos (by omega),if_pos (Int.natCast_nonneg _),if_pos (by omega),isInput_some hn,Option.bind_some]
    by_cases h1 : 0 ≤ rd l i ∧ rd l i < ((2 ^ n : Nat) : Int)
    · rw [show noInp n (rd l i) = false by unfold noInp;rw [decide_eq_true h1];rfl,Bool.not_false,if_pos rfl]
      obtain ⟨x,hx⟩ := Int.eq_ofNat_of_zero_le h1.1
      have hx2 : x < 2 ^ n := by have := h1.2;rw [hx] at this;omega
      have hat : impl_Table_at.f n w (rd l i) = some ((bitN w x : Nat) : Int) := by rw [hx];exact at_some' ht.lt63 (by omega)
      rw [hat,Option.bind_some]
      by_cases h2 : w.testBit x = v
      · rw [if_pos ((bit_is' v w x).mpr h2)]
        have hlast : elemB n w v l i = true → (if allN (apB s w v l i) i = true then impl_IsFooling.l0 (k + 1 - i - 2) s ((v.toNat : Nat) : Int) l l (l.length : Int) ((i + 1 : Nat) : Int) n w else some false) = some (allN (foolE n s w v l) l.length) := by
          intro he
          cases hq : allN (apB s w v l i) i with
          | true =>
            rw [if_pos rfl]
            exact ih _ (i + 1) (by omega) (by omega) (allN_next ha (by unfold foolE;rw [he,hq];rfl))
          | false => rw [if_neg (by decide),allN_miss (p := foolE n s w v l) (i := i) (by omega) (by unfold foolE;rw [hq,Bool.and_false])]
        by_cases h0 : (i : Int) > 0
        · have em : wrap64 ((i : Int) - 1) = ((i - 1 : Nat) : Int) := by rw [wrap64_of (by omega) (by omega)];omega
          rw [if_pos h0,em,if_pos (Int.natCast_nonneg _),if_pos (by omega)]
          by_cases h3 : rd l ((i - 1 : Nat) : Int) < rd l i
          · rw [decide_eq_false (show ¬ rd l ((i - 1 : Nat) : Int) ≥ rd l i by omega),impl_fool_j2 ht hs (by omega) hl ha hx (by omega) (by omega)]
            exact hlast (by unfold elemB;rw [decide_eq_true h1,hx,Int.toNat_natCast,h2,beq_self_eq_true,← hx,decide_eq_true h3,Bool.or_true];rfl)
          · rw [decide_eq_true (show rd l ((i - 1 : Nat) : Int) ≥ rd l i by omega),hj true,hno (by unfold elemB;rw [decide_eq_false h3,decide_eq_false (show ¬ i = 0 by omega)];exact Bool.and_false _)]
        · obtain rfl : i = 0 := by omega
          rw [if_neg h0,impl_fool_j2 ht hs (by omega) hl ha hx (by omega) (by omega)]
          exact hlast (by unfold elemB;rw [decide_eq_true h1,hx,Int.toNat_natCast,h2,beq_self_eq_true,decide_eq_true rfl,Bool.true_or];rfl)
      · rw [if_neg (fun q => h2 ((bit_is' v w x).mp q)),hj true,hno (by unfold elemB;rw [hx,Int.toNat_natCast,show (w.testBit x == v) = false from beq_eq_false_iff_ne.mpr h2,Bool.and_false,Bool.false_and])]
    · rw [show noInp n (rd l i) = true by unfold noInp;rw [decide_eq_false h1];rfl,Bool.not_true,if_neg (by decide),hj true,hno (by unfold elemB;rw [decide_eq_false h1,Bool.false_and,Bool.false_and])]
theorem impl_fooling {a b : Int} (s v : Int) (l : List Int) (h0 : -9223372036854775808 ≤ b) (h1 : b ≤ 9223372036854775807) (hl : l.length < 9223372036854775807) {k : Nat} (hk : l.length * (l.length + 5) + 2 < k) : impl_IsFooling.f k a b s v l = some (foolI a b s v l) := by
  obtain ⟨k,rfl⟩ : ∃ m,k = m + 1 := ⟨k - 1,by omega⟩
  unfold impl_IsFooling.f foolI
  rw [impl_isSplit s h0 h1,Option.bind_some]
  cases hS : splitI a b s with
  | false =>
    rw [if_neg (by decide)]
    simp only [impl_IsFooling.j0]
    rw [if_pos trivial]
    rfl
  | true =>
    have hb : impl_isBit.f v = some (decide (0 ≤ v ∧ v ≤ 1)) := by
      unfold impl_isBit.f
      by_cases h : v = 0
      · rw [if_pos h,decide_eq_true (by omega)]
      · rw [if_neg h];congr 1;rw [Bool.eq_iff_iff,beq_iff_eq,decide_eq_true_eq];omega
    rw [if_pos rfl,hb,Option.bind_some,Bool.true_and]
    simp only [impl_IsFooling.j0]
    by_cases hv : 0 ≤ v ∧ v ≤ 1
    · rw [decide_eq_true hv,Bool.not_true,if_neg (by decide),Bool.true_and]
      obtain ⟨t,m,w,rfl,rfl,rfl,ht⟩ := split_of hS
      have := ht.1
      have h := impl_fool_l0 (s := t) (v := (v == 1)) (l := l) ht (by omega) hl l.length k 0 (by omega) (by omega) rfl
      rw [← val_of hv] at h
      rw [Int.toNat_natCast,Int.toNat_natCast,Int.toNat_natCast]
      exact h
    · rw [decide_eq_false hv,Bool.not_false,if_pos rfl,Bool.false_and]
theorem exN_mono {p : Nat → Bool} {m n : Nat} (h : m ≤ n) (k : exN p m = true) : exN p n = true := by
  obtain ⟨i,hi,hp⟩ := exN_iff.mp k
  exact exN_iff.mpr ⟨i,by omega,hp⟩
def cellR (s w a b : Nat) (q : Bool) (i j : Nat) : Bool := (a.testBit i && b.testBit j) && (w.testBit (i + 2 ^ s * j) == q)
def metR (s m w a b : Nat) (q : Bool) (i j : Nat) : Bool := exN (fun i' => exN (cellR s w a b q i') (2 ^ m)) i || exN (cellR s w a b q i) j
theorem metR_row (s m w a b : Nat) (q : Bool) (i : Nat) : metR s m w a b q i (2 ^ m) = metR s m w a b q (i + 1) 0 := by
  unfold metR
  rw [exN]
  simp [exN]
theorem metR_next (s m w a b : Nat) (q : Bool) (i j : Nat) : metR s m w a b q i (j + 1) = (metR s m w a b q i j || cellR s w a b q i j) := by
  unfold metR
  rw [exN,Bool.or_assoc]
theorem metR_mono_j {s m w a b : Nat} {q : Bool} {i j j' : Nat} (h : j ≤ j') (k : metR s m w a b q i j = true) : metR s m w a b q i j' = true := by
  unfold metR at *
  rw [Bool.or_eq_true] at *
  rcases k with k | k
  · exact .inl k
  · exact .inr (exN_mono h k)
theorem metR_mono_i {s m w a b : Nat} {q : Bool} {i i' : Nat} (h : i ≤ i') (k : metR s m w a b q i 0 = true) : metR s m w a b q i' 0 = true := by
  unfold metR at *
  rw [Bool.or_eq_true] at *
  rcases k with k | k
  · exact .inl (exN_mono h k)
  · cases k
def firstR (t f : Bool) : Int := if t = true then 1 else if f = true then 0 else -1
theorem spec_rect_cell {s m w a b : Nat} (ht : Tab (s + m) w) (ha : a < 4294967296) (hb : b < 4294967296) {i j : Nat} (hi : i < 2 ^ s) (hj : j < 2 ^ m) (k : Nat) (first : Int) :
    spec_IsRectangle.l1 (k + 2) s a b (rowsV w s m (2 ^ s)) first i j ((s + m : Nat) : Int) w = if (a.testBit i && b.testBit j) = true then (if first ≥ 0 ∧ ¬ (((w.testBit (i + 2 ^ s * j)).toNat : Nat) : Int) = first then some false else spec_IsRectangle.l1 k s a b (rowsV w s m (2 ^ s)) (((w.testBit (i + 2 ^ s * j)).toNat : Nat) : Int) i ((j + 1 : Nat) : Int) ((s + m : Nat) : Int) w) else spec_IsRectangle.l1 k s a b (rowsV w s m (2 ^ s)) first i ((j + 1 : Nat) : Int) ((s + m : Nat) : Int) w := by
  have hn := ht.1
  have hM := pow_le (n := s) (by omega)
  have hM2 := pow_le (n := m) (by omega)
  have em : wrap64 (((s + m : Nat) : Int) - (s : Int)) = (m : Int) := by rw [wrap64_of (by omega) (by omega)];omega
  have hr : rd (rowsV w s m (2 ^ s)) (i : Int) = ((rowV w s m i : Nat) : Int) := listN_get hi
  have hrl : rowV w s m i < 9223372036854775808 := tabN_lt63 _ hM2
  have hbit : bitN (rowV w s m i) j = (w.testBit (i + 2 ^ s * j)).toNat := by unfold bitN rowV;rw [testBit_tabN,decide_eq_true hj,Bool.true_and]
  have hlen : (rowsV w s m (2 ^ s)).length = 2 ^ s := listN_length _ _
  have hj3 : ∀ x70 : Bool,x70 = !(a.testBit i && b.testBit j) → spec_IsRectangle.j3 (k + 1) s a b (rowsV w s m (2 ^ s)) first i j x70 ((s + m : Nat) : Int) w = if (a.testBit i && b.testBit j) = true then (if first ≥ 0 ∧ ¬ (((w.testBit (i + 2 ^ s * j)).toNat : Nat) : Int) = first then some false else spec_IsRectangle.l1 k s a b (rowsV w s m (2 ^ s)) (((w.testBit (i + 2 ^ s * j)).toNat : Nat) : Int) i ((j + 1 : Nat) : Int) ((s + m : Nat) : Int) w) else spec_IsRectangle.l1 k s a b (rowsV w s m (2 ^ s)) first i ((j + 1 : Nat) : Int) ((s + m : Nat) : Int) w := by
    intro x70 hx
    subst hx
    simp only [spec_IsRectangle.j3]
    cases hq : (a.testBit i && b.testBit j) with
    | false => rw [Bool.not_false,if_pos rfl,if_neg (by decide),wrap64_succ (by omega)]
    | true =>
      rw [Bool.not_true,if_neg (by decide),if_pos (Int.natCast_nonneg _),if_pos (by rw [hlen];omega),if_pos (Int.natCast_nonneg _),hr,bit_cast hrl (by omega),hbit,wrap64_succ (by omega),if_pos rfl]
      by_cases h1 : first ≥ 0
      · rw [if_pos h1]
        by_cases h2 : (((w.testBit (i + 2 ^ s * j)).toNat : Nat) : Int) = first
        · rw [if_pos h2,if_neg (fun q => q.2 h2)]
        · rw [if_neg h2,if_pos ⟨h1,h2⟩]
      · rw [if_neg h1,if_neg (fun q => h1 q.1)]
  simp only [spec_IsRectangle.l1]
  rw [em,if_pos (Int.natCast_nonneg _),shl1_of (by omega),if_pos (by omega),if_pos (Int.natCast_nonneg _),bit_cast (by omega) (by omega),bit_cast (by omega) (by omega),bitz_beq]
  by_cases h1 : a.testBit i = false
  · rw [if_pos (bitz.mpr h1)]
    exact hj3 true (by rw [h1];rfl)
  · rw [if_neg (fun q => h1 (bitz.mp q)),if_pos (Int.natCast_nonneg _)]
    rw [Bool.not_eq_false] at h1
    exact hj3 _ (by rw [h1,Bool.true_and])
theorem spec_rect_l1 {s m w a b : Nat} (ht : Tab (s + m) w) (ha : a < 4294967296) (hb : b < 4294967296) {i : Nat} (hi : i < 2 ^ s) : ∀ (d k j : Nat),j + d = 2 ^ m → 2 * d + 1 < k → (metR s m w a b true i j && metR s m w a b false i j) = false →
    spec_IsRectangle.l1 k s a b (rowsV w s m (2 ^ s)) (firstR (metR s m w a b true i j) (metR s m w a b false i j)) i j ((s + m : Nat) : Int) w = if (metR s m w a b true i (2 ^ m) && metR s m w a b false i (2 ^ m)) = true then some false else spec_IsRectangle.l0 (k - 2 * d - 1) s a b (rowsV w s m (2 ^ s)) (firstR (metR s m w a b true (i + 1) 0) (metR s m w a b false (i + 1) 0)) ((i + 1 : Nat) : Int) ((s + m : Nat) : Int) w := by
  have hn := ht.1
  have hM := pow_le (n := s) (by omega)
  have hM2 := pow_le (n := m) (by omega)
  have em : wrap64 (((s + m : Nat) : Int) - (s : Int)) = (m : Int) := by rw [wrap64_of (by omega) (by omega)];omega
  intro d
  induction d with
  | zero =>
    intro k j hj hk hc
    obtain ⟨k,rfl⟩ : ∃ m,k = m + 1 := ⟨k - 1,by omega⟩
    obtain rfl : j = 2 ^ m := by omega
    simp only [spec_IsRectangle.l1]
    rw [em,if_pos (Int.natCast_nonneg _),shl1_of (by omega),if_neg (by omega),hc,if_neg (by decide),metR_row,metR_row,wrap64_succ (by omega)]
    rfl
  | succ d ih =>
    intro k j hj hk hc
    obtain ⟨k,rfl⟩ : ∃ m,k = m + 2 := ⟨k - 2,by omega⟩
    rw [spec_rect_cell ht ha hb hi (by omega)]
    have hih := ih k (j + 1) (by omega) (by omega)
    rw [show k + 2 - 2 * (d + 1) - 1 = k - 2 * d - 1 by omega]
    have hnx := fun q => metR_next s m w a b q i j
    unfold cellR at hnx
    cases hq : (a.testBit i && b.testBit j) with
    | false =>
      rw [if_neg (by decide)]
      have e : ∀ q,metR s m w a b q i (j + 1) = metR s m w a b q i j := fun q => by rw [hnx,hq,Bool.false_and,Bool.or_false]
      rw [e,e] at hih
      exact hih hc
    | true =>
      rw [if_pos rfl]
      have e : ∀ q,metR s m w a b q i (j + 1) = (metR s m w a b q i j || (w.testBit (i + 2 ^ s * j) == q)) := fun q => by rw [hnx,hq,Bool.true_and]
      have hend : metR s m w a b true i (j + 1) = true → metR s m w a b false i (j + 1) = true → some false = if (metR s m w a b true i (2 ^ m) && metR s m w a b false i (2 ^ m)) = true then some false else spec_IsRectangle.l0 (k - 2 * d - 1) s a b (rowsV w s m (2 ^ s)) (firstR (metR s m w a b true (i + 1) 0) (metR s m w a b false (i + 1) 0)) ((i + 1 : Nat) : Int) ((s + m : Nat) : Int) w := by
        intro h1 h2
        rw [metR_mono_j (j' := 2 ^ m) (by omega) h1,metR_mono_j (j' := 2 ^ m) (by omega) h2,if_pos (by decide)]
      rw [e,e] at hih hend
      cases hw : w.testBit (i + 2 ^ s * j) with
      | true =>
        rw [hw] at hih hend
        cases hT : metR s m w a b true i j with
        | true =>
          rw [hT] at hih hc hend
          cases hF : metR s m w a b false i j with
          | true => rw [hF] at hc;cases hc
          | false =>
            rw [hF] at hih
            rw [if_neg (by rintro ⟨_,h⟩;exact h rfl)]
            exact hih rfl
        | false =>
          rw [hT] at hih hc hend
          cases hF : metR s m w a b false i j with
          | true =>
            rw [hF] at hend
            rw [if_pos ⟨by decide,by decide⟩]
            exact hend rfl rfl
          | false =>
            rw [hF] at hih
            rw [if_neg (by rintro ⟨h,_⟩;exact absurd h (by decide))]
            exact hih rfl
      | false =>
        rw [hw] at hih hend
        cases hT : metR s m w a b true i j with
        | true =>
          rw [hT] at hih hc hend
          rw [if_pos ⟨by unfold firstR;rw [if_pos rfl];decide,by unfold firstR;rw [if_pos rfl];decide⟩]
          exact hend rfl (by rw [show (false == false) = true from rfl,Bool.or_true])
        | false =>
          rw [hT] at hih hc hend
          cases hF : metR s m w a b false i j with
          | true =>
            rw [hF] at hih
            rw [if_neg (by rintro ⟨_,h⟩;exact h rfl)]
            exact hih rfl
          | false =>
            rw [hF] at hih
            rw [if_neg (by rintro ⟨h,_⟩;exact absurd h (by decide))]
            exact hih rfl
theorem spec_rect_l0 {s m w a b : Nat} (ht : Tab (s + m) w) (ha : a < 4294967296) (hb : b < 4294967296) : ∀ (d k i : Nat),i + d = 2 ^ s → d * 80 < k → (metR s m w a b true i 0 && metR s m w a b false i 0) = false →
    spec_IsRectangle.l0 k s a b (rowsV w s m (2 ^ s)) (firstR (metR s m w a b true i 0) (metR s m w a b false i 0)) i ((s + m : Nat) : Int) w = some (!(metR s m w a b true (2 ^ s) 0 && metR s m w a b false (2 ^ s) 0)) := by
  have hn := ht.1
  have hM := pow_le (n := s) (by omega)
  have hM2 := pow_le (n := m) (by omega)
  have hlen : (rowsV w s m (2 ^ s)).length = 2 ^ s := listN_length _ _
  intro d
  induction d with
  | zero =>
    intro k i hi hk hc
    obtain ⟨k,rfl⟩ : ∃ m,k = m + 1 := ⟨k - 1,by omega⟩
    obtain rfl : i = 2 ^ s := by omega
    simp only [spec_IsRectangle.l0]
    rw [if_neg (by rw [hlen];omega),hc]
    rfl
  | succ d ih =>
    intro k i hi hk hc
    obtain ⟨k,rfl⟩ : ∃ m,k = m + 1 := ⟨k - 1,by omega⟩
    have h1 := spec_rect_l1 ht ha hb (i := i) (by omega) (2 ^ m) k 0 (by omega) (by omega) hc
    simp only [spec_IsRectangle.l0]
    rw [if_pos (by rw [hlen];omega)]
    refine Eq.trans h1 ?_
    rw [metR_row,metR_row]
    cases hq : (metR s m w a b true (i + 1) 0 && metR s m w a b false (i + 1) 0) with
    | true =>
      rw [Bool.and_eq_true] at hq
      rw [if_pos rfl,metR_mono_i (i' := 2 ^ s) (by omega) hq.1,metR_mono_i (i' := 2 ^ s) (by omega) hq.2]
      rfl
    | false =>
      rw [if_neg (by decide)]
      exact ih _ (i + 1) (by omega) (by omega) hq
theorem met_all {s m w a b : Nat} (q : Bool) : metR s m w a b q (2 ^ s) 0 = exN (impl_IsRectangle.seen s w a b q) (2 ^ (s + m)) := by
  have hp := pow_pos s
  unfold metR
  rw [show exN (cellR s w a b q (2 ^ s)) 0 = false from rfl,Bool.or_false]
  apply Bool.eq_iff_iff.mpr
  rw [exN_iff,exN_iff]
  constructor
  · rintro ⟨i,hi,h⟩
    obtain ⟨j,hj,h⟩ := exN_iff.mp h
    refine ⟨i + 2 ^ s * j,at_lt hi hj,?_⟩
    unfold impl_IsRectangle.seen impl_IsRectangle.hit
    rw [Nat.add_mul_mod_self_left,Nat.mod_eq_of_lt hi,Nat.add_mul_div_left _ _ hp,Nat.div_eq_of_lt hi,Nat.zero_add]
    exact h
  · rintro ⟨x,hx,h⟩
    refine ⟨x % 2 ^ s,Nat.mod_lt _ hp,exN_iff.mpr ⟨x / 2 ^ s,by rw [Nat.div_lt_iff_lt_mul hp,Nat.mul_comm,← Nat.pow_add];exact hx,?_⟩⟩
    unfold cellR
    rw [Nat.mod_add_div]
    exact h
theorem rect_bad {m : Nat} (hm : m ≤ 5) (r : Int) : impl_IsRectangle.bad m r = !decide (1 ≤ r ∧ r ≤ ((2 ^ 2 ^ m : Nat) : Int) - 1) := by
  have hp := pow_pos (2 ^ m)
  unfold impl_IsRectangle.bad
  by_cases h : r ≤ 0
  · rw [decide_eq_true h,decide_eq_false (fun q => by omega)];rfl
  · obtain ⟨r,rfl⟩ := Int.eq_ofNat_of_zero_le (show 0 ≤ r by omega)
    rw [decide_eq_false h,Bool.false_or,show (2 : Int) ^ 2 ^ m = ((2 ^ 2 ^ m : Nat) : Int) by simp]
    generalize 2 ^ 2 ^ m = F at hp
    by_cases hq : r < F
    · rw [decide_eq_true ⟨by omega,by omega⟩,show ((r : Int) / (F : Int)) = ((r / F : Nat) : Int) by simp,Nat.div_eq_of_lt hq];rfl
    · rw [decide_eq_false (fun q => by omega),show ((r : Int) / (F : Int)) = ((r / F : Nat) : Int) by simp,Bool.not_false,bne_iff_ne]
      intro q
      have : r / F = 0 := by exact_mod_cast q
      rw [Nat.div_eq_zero_iff] at this
      omega
def rectI (n w s a b : Int) : Bool := splitI n w s && ((!impl_IsRectangle.bad s.toNat a && !impl_IsRectangle.bad (n - s).toNat b) && impl_IsRectangle.both n.toNat s.toNat w.toNat a.toNat b.toNat)
theorem impl_rect {n w : Int} (s a b : Int) (h0 : -9223372036854775808 ≤ w) (h1 : w ≤ 9223372036854775807) (ha : a ≤ 9223372036854775807) (hb : b ≤ 9223372036854775807) : impl_IsRectangle.f n w s a b = some (rectI n w s a b) := by
  unfold impl_IsRectangle.f rectI
  rw [impl_isSplit s h0 h1,Option.bind_some]
  cases hS : splitI n w s with
  | false => rw [if_neg (by decide),Bool.false_and]
  | true =>
    obtain ⟨t,m,v,rfl,rfl,rfl,ht⟩ := split_of hS
    have hn := ht.1
    have hv := ht.lt63
    rw [if_pos rfl,if_pos ⟨by omega,by omega,by omega,by omega⟩,Bool.true_and]
    cases impl_IsRectangle.bad ((t : Int)).toNat a with
    | true => rw [if_pos rfl];rfl
    | false =>
      rw [if_neg (by decide)]
      cases impl_IsRectangle.bad (((t + m : Nat) : Int) - (t : Int)).toNat b with
      | true => rw [if_pos rfl];rfl
      | false => rw [if_neg (by decide)];rfl
theorem spec_rect (n w s a b : Int) {k : Nat} (hk : 5000 < k) : spec_IsRectangle.f k n w s a b = some (rectI n w s a b) := by
  obtain ⟨k,rfl⟩ : ∃ m,k = m + 1 := ⟨k - 1,by omega⟩
  have hj : ∀ l,spec_IsRectangle.j0 (k + 1) s a b l true n w = some false := by
    intro l
    simp only [spec_IsRectangle.j0]
    rw [if_pos trivial]
  unfold spec_IsRectangle.f rectI
  rw [spec_matrix n w s (by omega),Option.bind_some]
  cases hS : splitI n w s with
  | false =>
    have e : matI n w s = ([],false) := by unfold matI;rw [hS,if_neg (by decide)]
    rw [e,if_neg (by decide),hj,Bool.false_and]
  | true =>
    obtain ⟨t,m,v,rfl,rfl,rfl,ht⟩ := split_of hS
    have hn := ht.1
    have hM := pow_le (n := t) (by omega)
    have hM2 := pow_le (n := m) (by omega)
    have hF := full_le (n := t) (by omega)
    have hF2 := full_le (n := m) (by omega)
    have hp := pow_pos (2 ^ t)
    have hp2 := pow_pos (2 ^ m)
    have em : wrap64 (((t + m : Nat) : Int) - (t : Int)) = (m : Int) := by rw [wrap64_of (by omega) (by omega)];omega
    have hlen : (rowsV v t m (2 ^ t)).length = 2 ^ t := listN_length _ _
    rw [matI_of ht,if_pos rfl,Bool.true_and]
    show ((spec_l1In.f a 1 (wrap64 ((shl .i64 1 ((rowsV v t m (2 ^ t)).length : Int)) - 1))).bind _) = _
    rw [hlen,shl1_of (by omega),wrap64_of (by omega) (by omega),l1In_some _ _ _ _ rfl,Option.bind_some,Int.toNat_natCast,Int.toNat_natCast,Int.toNat_natCast,show (((t + m : Nat) : Int) - (t : Int)).toNat = m by omega,rect_bad (by omega),rect_bad (by omega),Bool.not_not,Bool.not_not]
    by_cases h1 : 1 ≤ a ∧ a ≤ ((2 ^ 2 ^ t : Nat) : Int) - 1
    · rw [decide_eq_true h1,if_pos rfl,em,if_pos (Int.natCast_nonneg _),shlu1_of (by omega),shl1_of (by omega),wrap64_of (by omega) (by omega),l1In_some _ _ _ _ rfl,Option.bind_some,Bool.true_and]
      by_cases h2 : 1 ≤ b ∧ b ≤ ((2 ^ 2 ^ m : Nat) : Int) - 1
      · rw [decide_eq_true h2,Bool.not_true,Bool.true_and]
        obtain ⟨a,rfl⟩ := Int.eq_ofNat_of_zero_le (show 0 ≤ a by omega)
        obtain ⟨b,rfl⟩ := Int.eq_ofNat_of_zero_le (show 0 ≤ b by omega)
        simp only [spec_IsRectangle.j0]
        rw [if_neg (by decide),Int.toNat_natCast,Int.toNat_natCast]
        have h := spec_rect_l0 (a := a) (b := b) ht (by omega) (by omega) (2 ^ t) k 0 (by omega) (by omega) rfl
        rw [met_all,met_all] at h
        refine Eq.trans h ?_
        unfold impl_IsRectangle.both
        rw [Bool.not_and,Bool.or_comm]
      · rw [decide_eq_false h2,Bool.not_false,hj,Bool.false_and]
    · rw [decide_eq_false h1,if_neg (by decide),hj,Bool.false_and,Bool.false_and]
def InSpan : List Nat → Nat → Prop
  | [],x => x = 0
  | a :: l,x => InSpan l x ∨ InSpan l (x ^^^ a)
theorem span_zero : ∀ l,InSpan l 0
  | [] => rfl
  | _ :: l => .inl (span_zero l)
theorem xor_cancel (x a : Nat) : x ^^^ a ^^^ a = x := by rw [Nat.xor_assoc,Nat.xor_self,Nat.xor_zero]
theorem span_xor : ∀ (l : List Nat) (x y : Nat),InSpan l x → InSpan l y → InSpan l (x ^^^ y)
  | [],x,y,hx,hy => by
    have hx : x = 0 := hx
    have hy : y = 0 := hy
    subst hx hy;rfl
  | a :: l,x,y,hx,hy => by
    rcases hx with hx | hx <;> rcases hy with hy | hy
    · exact .inl (span_xor l x y hx hy)
    · refine .inr ?_
      rw [Nat.xor_assoc]
      exact span_xor l x (y ^^^ a) hx hy
    · refine .inr ?_
      rw [Nat.xor_assoc,Nat.xor_comm y a,← Nat.xor_assoc]
      exact span_xor l (x ^^^ a) y hx hy
    · refine .inl ?_
      have := span_xor l (x ^^^ a) (y ^^^ a) hx hy
      rw [Nat.xor_assoc,Nat.xor_comm y a,← Nat.xor_assoc a a,Nat.xor_self,Nat.zero_xor] at this
      exact this
theorem span_mem : ∀ {l : List Nat} {a : Nat},a ∈ l → InSpan l a
  | b :: l,a,h => by
    rcases List.mem_cons.mp h with e | e
    · subst e;refine .inr ?_;rw [Nat.xor_self];exact span_zero l
    · exact .inl (span_mem e)
theorem span_snoc (y : Nat) : ∀ (l : List Nat) (z : Nat),InSpan (l ++ [y]) z ↔ InSpan l z ∨ InSpan l (z ^^^ y)
  | [],z => Iff.rfl
  | a :: l,z => by
    have h1 := span_snoc y l z
    have h2 := span_snoc y l (z ^^^ a)
    rw [List.cons_append]
    show InSpan (l ++ [y]) z ∨ InSpan (l ++ [y]) (z ^^^ a) ↔ (InSpan l z ∨ InSpan l (z ^^^ a)) ∨ (InSpan l (z ^^^ y) ∨ InSpan l (z ^^^ y ^^^ a))
    rw [h1,h2,Nat.xor_assoc z a y,Nat.xor_comm a y,← Nat.xor_assoc z y a]
    constructor
    · rintro ((h | h) | (h | h))
      · exact .inl (.inl h)
      · exact .inr (.inl h)
      · exact .inl (.inr h)
      · exact .inr (.inr h)
    · rintro ((h | h) | (h | h))
      · exact .inl (.inl h)
      · exact .inr (.inl h)
      · exact .inl (.inr h)
      · exact .inr (.inr h)
def vals (ps : List (Nat × Nat)) : List Nat := ps.map Prod.snd
theorem len_zero : impl_RankMod2.len 0 = 0 := by unfold impl_RankMod2.len;rw [if_pos rfl]
theorem len_xor_lt {a b : Nat} (h : impl_RankMod2.len a < impl_RankMod2.len b) : impl_RankMod2.len (a ^^^ b) = impl_RankMod2.len b := by
  have hb : b ≠ 0 := fun q => by rw [q,len_zero] at h;omega
  obtain ⟨h1,h2,h3⟩ := impl_RankMod2.len_pos hb
  have tb := impl_RankMod2.top hb
  obtain ⟨n,hn⟩ : ∃ n,impl_RankMod2.len b = n + 1 := ⟨impl_RankMod2.len b - 1,by omega⟩
  rw [hn] at h h2 tb ⊢
  rw [Nat.add_sub_cancel] at tb
  have ha : a < 2 ^ n := by
    by_cases h0 : a = 0
    · rw [h0];exact Nat.two_pow_pos n
    · exact Nat.lt_of_lt_of_le (impl_RankMod2.len_pos h0).2.1 (Nat.pow_le_pow_right (by decide) (by omega))
  have hu : a ^^^ b < 2 ^ (n + 1) := Nat.xor_lt_two_pow (Nat.lt_of_lt_of_le ha (Nat.pow_le_pow_right (by decide) (by omega))) h2
  have ht : (a ^^^ b).testBit n = true := by rw [Nat.testBit_xor,testBit_ge ha (Nat.le_refl n),tb];rfl
  have hl : 2 ^ n ≤ a ^^^ b := by
    by_cases hq : a ^^^ b < 2 ^ n
    · rw [testBit_ge hq (Nat.le_refl n)] at ht;cases ht
    · omega
  exact impl_RankMod2.len_eq hl hu
theorem len_xor {a b : Nat} (h : impl_RankMod2.len a ≠ impl_RankMod2.len b) : impl_RankMod2.len (a ^^^ b) = impl_RankMod2.len a ∨ impl_RankMod2.len (a ^^^ b) = impl_RankMod2.len b := by
  by_cases h1 : impl_RankMod2.len a < impl_RankMod2.len b
  · exact .inr (len_xor_lt h1)
  · rw [Nat.xor_comm];exact .inl (len_xor_lt (by omega))
theorem ok_tail {p : Nat × Nat} {ps : List (Nat × Nat)} (h : impl_RankMod2.Ok (p :: ps)) : impl_RankMod2.Ok ps ∧ impl_RankMod2.look ps p.1 = none ∧ impl_RankMod2.len p.2 = p.1 := by
  have hn := h.2.1 p ps (List.suffix_refl _)
  refine ⟨⟨fun t v hv => ?_,fun q qs hq => h.2.1 q qs (hq.trans (List.suffix_cons p ps)),by have := h.2.2;rw [List.length_cons] at this;omega⟩,hn,?_⟩
  · refine h.1 t v ?_
    rw [impl_RankMod2.look]
    by_cases e : p.1 = t
    · rw [e,hv] at hn;cases hn
    · rw [if_neg e];exact hv
  · exact (h.1 p.1 p.2 (by rw [impl_RankMod2.look,if_pos rfl])).1
theorem look_cons_some {p : Nat × Nat} {ps : List (Nat × Nat)} {t v : Nat} (h : impl_RankMod2.look ps t = some v) : ∃ u,impl_RankMod2.look (p :: ps) t = some u := by
  rw [impl_RankMod2.look]
  split
  · exact ⟨_,rfl⟩
  · exact ⟨v,h⟩
theorem span_top : ∀ (ps : List (Nat × Nat)) (x : Nat),impl_RankMod2.Ok ps → InSpan (vals ps) x → x ≠ 0 → ∃ v,impl_RankMod2.look ps (impl_RankMod2.len x) = some v
  | [],x,_,h,h0 => absurd h h0
  | p :: ps,x,hk,h,h0 => by
    obtain ⟨h1,h2,h3⟩ := ok_tail hk
    rcases h with h | h
    · obtain ⟨v,hv⟩ := span_top ps x h1 h h0
      exact look_cons_some hv
    · by_cases hz : x ^^^ p.2 = 0
      · have e : x = p.2 := by rw [← xor_cancel x p.2,hz,Nat.zero_xor]
        refine ⟨p.2,?_⟩
        rw [e,h3,impl_RankMod2.look,if_pos rfl]
      · obtain ⟨v,hv⟩ := span_top ps (x ^^^ p.2) h1 h hz
        have hne : impl_RankMod2.len (x ^^^ p.2) ≠ impl_RankMod2.len p.2 := fun q => by rw [q,h3,h2] at hv;cases hv
        have e := len_xor hne
        rw [xor_cancel] at e
        rcases e with e | e
        · rw [e];exact look_cons_some hv
        · rw [e,h3];exact ⟨p.2,by rw [impl_RankMod2.look,if_pos rfl]⟩
theorem look_mem {ps : List (Nat × Nat)} {t v : Nat} (h : impl_RankMod2.look ps t = some v) : v ∈ vals ps := by
  induction ps with
  | nil => cases h
  | cons p ps ih =>
    rw [impl_RankMod2.look] at h
    split at h
    · cases h;exact List.mem_cons_self
    · exact List.mem_cons_of_mem _ (ih h)
theorem red_tells : ∀ (k : Nat) (ps : List (Nat × Nat)) (r : Nat),impl_RankMod2.Ok ps → impl_RankMod2.len r < k →
    (impl_RankMod2.red k ps r = ps ∧ InSpan (vals ps) r) ∨ (∃ u,impl_RankMod2.red k ps r = (impl_RankMod2.len u,u) :: ps ∧ InSpan (vals ps) (u ^^^ r) ∧ ¬ InSpan (vals ps) r)
  | 0,ps,r,_,hk => absurd hk (Nat.not_lt_zero _)
  | k + 1,ps,r,h,hk => by
    rw [impl_RankMod2.red]
    by_cases h0 : r = 0
    · rw [if_pos h0,h0];exact .inl ⟨rfl,span_zero _⟩
    · rw [if_neg h0]
      cases hl : impl_RankMod2.look ps (impl_RankMod2.len r) with
      | none =>
        refine .inr ⟨r,rfl,by rw [Nat.xor_self];exact span_zero _,fun hs => ?_⟩
        obtain ⟨v,hv⟩ := span_top ps r h hs h0
        rw [hl] at hv;cases hv
      | some v =>
        have hv := look_mem hl
        have h1 := h.1 _ _ hl
        have h2 := impl_RankMod2.xor_len h0 h1.1
        rcases red_tells k ps (r ^^^ v) h (by omega) with ⟨e,hs⟩ | ⟨u,e,hs,hn⟩
        · refine .inl ⟨e,?_⟩
          have := span_xor _ _ _ hs (span_mem hv)
          rw [xor_cancel] at this
          exact this
        · refine .inr ⟨u,e,?_,fun hr => hn (span_xor _ _ _ hr (span_mem hv))⟩
          have := span_xor _ _ _ hs (span_mem hv)
          rw [← Nat.xor_assoc,xor_cancel] at this
          exact this
def topN (a : Nat) : Nat := impl_RankMod2.len a - 1
theorem top_true {a : Nat} (h : a ≠ 0) : a.testBit (topN a) = true := impl_RankMod2.top h
theorem bit_mod {x i : Nat} : x % 2 ^ (i + 1) = (x.testBit i).toNat * 2 ^ i + x % 2 ^ i := by
  rw [Nat.mod_pow_succ,Nat.testBit_eq_decide_div_mod_eq]
  rcases Nat.mod_two_eq_zero_or_one (x / 2 ^ i) with h | h <;> rw [h] <;> simp <;> omega
theorem lt_by_bit {x y : Nat} (i : Nat) (hx : x.testBit i = false) (hy : y.testBit i = true) (h : ∀ j,i < j → x.testBit j = y.testBit j) : x < y := by
  have hp := Nat.two_pow_pos i
  have e : x / 2 ^ (i + 1) = y / 2 ^ (i + 1) := by
    apply Nat.eq_of_testBit_eq
    intro j
    rw [Nat.testBit_div_two_pow,Nat.testBit_div_two_pow]
    exact h _ (by omega)
  have h1 := Nat.mod_add_div x (2 ^ (i + 1))
  have h2 := Nat.mod_add_div y (2 ^ (i + 1))
  have h3 := Nat.mod_lt x hp
  rw [bit_mod,hx,e] at h1
  rw [bit_mod,hy] at h2
  simp only [Bool.toNat_false,Bool.toNat_true,Nat.zero_mul,Nat.one_mul,Nat.zero_add] at h1 h2
  omega
theorem min_xor {x a : Nat} (h : a ≠ 0) : min x (x ^^^ a) = if x.testBit (topN a) = true then x ^^^ a else x := by
  have ht := top_true h
  obtain ⟨h1,h2,h3⟩ := impl_RankMod2.len_pos h
  have hhi : ∀ i,topN a < i → a.testBit i = false := fun i hi => testBit_ge h2 (by unfold topN at hi;omega)
  have hdiff : ∀ i,topN a < i → (x ^^^ a).testBit i = x.testBit i := fun i hi => by rw [Nat.testBit_xor,hhi i hi,Bool.xor_false]
  cases hx : x.testBit (topN a) with
  | true =>
    rw [if_pos rfl]
    have : x ^^^ a < x := lt_by_bit (topN a) (by rw [Nat.testBit_xor,hx,ht];rfl) hx (fun j hj => hdiff j hj)
    omega
  | false =>
    rw [if_neg (by decide)]
    have : x < x ^^^ a := lt_by_bit (topN a) hx (by rw [Nat.testBit_xor,hx,ht];rfl) (fun j hj => (hdiff j hj).symm)
    omega
def redS : List Nat → Nat → Nat
  | [],x => x
  | a :: l,x => redS l (min x (x ^^^ a))
theorem redS_snoc (b : Nat) : ∀ (l : List Nat) (x : Nat),redS (l ++ [b]) x = min (redS l x) (redS l x ^^^ b)
  | [],x => rfl
  | a :: l,x => redS_snoc b l _
def Ech : List Nat → Prop
  | [] => True
  | a :: l => a ≠ 0 ∧ (∀ b ∈ l,b.testBit (topN a) = false) ∧ Ech l
theorem min_bit {x a t : Nat} (ha : a ≠ 0) (h : a.testBit t = false) : (min x (x ^^^ a)).testBit t = x.testBit t := by
  rw [min_xor ha]
  split
  · rw [Nat.testBit_xor,h,Bool.xor_false]
  · rfl
theorem redS_bit {t : Nat} : ∀ (l : List Nat) (x : Nat),Ech l → (∀ b ∈ l,b.testBit t = false) → (redS l x).testBit t = x.testBit t
  | [],_,_,_ => rfl
  | a :: l,x,he,h => by
    rw [redS,redS_bit l _ he.2.2 (fun b hb => h b (List.mem_cons_of_mem _ hb)),min_bit he.1 (h a List.mem_cons_self)]
theorem redS_span : ∀ (l : List Nat) (x : Nat),Ech l → InSpan l (redS l x ^^^ x)
  | [],x,_ => Nat.xor_self x
  | a :: l,x,he => by
    have ih := redS_span l (min x (x ^^^ a)) he.2.2
    rw [redS,min_xor he.1] at *
    split at ih
    next h =>
      rw [if_pos h]
      refine .inr ?_
      rw [← Nat.xor_assoc] at ih
      rw [Nat.xor_assoc,Nat.xor_comm x a,← Nat.xor_assoc]
      rw [Nat.xor_assoc,Nat.xor_comm x a,← Nat.xor_assoc] at ih
      exact ih
    next h => rw [if_neg h];exact .inl ih
theorem redS_clear : ∀ (l : List Nat) (x : Nat),Ech l → ∀ a ∈ l,(redS l x).testBit (topN a) = false
  | [],_,_,a,h => by cases h
  | b :: l,x,he,a,ha => by
    rw [redS]
    rcases List.mem_cons.mp ha with e | e
    · subst e
      rw [redS_bit l _ he.2.2 he.2.1,min_xor he.1]
      split
      next h => rw [Nat.testBit_xor,h,top_true he.1];rfl
      next h => simpa using h
    · exact redS_clear l _ he.2.2 a e
theorem span_bit {t : Nat} : ∀ (l : List Nat) (z : Nat),(∀ b ∈ l,b.testBit t = false) → InSpan l z → z.testBit t = false
  | [],z,_,h => by have h : z = 0 := h;rw [h];exact Nat.zero_testBit t
  | a :: l,z,hb,h => by
    rcases h with h | h
    · exact span_bit l z (fun b h => hb b (List.mem_cons_of_mem _ h)) h
    · have := span_bit l (z ^^^ a) (fun b h => hb b (List.mem_cons_of_mem _ h)) h
      rw [Nat.testBit_xor,hb a List.mem_cons_self,Bool.xor_false] at this
      exact this
theorem span_none : ∀ (l : List Nat) (z : Nat),Ech l → InSpan l z → (∀ a ∈ l,z.testBit (topN a) = false) → z = 0
  | [],z,_,h,_ => h
  | a :: l,z,he,h,hb => by
    rcases h with h | h
    · exact span_none l z he.2.2 h (fun b hb' => hb b (List.mem_cons_of_mem _ hb'))
    · have := span_bit l (z ^^^ a) he.2.1 h
      rw [Nat.testBit_xor,hb a List.mem_cons_self,top_true he.1] at this
      cases this
theorem redS_iff {l : List Nat} {x : Nat} (h : Ech l) : redS l x = 0 ↔ InSpan l x := by
  have h1 := redS_span l x h
  constructor
  · intro e;rw [e,Nat.zero_xor] at h1;exact h1
  · intro hx
    have := span_xor _ _ _ h1 hx
    rw [xor_cancel] at this
    exact span_none l _ h this (redS_clear l x h)
theorem ech_snoc {y : Nat} (hy : y ≠ 0) : ∀ {l : List Nat},Ech l → (∀ a ∈ l,y.testBit (topN a) = false) → Ech (l ++ [y])
  | [],_,_ => ⟨hy,(fun b h => by cases h),trivial⟩
  | a :: l,he,h => by
    refine ⟨he.1,fun b hb => ?_,ech_snoc hy he.2.2 (fun b hb => h b (List.mem_cons_of_mem _ hb))⟩
    rcases List.mem_append.mp hb with e | e
    · exact he.2.1 b e
    · rw [List.mem_singleton] at e;rw [e];exact h a List.mem_cons_self
def listS (l : List Int) : Nat → List Nat
  | 0 => []
  | i + 1 => if redS (listS l i) (rd l i).toNat = 0 then listS l i else listS l i ++ [redS (listS l i) (rd l i).toNat]
theorem listS_ech (l : List Int) : ∀ i,Ech (listS l i)
  | 0 => trivial
  | i + 1 => by
    rw [listS]
    split
    · exact listS_ech l i
    next h => exact ech_snoc h (listS_ech l i) (redS_clear _ _ (listS_ech l i))
theorem listS_length (l : List Int) : ∀ i,(listS l i).length ≤ i
  | 0 => Nat.le_refl _
  | i + 1 => by
    have := listS_length l i
    rw [listS]
    split
    · omega
    · rw [List.length_append,List.length_singleton];omega
theorem redS_lt : ∀ (l : List Nat) (x : Nat),x < 4294967296 → redS l x < 4294967296
  | [],_,h => h
  | a :: l,x,h => redS_lt l _ (by omega)
theorem listS_lt (l : List Int) (n : Nat) (hl : ∀ i : Nat,i < n → 0 ≤ rd l i ∧ rd l i < 4294967296) : ∀ i,i ≤ n → ∀ a ∈ listS l i,a < 4294967296
  | 0,_,a,h => by cases h
  | i + 1,hi,a,h => by
    rw [listS] at h
    split at h
    · exact listS_lt l n hl i (by omega) a h
    · rcases List.mem_append.mp h with e | e
      · exact listS_lt l n hl i (by omega) a e
      · rw [List.mem_singleton] at e
        rw [e]
        have := hl i (by omega)
        exact redS_lt _ _ (by omega)
theorem same_rank (l : List Int) (hl : ∀ i : Nat,i < l.length → 0 ≤ rd l i ∧ rd l i < 4294967296) (h32 : l.length ≤ 32) : ∀ i,i ≤ l.length →
    (∀ z,InSpan (vals (impl_RankMod2.all l i)) z ↔ InSpan (listS l i) z) ∧ (impl_RankMod2.all l i).length = (listS l i).length
  | 0,_ => ⟨fun z => Iff.rfl,rfl⟩
  | i + 1,hi => by
    obtain ⟨ih,ihl⟩ := same_rank l hl h32 i (by omega)
    have hok := (impl_RankMod2.all_ok l hl i (by omega) (by omega)).1
    have hr := hl i (by omega)
    have hlen := impl_RankMod2.len_lt (x := (rd l i).toNat) (by omega)
    have he := listS_ech l i
    rw [impl_RankMod2.all,listS]
    generalize (rd l i).toNat = r at hlen ⊢
    rcases red_tells 33 (impl_RankMod2.all l i) r hok (by omega) with ⟨e,hs⟩ | ⟨u,e,hs,hn⟩
    · rw [e,if_pos ((redS_iff he).mpr ((ih r).mp hs))]
      exact ⟨ih,ihl⟩
    · rw [e,if_neg (fun q => hn ((ih r).mpr ((redS_iff he).mp q)))]
      refine ⟨fun z => ?_,by rw [List.length_cons,List.length_append,List.length_singleton,ihl]⟩
      rw [span_snoc]
      show InSpan (vals (impl_RankMod2.all l i)) z ∨ InSpan (vals (impl_RankMod2.all l i)) (z ^^^ u) ↔ _
      rw [ih,ih]
      have h1 := (ih _).mp hs
      have h2 := redS_span (listS l i) r he
      have h3 := span_xor _ _ _ h1 h2
      generalize redS (listS l i) r = y at h2 h3 ⊢
      have e2 : u ^^^ r ^^^ (y ^^^ r) = u ^^^ y := by
        rw [Nat.xor_comm y r,← Nat.xor_assoc,xor_cancel]
      rw [e2] at h3
      constructor
      · rintro (h | h)
        · exact .inl h
        · have := span_xor _ _ _ h h3
          rw [← Nat.xor_assoc,xor_cancel] at this
          exact .inr this
      · rintro (h | h)
        · exact .inl h
        · have := span_xor _ _ _ h h3
          rw [Nat.xor_comm u y,← Nat.xor_assoc,xor_cancel] at this
          exact .inr this
def castL (l : List Nat) : List Int := List.map (fun n : Nat => (n : Int)) l
theorem castL_length (l : List Nat) : (castL l).length = l.length := by simp [castL]
theorem castL_rd {l : List Nat} {j : Nat} (h : j < l.length) : rd (castL l) (j : Int) = ((l[j] : Nat) : Int) := by
  unfold rd
  rw [Int.toNat_natCast]
  simp [castL,List.getD_eq_getElem?_getD,h]
theorem castL_snoc (l : List Nat) (a : Nat) : castL (l ++ [a]) = castL l ++ [(a : Int)] := by simp [castL]
theorem mn_cast (a b : Nat) : mn (a : Int) (b : Int) = ((min a b : Nat) : Int) := by unfold mn;split <;> omega
theorem spec_rank_l1 {l : List Int} {i : Nat} {S : List Nat} (hS : S.length ≤ 100) (hlt : ∀ a ∈ S,a < 4294967296) {x : Nat} (hx : x < 4294967296) (hi : i < 9223372036854775807) : ∀ (d k j : Nat),j + d = S.length → d < k →
    spec_RankMod2.l1 k l (castL S) i ((redS (S.take j) x : Nat) : Int) j = spec_RankMod2.l0 (k - d - 1) l (castL (if redS S x = 0 then S else S ++ [redS S x])) ((i + 1 : Nat) : Int) := by
  intro d
  induction d with
  | zero =>
    intro k j hj hk
    obtain ⟨k,rfl⟩ : ∃ m,k = m + 1 := ⟨k - 1,by omega⟩
    obtain rfl : j = S.length := by omega
    simp only [spec_RankMod2.l1]
    rw [List.take_length,if_neg (by rw [castL_length];omega),wrap64_succ (by omega)]
    by_cases h : redS S x = 0
    · rw [if_neg (by omega),if_pos h];rfl
    · rw [if_pos (by omega),if_pos (by rw [castL_length];omega),if_neg h,castL_snoc];rfl
  | succ d ih =>
    intro k j hj hk
    obtain ⟨k,rfl⟩ : ∃ m,k = m + 1 := ⟨k - 1,by omega⟩
    have hjl : j < S.length := by omega
    have hr := redS_lt (S.take j) x hx
    have ha := hlt S[j] (List.getElem_mem hjl)
    simp only [spec_RankMod2.l1]
    rw [if_pos (by rw [castL_length];omega),if_pos (Int.natCast_nonneg _),castL_rd hjl,xor_cast (by omega) (by omega),mn_cast,← redS_snoc,List.take_append_getElem hjl,wrap64_succ (by omega),show k + 1 - (d + 1) - 1 = k - d - 1 by omega]
    exact ih k (j + 1) (by omega) (by omega)
def rankI (l : List Int) : Int := if l.length ≤ 32 ∧ exN (fun i => impl_RankMod2.bad (rd l i)) l.length = false then (((listS l l.length).length : Nat) : Int) else -1
theorem good_row {l : List Int} {n : Nat} (h : exN (fun i => impl_RankMod2.bad (rd l i)) n = false) : ∀ i : Nat,i < n → 0 ≤ rd l i ∧ rd l i < 4294967296 := by
  intro i hi
  cases hc : impl_RankMod2.bad (rd l i) with
  | true => rw [exN_hit (p := fun i => impl_RankMod2.bad (rd l i)) hi hc] at h;cases h
  | false =>
    unfold impl_RankMod2.bad at hc
    rw [Bool.or_eq_false_iff,decide_eq_false_iff_not,bne_eq_false_iff_eq] at hc
    omega
theorem spec_rank_l0 (l : List Int) (hl : l.length < 1099511627776) : ∀ (d k i : Nat),i + d = l.length → d * 40 + 40 < k → i ≤ 32 → exN (fun i => impl_RankMod2.bad (rd l i)) i = false →
    spec_RankMod2.l0 k l (castL (listS l i)) i = some (rankI l) := by
  intro d
  induction d with
  | zero =>
    intro k i hi hk h32 hx
    obtain ⟨k,rfl⟩ : ∃ m,k = m + 1 := ⟨k - 1,by omega⟩
    obtain rfl : i = l.length := by omega
    simp only [spec_RankMod2.l0]
    rw [if_neg (by omega),rankI,if_pos ⟨h32,hx⟩,castL_length]
  | succ d ih =>
    intro k i hi hk h32 hx
    obtain ⟨k,rfl⟩ : ∃ m,k = m + 2 := ⟨k - 2,by omega⟩
    have hgood := good_row hx
    have hj : rankI l = -1 → spec_RankMod2.j1 (k + 1) l (castL (listS l i)) i true = some (rankI l) := by
      intro h
      simp only [spec_RankMod2.j1]
      rw [if_pos trivial,h]
    simp only [spec_RankMod2.l0]
    rw [if_pos (by omega),if_pos (Int.natCast_nonneg _),l1In_some _ _ _ _ rfl,Option.bind_some]
    by_cases h1 : 0 ≤ rd l i ∧ rd l i ≤ 4294967295
    · rw [if_pos (decide_eq_true h1)]
      by_cases h2 : i < 32
      · have hb : impl_RankMod2.bad (rd l i) = false := by
          unfold impl_RankMod2.bad
          rw [decide_eq_false (by omega),Bool.false_or,bne_eq_false_iff_eq]
          omega
        obtain ⟨x,hxr⟩ := Int.eq_ofNat_of_zero_le h1.1
        have h3 := listS_length l i
        have h4 := listS_lt l i hgood i (Nat.le_refl _)
        have h5 := spec_rank_l1 (l := l) (i := i) (S := listS l i) (by omega) h4 (x := x) (by omega) (by omega) (listS l i).length k 0 (by omega) (by omega)
        simp only [spec_RankMod2.j1]
        rw [if_neg (by rw [decide_eq_true_eq];omega),if_pos (Int.natCast_nonneg _),if_pos (by omega),hxr]
        refine Eq.trans h5 ?_
        have h6 := ih (k - (listS l i).length - 1) (i + 1) (by omega) (by omega) (by omega) (exN_skip hx hb)
        rw [listS,hxr,Int.toNat_natCast] at h6
        exact h6
      · rw [decide_eq_true (show (i : Int) > 31 by omega)]
        exact hj (by unfold rankI;rw [if_neg (fun q => by omega)])
    · rw [if_neg (by simpa using h1)]
      refine hj ?_
      unfold rankI
      rw [if_neg (fun q => ?_)]
      have := good_row q.2 i (by omega)
      omega
theorem spec_rank (l : List Int) (hl : l.length < 1099511627776) {k : Nat} (hk : l.length * 40 + 40 < k) : spec_RankMod2.f k l = some (rankI l) := show spec_RankMod2.l0 k l (castL (listS l 0)) ((0 : Nat) : Int) = _ from spec_rank_l0 l hl l.length k 0 (by omega) (by omega) (by omega) rfl
theorem impl_rank (l : List Int) (hl : l.length < 9223372036854775807) : impl_RankMod2.f l = some (rankI l) := by
  unfold impl_RankMod2.f rankI
  rw [if_pos hl]
  by_cases h : l.length ≤ 32
  · rw [if_pos h]
    cases hx : exN (fun i => impl_RankMod2.bad (rd l i)) l.length with
    | true => rw [if_pos rfl,if_neg (fun q => by cases q.2)]
    | false => rw [if_neg (by decide),if_pos ⟨h,rfl⟩,(same_rank l (good_row hx) h l.length (Nat.le_refl _)).2]
  · rw [if_neg h,if_neg (fun q => h q.1)]
end Go.Proofs.Ythlajlhjofjmcaa.U
namespace Go.Proofs.Ythlajlhjofjmcaa.U
open Go.RowKit Go.Proofs.YthlajlhjofjmcaaW.PrintWords Go.Proofs.YthlajlhjofjmcaaW.PrintLast Go.Proofs.YthlajlhjofjmcaaW.PrintMore Go.Proofs.Ythlajlhjofjmcaa.F Go.Proofs.Ythlajlhjofjmcaa.B
set_option linter.unusedVariables false
set_option linter.unusedSimpArgs false
def okL (n w : Nat) (s v : Int) (l : List Int) (x : Nat) : Bool := foolI n w s v (l ++ [(x : Int)])
theorem spec_grow {n w : Nat} (hn : n ≤ 4) (s v : Int) : ∀ (d k x : Nat) (l acc : List Int),x + d = 2 ^ n → l.length ≤ x → 2 * d + 500 < k →
    spec_l20Fooling.l0 k s v l acc x n w = some (allF (okL n w s v) d x l acc) := by
  have hp : 2 ^ n ≤ 2 ^ 4 := Nat.pow_le_pow_right (by decide) hn
  intro d
  induction d with
  | zero =>
    intro k x l acc hx hl hk
    obtain ⟨k,rfl⟩ : ∃ m,k = m + 1 := ⟨k - 1,by omega⟩
    rw [spec_l20Fooling.l0,if_pos (Int.natCast_nonneg _),shl1_of (by omega),if_neg (by omega),allF]
  | succ d ih =>
    intro k x l acc hx hl hk
    obtain ⟨k,rfl⟩ : ∃ m,k = m + 2 := ⟨k - 2,by omega⟩
    have hlen : (l ++ [(x : Int)]).length = l.length + 1 := by rw [List.length_append];rfl
    have hmul : (l ++ [(x : Int)]).length * ((l ++ [(x : Int)]).length + 5) + 2 < k + 1 := by
      rw [hlen]
      have : (l.length + 1) * (l.length + 1 + 5) ≤ 17 * 22 := Nat.mul_le_mul (by omega) (by omega)
      omega
    rw [spec_l20Fooling.l0,if_pos (Int.natCast_nonneg _),shl1_of (by omega),if_pos (by omega),Option.bind_some,if_pos (by rw [List.length_nil];omega),Option.bind_some,List.nil_append,if_pos (by omega),Option.bind_some,spec_fooling _ _ _ _ _ (by omega) hmul,Option.bind_some,wrap64_succ (by omega),allF]
    have hc : foolI n w s v (l ++ [(x : Int)]) = okL n w s v l x := rfl
    rw [hc]
    cases okL n w s v l x with
    | false =>
      rw [if_neg (by decide),if_neg (by decide)]
      exact ih (k + 1) (x + 1) l acc (by omega) (by omega) (by omega)
    | true =>
      rw [if_pos rfl,if_pos rfl,spec_l20Fooling.f,ih k (x + 1) (l ++ [(x : Int)]) _ (by omega) (by omega) (by omega),Option.bind_some]
      unfold pick
      generalize allF (okL n w s v) d (x + 1) (l ++ [(x : Int)]) (l ++ [(x : Int)]) = y
      by_cases h : acc.length < y.length
      · rw [if_pos (show (y.length : Int) > (acc.length : Int) by omega),if_pos h]
        exact ih (k + 1) (x + 1) l y (by omega) (by omega) (by omega)
      · rw [if_neg (show ¬ (y.length : Int) > (acc.length : Int) by omega),if_neg h]
        exact ih (k + 1) (x + 1) l acc (by omega) (by omega) (by omega)
def largeI (a b s v : Int) : List Int × Bool := if ((isTab a b && decide (a ≤ 4)) && decide (0 ≤ s ∧ s ≤ a)) && decide (0 ≤ v ∧ v ≤ 1) then (allF (okL a.toNat b.toNat s v) (2 ^ a.toNat) 0 [] [],true) else ([],false)
theorem spec_large (a b s v : Int) {k : Nat} (hk : 1000 < k) : spec_LargestFooling.f k a b s v = some (largeI a b s v) := by
  unfold spec_LargestFooling.f largeI
  rw [spec_isTable,Option.bind_some]
  cases hT : isTab a b with
  | false => rw [if_neg (by decide),Bool.false_and,Bool.false_and,Bool.false_and,if_neg (by decide)]
  | true =>
    obtain ⟨n,w,rfl,rfl,ht⟩ := tab_of hT
    rw [if_pos rfl,Bool.true_and]
    by_cases h4 : (n : Int) > 4
    · rw [if_pos h4,decide_eq_false (show ¬ (n : Int) ≤ 4 by omega),Bool.false_and,Bool.false_and,if_neg (by decide)]
    · rw [if_neg h4,decide_eq_true (show (n : Int) ≤ 4 by omega),Bool.true_and,l1In_some _ _ _ _ rfl,Option.bind_some]
      by_cases h5 : 0 ≤ s ∧ s ≤ (n : Int)
      · rw [if_pos (decide_eq_true h5),decide_eq_true h5,Bool.true_and,l1In_some _ _ _ _ rfl,Option.bind_some]
        by_cases h6 : 0 ≤ v ∧ v ≤ 1
        · obtain ⟨k,rfl⟩ : ∃ m,k = m + 1 := ⟨k - 1,by omega⟩
          have hp : 2 ^ n ≤ 2 ^ 4 := Nat.pow_le_pow_right (by decide) (show n ≤ 4 by omega)
          have h := spec_grow (w := w) (show n ≤ 4 by omega) s v (2 ^ n) k 0 [] [] (by omega) (Nat.le_refl _) (by omega)
          have h' : spec_l20Fooling.l0 k s v [] [] 0 n w = some _ := h
          rw [if_pos (decide_eq_true h6),if_pos (decide_eq_true h6),spec_l20Fooling.f,h',Option.bind_some,Int.toNat_natCast,Int.toNat_natCast]
        · rw [if_neg (fun q => h6 (of_decide_eq_true q)),if_neg (fun q => h6 (of_decide_eq_true q))]
      · rw [if_neg (fun q => h5 (of_decide_eq_true q)),decide_eq_false h5,Bool.false_and,if_neg (by decide)]
theorem allN_congr' {p q : Nat → Bool} {m : Nat} (h : ∀ i,i < m → p i = q i) : allN p m = allN q m := by
  rw [Bool.eq_iff_iff,allN_iff,allN_iff]
  exact ⟨fun k i hi => by rw [← h i hi];exact k i hi,fun k i hi => by rw [h i hi];exact k i hi⟩
theorem not_exN (p : Nat → Bool) (m : Nat) : (!(exN (fun i => !(p i)) m)) = allN p m := by
  induction m with
  | zero => rfl
  | succ m ih => rw [exN,allN,← ih,Bool.not_or,Bool.not_not]
def Good (n w s : Nat) (v : Bool) (l : List Int) (x : Nat) : Prop := allN (foolE n s w v l) l.length = true ∧ ∀ i : Nat,i < l.length → rd l i < (x : Int)
theorem foolE_left {n w s : Nat} {v : Bool} {l : List Int} {x : Int} {i : Nat} (hi : i < l.length) : foolE n s w v (l ++ [x]) i = foolE n s w v l i := by
  unfold foolE elemB apB
  rw [rd_left hi,rd_left (show i - 1 < l.length by omega)]
  congr 1
  exact allN_congr' (fun j hj => by rw [rd_left (show j < l.length by omega)])
theorem fool_snoc {n w s x : Nat} {v : Bool} {l : List Int} (hx : x < 2 ^ n) (h : Good n w s v l x) : allN (foolE n s w v (l ++ [(x : Int)])) (l ++ [(x : Int)]).length = ((w.testBit x == v) && allN (fun j => apX s w v (rd l j).toNat x) l.length) := by
  rw [List.length_append,List.length_singleton,allN,allN_congr' (fun i hi => foolE_left hi),h.1,Bool.true_and]
  unfold foolE elemB
  rw [rd_last,Int.toNat_natCast,decide_eq_true (show (0 : Int) ≤ (x : Int) ∧ (x : Int) < ((2 ^ n : Nat) : Int) by omega),Bool.true_and]
  have e : (decide (l.length = 0) || decide (rd (l ++ [(x : Int)]) ((l.length - 1 : Nat) : Int) < (x : Int))) = true := by
    by_cases h0 : l.length = 0
    · rw [decide_eq_true h0,Bool.true_or]
    · rw [rd_left (show l.length - 1 < l.length by omega),decide_eq_true (h.2 (l.length - 1) (by omega)),Bool.or_true]
  rw [e,Bool.and_true]
  congr 1
  exact allN_congr' (fun j hj => by unfold apB;rw [rd_left hj,rd_last,Int.toNat_natCast])
theorem good_snoc {n w s x : Nat} {v : Bool} {l : List Int} (hx : x < 2 ^ n) (h : Good n w s v l x) (hok : ((w.testBit x == v) && allN (fun j => apX s w v (rd l j).toNat x) l.length) = true) : Good n w s v (l ++ [(x : Int)]) (x + 1) := by
  refine ⟨(fool_snoc hx h).trans hok,fun i hi => ?_⟩
  rw [List.length_append,List.length_singleton] at hi
  by_cases hl : i < l.length
  · rw [rd_left hl];have := h.2 i hl;omega
  · obtain rfl : i = l.length := by omega
    rw [rd_last];omega
theorem good_next {n w s x : Nat} {v : Bool} {l : List Int} (h : Good n w s v l x) : Good n w s v l (x + 1) := ⟨h.1,fun i hi => by have := h.2 i hi;omega⟩
theorem allF_congr {n w s : Nat} {v : Bool} {ok ok' : List Int → Nat → Bool} (h1 : ∀ l x,x < 2 ^ n → Good n w s v l x → ok l x = ((w.testBit x == v) && allN (fun j => apX s w v (rd l j).toNat x) l.length)) (h2 : ∀ l x,x < 2 ^ n → Good n w s v l x → ok' l x = ((w.testBit x == v) && allN (fun j => apX s w v (rd l j).toNat x) l.length)) :
    ∀ (d x : Nat) (l acc : List Int),x + d = 2 ^ n → Good n w s v l x → allF ok d x l acc = allF ok' d x l acc := by
  intro d
  induction d with
  | zero => intro x l acc _ _;rfl
  | succ d ih =>
    intro x l acc hx hg
    rw [allF,allF,h1 l x (by omega) hg,h2 l x (by omega) hg]
    split
    next hok => rw [ih (x + 1) (l ++ [(x : Int)]) _ (by omega) (good_snoc (by omega) hg hok),ih (x + 1) l _ (by omega) (good_next hg)]
    next => exact ih (x + 1) l _ (by omega) (good_next hg)
theorem elem_range {n w s : Nat} {v : Bool} {l : List Int} {x i : Nat} (h : Good n w s v l x) (hi : i < l.length) : 0 ≤ rd l i := by
  have h1 := allN_iff.mp h.1 i hi
  unfold foolE elemB at h1
  simp only [Bool.and_eq_true,decide_eq_true_eq] at h1
  exact h1.1.1.1.1
theorem largeI_length (a b s v : Int) : (largeI a b s v).1.length ≤ 100 := by
  unfold largeI
  split
  next h =>
    rw [Bool.and_eq_true,Bool.and_eq_true,Bool.and_eq_true,decide_eq_true_eq] at h
    obtain ⟨n,w,rfl,rfl,ht⟩ := tab_of h.1.1.1
    have h4 : n ≤ 4 := by have := h.1.1.2;omega
    have hp : 2 ^ n ≤ 2 ^ 4 := Nat.pow_le_pow_right (by decide) h4
    have := allF_le (okL (n : Int).toNat (w : Int).toNat s v) (2 ^ (n : Int).toNat) 0 [] []
    rw [Int.toNat_natCast] at this ⊢
    simp only [List.length_nil] at this
    show (allF _ _ _ _ _).length ≤ 100
    omega
  next => exact Nat.zero_le _
theorem isBit_some (v : Int) : impl_isBit.f v = some (decide (0 ≤ v ∧ v ≤ 1)) := by
  unfold impl_isBit.f
  by_cases h : v = 0
  · rw [if_pos h,decide_eq_true (by omega)]
  · rw [if_neg h];congr 1;rw [Bool.eq_iff_iff,beq_iff_eq,decide_eq_true_eq];omega
theorem impl_large {a b : Int} (s v : Int) (h0 : -9223372036854775808 ≤ b) (h1 : b ≤ 9223372036854775807) : impl_LargestFooling.f a b s v = some (largeI a b s v) := by
  unfold impl_LargestFooling.f largeI
  rw [impl_isSplit s h0 h1,Option.bind_some]
  unfold splitI
  cases hT : isTab a b with
  | false => rw [Bool.false_and,if_neg (by decide),Bool.false_and,Bool.false_and,Bool.false_and,if_neg (by decide)]
  | true =>
    rw [Bool.true_and,Bool.true_and]
    by_cases h5 : 0 ≤ s ∧ s ≤ a
    · rw [decide_eq_true h5,if_pos rfl,Bool.and_true]
      by_cases h4 : a > 4
      · rw [if_pos h4,decide_eq_false (show ¬ a ≤ 4 by omega),Bool.false_and,if_neg (by decide)]
      · rw [if_neg h4,decide_eq_true (show a ≤ 4 by omega),Bool.true_and,isBit_some,Option.bind_some]
        by_cases h6 : 0 ≤ v ∧ v ≤ 1
        · rw [if_pos (decide_eq_true h6),if_pos (decide_eq_true h6)]
          obtain ⟨n,w,rfl,rfl,ht⟩ := tab_of hT
          obtain ⟨t,rfl⟩ := Int.eq_ofNat_of_zero_le h5.1
          have h4' : n ≤ 4 := by omega
          have hp : 2 ^ n ≤ 2 ^ 4 := Nat.pow_le_pow_right (by decide) h4'
          rw [Int.toNat_natCast,Int.toNat_natCast]
          obtain ⟨vb,hv⟩ : ∃ vb : Bool,v = ((vb.toNat : Nat) : Int) := ⟨_,val_of h6⟩
          have hap : ∀ x y : Nat,x < 2 ^ n → y < 2 ^ n → impl_Table_apartBy.f n w t v y x = some (apX t w vb y x) := fun x y hx hy => by rw [hv];exact impl_apart vb ht (by omega) (by omega) (by omega)
          have hat : ∀ x : Nat,x < 2 ^ n → impl_Table_at.f n w x = some ((bitN w x : Nat) : Int) := fun x hx => at_some' ht.lt63 (by omega)
          have hdom : growDom n w t v (2 ^ n) = true := by
            unfold growDom
            rw [size_some _ (by omega),beq_self_eq_true,decide_eq_true (by omega),Bool.true_and,Bool.true_and,allN_iff]
            intro x hx
            rw [hat x hx,Option.isSome_some,Bool.true_and,allN_iff]
            intro y hy
            rw [hap x y hx hy]
            rfl
          rw [if_pos hdom,cutF_nil]
          congr 2
          refine allF_congr (n := n) (w := w) (s := t) (v := vb) (fun l x hx hg => ?_) (fun l x hx hg => ?_) (2 ^ n) 0 [] [] (by omega) ⟨rfl,fun i hi => absurd hi (Nat.not_lt_zero _)⟩
          · unfold growOk growAt_
            rw [hat x hx,Option.getD_some,not_exN (fun i => growAp n w t v (rd l i).toNat x)]
            congr 1
            · rw [hv,Bool.eq_iff_iff,decide_eq_true_eq,beq_iff_eq]
              exact bit_is' vb w x
            · refine allN_congr' (fun j hj => ?_)
              unfold growAp
              have hr := elem_range hg hj
              have hlt := hg.2 j hj
              rw [hap x (rd l j).toNat hx (by omega),Option.getD_some]
          · unfold okL foolI
            have hsp : splitI n w t = true := by unfold splitI;rw [hT,decide_eq_true h5];rfl
            have hvb : (v == 1) = vb := by rw [hv];cases vb <;> rfl
            rw [hsp,decide_eq_true h6,Bool.true_and,Bool.true_and,Int.toNat_natCast,Int.toNat_natCast,Int.toNat_natCast,hvb]
            exact fool_snoc hx hg
        · rw [if_neg (fun q => h6 (of_decide_eq_true q)),if_neg (fun q => h6 (of_decide_eq_true q))]
    · rw [decide_eq_false h5,if_neg (by decide),Bool.and_false,Bool.false_and,if_neg (by decide)]
end Go.Proofs.Ythlajlhjofjmcaa.U
