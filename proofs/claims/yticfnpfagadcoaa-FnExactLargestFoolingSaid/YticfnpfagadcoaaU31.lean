/- Lists of inputs that fool: both ways. -/
import Derived.Test.YticfnpfagadcoaaUG
import Derived.Test.YticfnpfagadcoaaUI
import Derived.Test.YticfnpfagadcoaaU25S
import Derived.Test.YticfnpfagadcoaaFimplTableapartBy
import Derived.Test.YticfnpfagadcoaaFspecIsFooling
namespace Go.Proofs.Yticfnpfagadcoaa.U
open Go.RowKit Go.Proofs.YticfnpfagadcoaaW.PrintWords Go.Proofs.YticfnpfagadcoaaW.PrintLast Go.Proofs.YticfnpfagadcoaaW.PrintMore Go.Proofs.Yticfnpfagadcoaa.F Go.Proofs.Yticfnpfagadcoaa.B
set_option linter.unusedVariables false
set_option linter.unusedSimpArgs false
set_option maxRecDepth 100000
/-- The first variables of x, the others of y. -/
def comb (s x y : Nat) : Nat := x % 2 ^ s + (y - y % 2 ^ s)
theorem comb_facts {s x y : Nat} (hs : s ≤ 5) (hx : x < 32) (hy : y < 32) : (x &&& (2 ^ s - 1)) ||| ldiff y (2 ^ s - 1) = comb s x y ∧ ldiff y (2 ^ s - 1) < 32 ∧ comb s x y < 64 := by
  have h : ∀ s : Fin 6, ∀ x : Fin 32, ∀ y : Fin 32, (x.val &&& (2 ^ s.val - 1)) ||| ldiff y.val (2 ^ s.val - 1) = comb s.val x.val y.val ∧ ldiff y.val (2 ^ s.val - 1) < 32 ∧ comb s.val x.val y.val < 64 := by decide +kernel
  exact h ⟨s, by omega⟩ ⟨x, hx⟩ ⟨y, hy⟩
/-- Of two inputs, one of the two others does not have the value. -/
def apX (s w : Nat) (v : Bool) (x y : Nat) : Bool := (w.testBit (comb s x y) != v) || (w.testBit (comb s y x) != v)
def apB (s w : Nat) (v : Bool) (l : List Int) (i j : Nat) : Bool := apX s w v (rd l j).toNat (rd l i).toNat
def elemB (n w : Nat) (v : Bool) (l : List Int) (i : Nat) : Bool := (decide (0 ≤ rd l i ∧ rd l i < ((2 ^ n : Nat) : Int)) && (w.testBit (rd l i).toNat == v)) && (decide (i = 0) || decide (rd l ((i - 1 : Nat) : Int) < rd l i))
def foolE (n s w : Nat) (v : Bool) (l : List Int) (i : Nat) : Bool := elemB n w v l i && allN (apB s w v l i) i
theorem low_cast {s : Nat} (hs : s ≤ 5) : wrap64 (shl .i64 1 (s : Int) - 1) = ((2 ^ s - 1 : Nat) : Int) := by
  have hM := pow_le hs
  have hp := pow_pos s
  rw [shl1_of (by omega), wrap64_of (by omega) (by omega)]
  omega
theorem bit_ne (b : Bool) (w x : Nat) : ((((bitN w x : Nat) : Int)) != ((b.toNat : Nat) : Int)) = (w.testBit x != b) := by unfold bitN; cases w.testBit x <;> cases b <;> rfl
theorem bit_is' (b : Bool) (w x : Nat) : ((((bitN w x : Nat) : Int)) = ((b.toNat : Nat) : Int)) ↔ w.testBit x = b := by unfold bitN; cases w.testBit x <;> cases b <;> simp
theorem impl_apart {n s w x y : Nat} (v : Bool) (ht : Tab n w) (hs : s ≤ 5) (hx : x < 32) (hy : y < 32) : impl_Table_apartBy.f n w s ((v.toNat : Nat) : Int) x y = some (apX s w v x y) := by
  obtain ⟨e1, l1, c1⟩ := comb_facts hs hx hy
  obtain ⟨e2, l2, c2⟩ := comb_facts hs hy hx
  have hM := pow_le hs
  have a1 : x &&& (2 ^ s - 1) ≤ x := Nat.and_le_left
  have a2 : y &&& (2 ^ s - 1) ≤ y := Nat.and_le_left
  unfold impl_Table_apartBy.f apX
  rw [if_pos (Int.natCast_nonneg _), low_cast hs, and_cast (by omega) (by omega), andNot_cast (by omega) (by omega), or_cast (by omega) (by omega), e1, at_some' ht.lt63 (by omega), Option.bind_some, and_cast (by omega) (by omega), andNot_cast (by omega) (by omega), or_cast (by omega) (by omega), e2, at_some' ht.lt63 (by omega), Option.bind_some, bit_ne]
  by_cases h : w.testBit (comb s x y) = v
  · rw [if_pos ((bit_is' v w _).mpr h), h, bne_self_eq_false, Bool.false_or]
  · rw [if_neg (fun q => h ((bit_is' v w _).mp q)), show (w.testBit (comb s x y) != v) = true from bne_iff_ne.mpr h, Bool.true_or]
theorem rd_take {l : List Int} {i j : Nat} (h : j < i) : rd (l.take i) (j : Int) = rd l j := by
  unfold rd
  rw [Int.toNat_natCast, List.getD_eq_getElem?_getD, List.getD_eq_getElem?_getD, List.getElem?_take_of_lt h]
theorem in_of {n w : Nat} {v : Bool} {l : List Int} {i : Nat} (ht : Tab n w) (h : elemB n w v l i = true) : ∃ x : Nat, rd l i = x ∧ x < 2 ^ n ∧ x < 32 ∧ w.testBit x = v ∧ (i = 0 ∨ rd l ((i - 1 : Nat) : Int) < rd l i) := by
  unfold elemB at h
  rw [Bool.and_eq_true, Bool.and_eq_true, decide_eq_true_eq, beq_iff_eq, Bool.or_eq_true, decide_eq_true_eq, decide_eq_true_eq] at h
  obtain ⟨x, hx⟩ := Int.eq_ofNat_of_zero_le h.1.1.1
  have hM := pow_le ht.1
  have h1 := h.1.1.2
  have h2 := h.1.2
  rw [hx] at h1 h2
  exact ⟨x, hx, by omega, by omega, h2, h.2⟩
theorem elem_in {n s w : Nat} {v : Bool} {l : List Int} {i j : Nat} (ht : Tab n w) (h : allN (foolE n s w v l) i = true) (hj : j < i) : ∃ x : Nat, rd l j = x ∧ x < 32 := by
  have := allN_iff.mp h j hj
  unfold foolE at this
  rw [Bool.and_eq_true] at this
  obtain ⟨x, hx, _, h32, _⟩ := in_of ht this.1
  exact ⟨x, hx, h32⟩
theorem sum_comb {s x y : Nat} (hs : s ≤ 5) (hx : x < 32) (hy : y < 32) : wrap64 (wrap64 (Go.bits .and .i64 (x : Int) ((2 ^ s - 1 : Nat) : Int) + (y : Int)) - Go.bits .and .i64 (y : Int) ((2 ^ s - 1 : Nat) : Int)) = ((comb s x y : Nat) : Int) := by
  have hM := pow_le hs
  have h1 : x % 2 ^ s ≤ x := Nat.mod_le _ _
  have h2 : y % 2 ^ s ≤ y := Nat.mod_le _ _
  rw [and_cast (by omega) (by omega), and_cast (by omega) (by omega), Nat.and_two_pow_sub_one_eq_mod, Nat.and_two_pow_sub_one_eq_mod]
  unfold comb
  rw [wrap64_of (n := ((x % 2 ^ s : Nat) : Int) + (y : Int)) (by omega) (by omega), wrap64_of (by omega) (by omega)]
  omega
theorem spec_fool_l1 {n s w i : Nat} {v : Bool} {l : List Int} (ht : Tab n w) (hs : s ≤ 5) (hi : i < l.length) (hl : l.length < 9223372036854775807) (ha : allN (foolE n s w v l) i = true) {x : Nat} (hx : rd l i = x) (hx32 : x < 32) : ∀ (d k j : Nat), j + d = i → d < k → allN (apB s w v l i) j = true →
    spec_IsFooling.l1 k ((v.toNat : Nat) : Int) l ((2 ^ s - 1 : Nat) : Int) i j n w = if allN (apB s w v l i) i = true then spec_IsFooling.l0 (k - d - 1) ((v.toNat : Nat) : Int) l ((2 ^ s - 1 : Nat) : Int) ((i + 1 : Nat) : Int) n w else some false := by
  intro d
  induction d with
  | zero =>
    intro k j hj hk hq
    obtain ⟨k, rfl⟩ : ∃ m, k = m + 1 := ⟨k - 1, by omega⟩
    obtain rfl : j = i := by omega
    simp only [spec_IsFooling.l1]
    rw [if_neg (by omega), if_pos hq, wrap64_succ (by omega)]
    rfl
  | succ d ih =>
    intro k j hj hk hq
    obtain ⟨k, rfl⟩ : ∃ m, k = m + 1 := ⟨k - 1, by omega⟩
    obtain ⟨y, hy, hy32⟩ := elem_in ht ha (show j < i by omega)
    have e : apB s w v l i j = apX s w v y x := by unfold apB; rw [hx, hy, Int.toNat_natCast, Int.toNat_natCast]
    have c1 := (comb_facts hs hx32 hy32).2.2
    have c2 := (comb_facts hs hy32 hx32).2.2
    have hn : apB s w v l i j = true → spec_IsFooling.l1 k ((v.toNat : Nat) : Int) l ((2 ^ s - 1 : Nat) : Int) i (wrap64 ((j : Int) + 1)) n w = if allN (apB s w v l i) i = true then spec_IsFooling.l0 (k + 1 - (d + 1) - 1) ((v.toNat : Nat) : Int) l ((2 ^ s - 1 : Nat) : Int) ((i + 1 : Nat) : Int) n w else some false := by
      intro hb
      rw [wrap64_succ (by omega), show k + 1 - (d + 1) - 1 = k - d - 1 by omega]
      exact ih k (j + 1) (by omega) (by omega) (allN_next hq hb)
    simp only [spec_IsFooling.l1]
    rw [if_pos (by omega), if_pos (Int.natCast_nonneg _), if_pos (by omega), if_pos (Int.natCast_nonneg _), if_pos (by omega), hy, hx, sum_comb hs hx32 hy32, sum_comb hs hy32 hx32, if_pos (Int.natCast_nonneg _), bit_cast ht.lt63 (by omega), if_pos (Int.natCast_nonneg _), bit_cast ht.lt63 (by omega)]
    by_cases h1 : w.testBit (comb s x y) = v
    · rw [if_pos ((bit_is' v w _).mpr h1)]
      by_cases h2 : w.testBit (comb s y x) = v
      · have hb : apB s w v l i j = false := by rw [e]; unfold apX; rw [h1, h2, bne_self_eq_false]; rfl
        rw [if_pos ((bit_is' v w _).mpr h2), if_neg (by rw [allN_miss (p := apB s w v l i) (i := j) (by omega) hb]; decide)]
      · rw [if_neg (fun q => h2 ((bit_is' v w _).mp q))]
        exact hn (by rw [e]; unfold apX; rw [show (w.testBit (comb s y x) != v) = true from bne_iff_ne.mpr h2, Bool.true_or])
    · rw [if_neg (fun q => h1 ((bit_is' v w _).mp q))]
      exact hn (by rw [e]; unfold apX; rw [show (w.testBit (comb s x y) != v) = true from bne_iff_ne.mpr h1, Bool.or_true])
theorem spec_fool_j2 {n s w i : Nat} {v : Bool} {l : List Int} (ht : Tab n w) (hs : s ≤ 5) (hi : i < l.length) (hl : l.length < 9223372036854775807) (ha : allN (foolE n s w v l) i = true) {x : Nat} (hx : rd l i = x) (hx32 : x < 32) {k : Nat} (hk : i + 2 < k) :
    spec_IsFooling.j2 k ((v.toNat : Nat) : Int) l ((2 ^ s - 1 : Nat) : Int) i false n w = if allN (apB s w v l i) i = true then spec_IsFooling.l0 (k - i - 2) ((v.toNat : Nat) : Int) l ((2 ^ s - 1 : Nat) : Int) ((i + 1 : Nat) : Int) n w else some false := by
  obtain ⟨k, rfl⟩ : ∃ m, k = m + 1 := ⟨k - 1, by omega⟩
  simp only [spec_IsFooling.j2]
  rw [if_neg (by decide), show k + 1 - i - 2 = k - i - 1 by omega]
  exact spec_fool_l1 ht hs hi hl ha hx hx32 i k 0 (by omega) (by omega) rfl
theorem spec_fool_l0 {n s w : Nat} {v : Bool} {l : List Int} (ht : Tab n w) (hs : s ≤ 5) (hl : l.length < 9223372036854775807) : ∀ (d k i : Nat), i + d = l.length → d * (l.length + 5) < k → allN (foolE n s w v l) i = true →
    spec_IsFooling.l0 k ((v.toNat : Nat) : Int) l ((2 ^ s - 1 : Nat) : Int) i n w = some (allN (foolE n s w v l) l.length) := by
  have hM := pow_le ht.1
  have hp := pow_pos n
  have hn := ht.1
  intro d
  induction d with
  | zero =>
    intro k i hi hk ha
    obtain ⟨k, rfl⟩ : ∃ m, k = m + 1 := ⟨k - 1, by omega⟩
    obtain rfl : i = l.length := by omega
    simp only [spec_IsFooling.l0]
    rw [if_neg (by omega), ha]
  | succ d ih =>
    intro k i hi hk ha
    rw [Nat.succ_mul] at hk
    obtain ⟨k, rfl⟩ : ∃ m, k = m + 2 := ⟨k - 2, by omega⟩
    have hno : elemB n w v l i = false → allN (foolE n s w v l) l.length = false := fun h => allN_miss (p := foolE n s w v l) (i := i) (by omega) (by unfold foolE; rw [h, Bool.false_and])
    have hj : spec_IsFooling.j2 (k + 1) ((v.toNat : Nat) : Int) l ((2 ^ s - 1 : Nat) : Int) i true n w = some false := by
      simp only [spec_IsFooling.j2]
      rw [if_pos trivial]
    have hin : spec_l1In.f (rd l i) 0 (wrap64 (((2 ^ n : Nat) : Int) - 1)) = some (decide (0 ≤ rd l i ∧ rd l i < ((2 ^ n : Nat) : Int))) := by
      rw [wrap64_of (by omega) (by omega)]
      exact l1In_some _ _ _ _ (decide_eq_decide.mpr (by omega))
    simp only [spec_IsFooling.l0]
    rw [if_pos (by omega), if_pos (Int.natCast_nonneg _), if_pos (Int.natCast_nonneg _), shl1_of (by omega), hin, Option.bind_some]
    by_cases h1 : 0 ≤ rd l i ∧ rd l i < ((2 ^ n : Nat) : Int)
    · rw [if_pos (decide_eq_true h1)]
      obtain ⟨x, hx⟩ := Int.eq_ofNat_of_zero_le h1.1
      have hx2 : x < 2 ^ n := by have := h1.2; rw [hx] at this; omega
      have hbit : Go.bits .and .i64 (shr .i64 (w : Int) (rd l i)) 1 = ((bitN w x : Nat) : Int) := by rw [hx]; exact bit_cast ht.lt63 (by omega)
      rw [hbit, bit_ne]
      have hend : (i = 0 ∨ rd l ((i - 1 : Nat) : Int) < rd l i) → spec_IsFooling.j2 (k + 1) ((v.toNat : Nat) : Int) l ((2 ^ s - 1 : Nat) : Int) i (w.testBit x != v) n w = some (allN (foolE n s w v l) l.length) := by
        intro h3
        by_cases h2 : w.testBit x = v
        · have he : elemB n w v l i = true := by
            unfold elemB
            rw [decide_eq_true h1, hx, Int.toNat_natCast, h2, beq_self_eq_true, ← hx]
            rcases h3 with h3 | h3
            · rw [decide_eq_true h3, Bool.true_or]; rfl
            · rw [decide_eq_true h3, Bool.or_true]; rfl
          rw [h2, bne_self_eq_false, spec_fool_j2 ht hs (by omega) hl ha hx (by omega) (by omega)]
          cases hq : allN (apB s w v l i) i with
          | true =>
            rw [if_pos rfl]
            exact ih _ (i + 1) (by omega) (by omega) (allN_next ha (by unfold foolE; rw [he, hq]; rfl))
          | false => rw [if_neg (by decide), allN_miss (p := foolE n s w v l) (i := i) (by omega) (by unfold foolE; rw [hq, Bool.and_false])]
        · rw [show (w.testBit x != v) = true from bne_iff_ne.mpr h2, hj, hno (by unfold elemB; rw [hx, Int.toNat_natCast, show (w.testBit x == v) = false from beq_eq_false_iff_ne.mpr h2, Bool.and_false, Bool.false_and])]
      by_cases h0 : (i : Int) > 0
      · have em : wrap64 ((i : Int) - 1) = ((i - 1 : Nat) : Int) := by rw [wrap64_of (by omega) (by omega)]; omega
        rw [if_pos h0, em, if_pos (Int.natCast_nonneg _), if_pos (by omega)]
        by_cases h3 : rd l ((i - 1 : Nat) : Int) < rd l i
        · rw [if_neg (show ¬ rd l i ≤ rd l ((i - 1 : Nat) : Int) by omega), if_pos h1.1]
          exact hend (.inr h3)
        · rw [if_pos (show rd l i ≤ rd l ((i - 1 : Nat) : Int) by omega), hj, hno (by unfold elemB; rw [decide_eq_false h3, decide_eq_false (show ¬ i = 0 by omega)]; exact Bool.and_false _)]
      · rw [if_neg h0, if_pos h1.1]
        exact hend (.inl (by omega))
    · rw [if_neg (by simpa using h1), hj, hno (by unfold elemB; rw [decide_eq_false h1, Bool.false_and, Bool.false_and])]
/-- What both say. -/
def foolI (a b s v : Int) (l : List Int) : Bool := (splitI a b s && decide (0 ≤ v ∧ v ≤ 1)) && allN (foolE a.toNat s.toNat b.toNat (v == 1) l) l.length
theorem val_of {v : Int} (h : 0 ≤ v ∧ v ≤ 1) : v = (((v == 1).toNat : Nat) : Int) := by
  rcases (show v = 0 ∨ v = 1 by omega) with rfl | rfl <;> rfl
theorem spec_fooling (a b s v : Int) (l : List Int) (hl : l.length < 9223372036854775807) {k : Nat} (hk : l.length * (l.length + 5) + 2 < k) : spec_IsFooling.f k a b s v l = some (foolI a b s v l) := by
  obtain ⟨k, rfl⟩ : ∃ m, k = m + 1 := ⟨k - 1, by omega⟩
  unfold spec_IsFooling.f foolI
  rw [spec_isTable, Option.bind_some]
  have hj : spec_IsFooling.j0 (k + 1) s v l true a b = some false := by
    simp only [spec_IsFooling.j0]
    rw [if_pos trivial]
  cases hT : isTab a b with
  | false => rw [if_neg (by decide), hj, show splitI a b s = false by unfold splitI; rw [hT, Bool.false_and]]; rfl
  | true =>
    rw [if_pos rfl, l1In_some _ _ _ _ rfl, Option.bind_some]
    by_cases h2 : 0 ≤ s ∧ s ≤ a
    · rw [if_pos (decide_eq_true h2), l1In_some _ _ _ _ rfl, Option.bind_some]
      have hS : splitI a b s = true := by unfold splitI; rw [hT, decide_eq_true h2]; rfl
      rw [hS, Bool.true_and]
      simp only [spec_IsFooling.j0]
      by_cases hv : 0 ≤ v ∧ v ≤ 1
      · rw [decide_eq_true hv, Bool.not_true, if_neg (by decide), Bool.true_and, if_pos h2.1]
        obtain ⟨t, m, w, rfl, rfl, rfl, ht⟩ := split_of hS
        have := ht.1
        have h := spec_fool_l0 (s := t) (v := (v == 1)) (l := l) ht (by omega) hl l.length k 0 (by omega) (by omega) rfl
        rw [← val_of hv, ← low_cast (by omega)] at h
        rw [Int.toNat_natCast, Int.toNat_natCast, Int.toNat_natCast]
        exact h
      · rw [decide_eq_false hv, Bool.not_false, if_pos rfl, Bool.false_and]
    · rw [if_neg (by simpa using h2), hj, show splitI a b s = false by unfold splitI; rw [decide_eq_false h2, Bool.and_false]]; rfl
end Go.Proofs.Yticfnpfagadcoaa.U
