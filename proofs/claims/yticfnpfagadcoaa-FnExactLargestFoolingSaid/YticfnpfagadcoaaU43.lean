/- The largest fooling set: the program's search is the plain search, too. -/
import Derived.Test.YticfnpfagadcoaaU42
import Derived.Test.YticfnpfagadcoaaFimplLargestFooling
namespace Go.Proofs.Yticfnpfagadcoaa.U
open Go.RowKit Go.Proofs.YticfnpfagadcoaaW.PrintWords Go.Proofs.YticfnpfagadcoaaW.PrintLast Go.Proofs.YticfnpfagadcoaaW.PrintMore Go.Proofs.Yticfnpfagadcoaa.F Go.Proofs.Yticfnpfagadcoaa.B
set_option linter.unusedVariables false
set_option linter.unusedSimpArgs false
theorem allN_congr' {p q : Nat → Bool} {m : Nat} (h : ∀ i, i < m → p i = q i) : allN p m = allN q m := by
  rw [Bool.eq_iff_iff, allN_iff, allN_iff]
  exact ⟨fun k i hi => by rw [← h i hi]; exact k i hi, fun k i hi => by rw [h i hi]; exact k i hi⟩
theorem not_exN (p : Nat → Bool) (m : Nat) : (!(exN (fun i => !(p i)) m)) = allN p m := by
  induction m with
  | zero => rfl
  | succ m ih => rw [exN, allN, ← ih, Bool.not_or, Bool.not_not]
/-- A list that the search holds: all below x, and it fools. -/
def Good (n w s : Nat) (v : Bool) (l : List Int) (x : Nat) : Prop := allN (foolE n s w v l) l.length = true ∧ ∀ i : Nat, i < l.length → rd l i < (x : Int)
theorem foolE_left {n w s : Nat} {v : Bool} {l : List Int} {x : Int} {i : Nat} (hi : i < l.length) : foolE n s w v (l ++ [x]) i = foolE n s w v l i := by
  unfold foolE elemB apB
  rw [rd_left hi, rd_left (show i - 1 < l.length by omega)]
  congr 1
  exact allN_congr' (fun j hj => by rw [rd_left (show j < l.length by omega)])
theorem fool_snoc {n w s x : Nat} {v : Bool} {l : List Int} (hx : x < 2 ^ n) (h : Good n w s v l x) : allN (foolE n s w v (l ++ [(x : Int)])) (l ++ [(x : Int)]).length = ((w.testBit x == v) && allN (fun j => apX s w v (rd l j).toNat x) l.length) := by
  rw [List.length_append, List.length_singleton, allN, allN_congr' (fun i hi => foolE_left hi), h.1, Bool.true_and]
  unfold foolE elemB
  rw [rd_last, Int.toNat_natCast, decide_eq_true (show (0 : Int) ≤ (x : Int) ∧ (x : Int) < ((2 ^ n : Nat) : Int) by omega), Bool.true_and]
  have e : (decide (l.length = 0) || decide (rd (l ++ [(x : Int)]) ((l.length - 1 : Nat) : Int) < (x : Int))) = true := by
    by_cases h0 : l.length = 0
    · rw [decide_eq_true h0, Bool.true_or]
    · rw [rd_left (show l.length - 1 < l.length by omega), decide_eq_true (h.2 (l.length - 1) (by omega)), Bool.or_true]
  rw [e, Bool.and_true]
  congr 1
  exact allN_congr' (fun j hj => by unfold apB; rw [rd_left hj, rd_last, Int.toNat_natCast])
theorem good_snoc {n w s x : Nat} {v : Bool} {l : List Int} (hx : x < 2 ^ n) (h : Good n w s v l x) (hok : ((w.testBit x == v) && allN (fun j => apX s w v (rd l j).toNat x) l.length) = true) : Good n w s v (l ++ [(x : Int)]) (x + 1) := by
  refine ⟨(fool_snoc hx h).trans hok, fun i hi => ?_⟩
  rw [List.length_append, List.length_singleton] at hi
  by_cases hl : i < l.length
  · rw [rd_left hl]; have := h.2 i hl; omega
  · obtain rfl : i = l.length := by omega
    rw [rd_last]; omega
theorem good_next {n w s x : Nat} {v : Bool} {l : List Int} (h : Good n w s v l x) : Good n w s v l (x + 1) := ⟨h.1, fun i hi => by have := h.2 i hi; omega⟩
theorem allF_congr {n w s : Nat} {v : Bool} {ok ok' : List Int → Nat → Bool} (h1 : ∀ l x, x < 2 ^ n → Good n w s v l x → ok l x = ((w.testBit x == v) && allN (fun j => apX s w v (rd l j).toNat x) l.length)) (h2 : ∀ l x, x < 2 ^ n → Good n w s v l x → ok' l x = ((w.testBit x == v) && allN (fun j => apX s w v (rd l j).toNat x) l.length)) :
    ∀ (d x : Nat) (l acc : List Int), x + d = 2 ^ n → Good n w s v l x → allF ok d x l acc = allF ok' d x l acc := by
  intro d
  induction d with
  | zero => intro x l acc _ _; rfl
  | succ d ih =>
    intro x l acc hx hg
    rw [allF, allF, h1 l x (by omega) hg, h2 l x (by omega) hg]
    split
    next hok => rw [ih (x + 1) (l ++ [(x : Int)]) _ (by omega) (good_snoc (by omega) hg hok), ih (x + 1) l _ (by omega) (good_next hg)]
    next => exact ih (x + 1) l _ (by omega) (good_next hg)
theorem elem_range {n w s : Nat} {v : Bool} {l : List Int} {x i : Nat} (h : Good n w s v l x) (hi : i < l.length) : 0 ≤ rd l i := by
  have h1 := allN_iff.mp h.1 i hi
  unfold foolE elemB at h1
  simp only [Bool.and_eq_true, decide_eq_true_eq] at h1
  exact h1.1.1.1.1
theorem largeI_length (a b s v : Int) : (largeI a b s v).1.length ≤ 100 := by
  unfold largeI
  split
  next h =>
    rw [Bool.and_eq_true, Bool.and_eq_true, Bool.and_eq_true, decide_eq_true_eq] at h
    obtain ⟨n, w, rfl, rfl, ht⟩ := tab_of h.1.1.1
    have h4 : n ≤ 4 := by have := h.1.1.2; omega
    have hp : 2 ^ n ≤ 2 ^ 4 := Nat.pow_le_pow_right (by decide) h4
    have := allF_le (okL (n : Int).toNat (w : Int).toNat s v) (2 ^ (n : Int).toNat) 0 [] []
    rw [Int.toNat_natCast] at this ⊢
    simp only [List.length_nil] at this
    show (allF _ _ _ _ _).length ≤ 100
    omega
  next => exact Nat.zero_le _
theorem isBit_some (v : Int) : impl_isBit.f v = some (decide (0 ≤ v ∧ v ≤ 1)) := by
  unfold impl_isBit.f
  by_cases h : v = 0
  · rw [if_pos h, decide_eq_true (by omega)]
  · rw [if_neg h]; congr 1; rw [Bool.eq_iff_iff, beq_iff_eq, decide_eq_true_eq]; omega
theorem impl_large {a b : Int} (s v : Int) (h0 : -9223372036854775808 ≤ b) (h1 : b ≤ 9223372036854775807) : impl_LargestFooling.f a b s v = some (largeI a b s v) := by
  unfold impl_LargestFooling.f largeI
  rw [impl_isSplit s h0 h1, Option.bind_some]
  unfold splitI
  cases hT : isTab a b with
  | false => rw [Bool.false_and, if_neg (by decide), Bool.false_and, Bool.false_and, Bool.false_and, if_neg (by decide)]
  | true =>
    rw [Bool.true_and, Bool.true_and]
    by_cases h5 : 0 ≤ s ∧ s ≤ a
    · rw [decide_eq_true h5, if_pos rfl, Bool.and_true]
      by_cases h4 : a > 4
      · rw [if_pos h4, decide_eq_false (show ¬ a ≤ 4 by omega), Bool.false_and, if_neg (by decide)]
      · rw [if_neg h4, decide_eq_true (show a ≤ 4 by omega), Bool.true_and, isBit_some, Option.bind_some]
        by_cases h6 : 0 ≤ v ∧ v ≤ 1
        · rw [if_pos (decide_eq_true h6), if_pos (decide_eq_true h6)]
          obtain ⟨n, w, rfl, rfl, ht⟩ := tab_of hT
          obtain ⟨t, rfl⟩ := Int.eq_ofNat_of_zero_le h5.1
          have h4' : n ≤ 4 := by omega
          have hp : 2 ^ n ≤ 2 ^ 4 := Nat.pow_le_pow_right (by decide) h4'
          rw [Int.toNat_natCast, Int.toNat_natCast]
          obtain ⟨vb, hv⟩ : ∃ vb : Bool, v = ((vb.toNat : Nat) : Int) := ⟨_, val_of h6⟩
          have hap : ∀ x y : Nat, x < 2 ^ n → y < 2 ^ n → impl_Table_apartBy.f n w t v y x = some (apX t w vb y x) := fun x y hx hy => by rw [hv]; exact impl_apart vb ht (by omega) (by omega) (by omega)
          have hat : ∀ x : Nat, x < 2 ^ n → impl_Table_at.f n w x = some ((bitN w x : Nat) : Int) := fun x hx => at_some' ht.lt63 (by omega)
          have hdom : growDom n w t v (2 ^ n) = true := by
            unfold growDom
            rw [size_some _ (by omega), beq_self_eq_true, decide_eq_true (by omega), Bool.true_and, Bool.true_and, allN_iff]
            intro x hx
            rw [hat x hx, Option.isSome_some, Bool.true_and, allN_iff]
            intro y hy
            rw [hap x y hx hy]
            rfl
          rw [if_pos hdom, cutF_nil]
          congr 2
          refine allF_congr (n := n) (w := w) (s := t) (v := vb) (fun l x hx hg => ?_) (fun l x hx hg => ?_) (2 ^ n) 0 [] [] (by omega) ⟨rfl, fun i hi => absurd hi (Nat.not_lt_zero _)⟩
          · unfold growOk growAt_
            rw [hat x hx, Option.getD_some, not_exN (fun i => growAp n w t v (rd l i).toNat x)]
            congr 1
            · rw [hv, Bool.eq_iff_iff, decide_eq_true_eq, beq_iff_eq]
              exact bit_is' vb w x
            · refine allN_congr' (fun j hj => ?_)
              unfold growAp
              have hr := elem_range hg hj
              have hlt := hg.2 j hj
              rw [hap x (rd l j).toNat hx (by omega), Option.getD_some]
          · unfold okL foolI
            have hsp : splitI n w t = true := by unfold splitI; rw [hT, decide_eq_true h5]; rfl
            have hvb : (v == 1) = vb := by rw [hv]; cases vb <;> rfl
            rw [hsp, decide_eq_true h6, Bool.true_and, Bool.true_and, Int.toNat_natCast, Int.toNat_natCast, Int.toNat_natCast, hvb]
            exact fool_snoc hx hg
        · rw [if_neg (fun q => h6 (of_decide_eq_true q)), if_neg (fun q => h6 (of_decide_eq_true q))]
    · rw [decide_eq_false h5, if_neg (by decide), Bool.and_false, Bool.false_and, if_neg (by decide)]
end Go.Proofs.Yticfnpfagadcoaa.U
