/- How many rows differ: both ways. -/
import Derived.Test.YtknafneeodpojaaUL
import Derived.Test.YtknafneeodpojaaFimplDifferentRows
import Derived.Test.YtknafneeodpojaaFspecDifferentRows
namespace Go.Proofs.Ytknafneeodpojaa.U
open Go.RowKit Go.Proofs.YtknafneeodpojaaW.PrintWords Go.Proofs.YtknafneeodpojaaW.PrintLast Go.Proofs.YtknafneeodpojaaW.PrintMore Go.Proofs.Ytknafneeodpojaa.F Go.Proofs.Ytknafneeodpojaa.B
set_option linter.unusedVariables false
set_option linter.unusedSimpArgs false
/-- No row ahead of row i is like it. -/
def fresh (l : List Int) (i : Nat) : Bool := allN (fun k => rd l k != rd l i) i
theorem any_take (l : List Int) (x : Int) : ∀ m, m ≤ l.length → ((l.take m).map (Lit.int .i64)).any (fun y => y.sameKey (.int .i64 x)) = exN (fun k => rd l k == x) m := by
  intro m
  induction m with
  | zero => intro _; rfl
  | succ m ih =>
    intro h
    have hs : (Lit.int .i64 (rd l (m : Nat))).sameKey (.int .i64 x) = (rd l (m : Nat) == x) := by
      show decide (IntKind.i64 = IntKind.i64 ∧ rd l (m : Nat) = x) = _
      by_cases e : rd l (m : Nat) = x <;> simp [e]
    rw [exN, ← ih (by omega), ← hs, List.take_add_one, List.map_append, List.any_append, List.getElem?_eq_getElem (by omega)]
    congr 1
    unfold rd
    rw [Int.toNat_natCast, List.getD_eq_getElem?_getD, List.getElem?_eq_getElem (by omega)]
    simp
theorem keys_ok (l : List Int) (m : Nat) : ∀ x ∈ (l.take m).map (Lit.int .i64), WideAt.IsKeyLit x := fun x hx => by
  obtain ⟨_, _, rfl⟩ := List.mem_map.1 hx
  trivial
theorem size_S (l : List Int) : ∀ m, m ≤ l.length → Go.Maps.size (impl_DifferentRows.S l m) = cntN (fresh l) m := by
  intro m
  induction m with
  | zero => intro _; rfl
  | succ m ih =>
    intro h
    rw [impl_DifferentRows.S_succ l m (by omega), Go.Maps.size_put (D := impl_DifferentRows.S l m) (Go.Maps.tidy_setOf _ _ (keys_ok l m)), cntN, ← ih (by omega)]
    have hh : Go.Maps.has (impl_DifferentRows.S l m) (.int .i64 (rd l (m : Nat))) = !fresh l m := by
      unfold impl_DifferentRows.S
      rw [Go.Maps.has_setOf _ _ _ (keys_ok l m), any_take l _ m (by omega)]
      apply Bool.eq_iff_iff.mpr
      rw [exN_iff, Bool.not_eq_true', Bool.eq_false_iff]
      constructor
      · rintro ⟨i, hi, e⟩ hf
        have := allN_iff.mp hf i hi
        rw [bne_iff_ne] at this
        exact this (beq_iff_eq.mp e)
      · intro hf
        apply Classical.byContradiction
        intro hn
        exact hf (allN_iff.mpr fun i hi => by
          rw [bne_iff_ne]
          intro e
          exact hn ⟨i, hi, beq_iff_eq.mpr e⟩)
    rw [hh]
    cases fresh l m <;> simp
theorem rows_inner (l : List Int) (hl : l.length < 1099511627776) {i c : Nat} (hi : i < l.length) (hc : c < 1099511627776) : ∀ (d k x : Nat), x + d = i →
    spec_DifferentRows.l1 (k + d + 1) l c i (allN (fun k => rd l k != rd l i) x) x = spec_DifferentRows.l0 k l ((c + (fresh l i).toNat : Nat) : Int) ((i + 1 : Nat) : Int) := by
  intro d
  induction d with
  | zero =>
    intro k x hx
    obtain rfl : x = i := by omega
    simp only [spec_DifferentRows.l1, Nat.add_zero]
    rw [if_neg (by omega), wrap64_succ (by omega), wrap64_succ (by omega)]
    show (if fresh l x = true then _ else _) = _
    cases fresh l x <;> simp
  | succ d ih =>
    intro k x hx
    have hi' := ih k (x + 1) (by omega)
    rw [allN] at hi'
    rw [show k + (d + 1) + 1 = (k + d + 1) + 1 by omega]
    simp only [spec_DifferentRows.l1]
    rw [if_pos (by omega), wrap64_succ (by omega)]
    cases ha : allN (fun k => rd l k != rd l i) x with
    | true =>
      rw [ha, Bool.true_and] at hi'
      rw [if_pos rfl, if_pos (by omega), if_pos (by omega), if_pos (by omega), if_pos (by omega)]
      exact hi'
    | false =>
      rw [ha, Bool.false_and] at hi'
      rw [if_neg (by decide)]
      exact hi'
theorem rows_outer (l : List Int) (hl : l.length < 1099511627776) : ∀ (d k i : Nat), i + d = l.length →
    spec_DifferentRows.l0 (k + d * (l.length + 2) + 1) l ((cntN (fresh l) i : Nat) : Int) i = some ((cntN (fresh l) l.length : Nat) : Int) := by
  intro d
  induction d with
  | zero =>
    intro k i hi
    obtain rfl : i = l.length := by omega
    simp only [spec_DifferentRows.l0, Nat.zero_mul, Nat.add_zero]
    rw [if_neg (by omega)]
  | succ d ih =>
    intro k i hi
    have hc := cntN_le (fresh l) i
    rw [show k + (d + 1) * (l.length + 2) + 1 = (((k + (l.length - i)) + d * (l.length + 2) + 1) + i + 1) + 1 by rw [Nat.succ_mul]; omega]
    simp only [spec_DifferentRows.l0]
    rw [if_pos (by omega)]
    exact (rows_inner l hl (by omega) (by omega) i ((k + (l.length - i)) + d * (l.length + 2) + 1) 0 (by omega)).trans (ih (k + (l.length - i)) (i + 1) (by omega))
end Go.Proofs.Ytknafneeodpojaa.U
