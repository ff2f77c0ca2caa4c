/- Branch and bound over lists that grow finds the first longest one, as the plain search does. -/
import Derived.Test.YticfnpfagadcoaaBase
namespace Go.Proofs.Yticfnpfagadcoaa.U
open Go.RowKit Go.Proofs.Yticfnpfagadcoaa.B
set_option linter.unusedVariables false
/-- The longer one; the elder one where they are equally long. -/
def pick (y acc : List Int) : List Int := if acc.length < y.length then y else acc
theorem pick_assoc (a b c : List Int) : pick a (pick b c) = pick (pick a b) c := by
  unfold pick
  by_cases h1 : c.length < b.length
  · rw [if_pos h1]
    by_cases h2 : b.length < a.length
    · rw [if_pos h2, if_pos (by omega)]
    · rw [if_neg h2, if_pos h1]
  · rw [if_neg h1]
    by_cases h2 : b.length < a.length
    · rw [if_pos h2]
    · rw [if_neg h2, if_neg h1, if_neg (by omega)]
theorem pick_nil (c : List Int) : pick c [] = c := by
  unfold pick
  cases c with
  | nil => rfl
  | cons a c => exact if_pos (Nat.succ_pos c.length)
/-- The plain search: d numbers from x on are left. -/
def allF (ok : List Int → Nat → Bool) : Nat → Nat → List Int → List Int → List Int
  | 0, _, _, acc => acc
  | d + 1, x, l, acc => if ok l x = true then allF ok d (x + 1) l (pick (allF ok d (x + 1) (l ++ [(x : Int)]) (l ++ [(x : Int)])) acc) else allF ok d (x + 1) l acc
/-- Branch and bound. -/
def cutF (ok : List Int → Nat → Bool) : Nat → Nat → List Int → List Int → List Int
  | 0, _, _, best => best
  | d + 1, x, l, best => if best.length < l.length + (d + 1) then (if ok l x = true then cutF ok d (x + 1) l (cutF ok d (x + 1) (l ++ [(x : Int)]) (pick (l ++ [(x : Int)]) best)) else cutF ok d (x + 1) l best) else best
theorem allF_pick (ok : List Int → Nat → Bool) : ∀ (d x : Nat) (l acc : List Int), allF ok d x l acc = pick (allF ok d x l []) acc := by
  intro d
  induction d with
  | zero => intro x l acc; rw [allF, allF]; unfold pick; rw [if_neg (show ¬ acc.length < ([] : List Int).length from Nat.not_lt_zero _)]
  | succ d ih =>
    intro x l acc
    rw [allF, allF]
    cases ok l x with
    | false => rw [if_neg (by decide), if_neg (by decide)]; exact ih _ _ _
    | true =>
      rw [if_pos rfl, if_pos rfl, ih (x + 1) l (pick _ acc), ih (x + 1) l (pick _ []), pick_nil, pick_assoc]
theorem allF_le (ok : List Int → Nat → Bool) : ∀ (d x : Nat) (l acc : List Int), (allF ok d x l acc).length ≤ max acc.length (l.length + d) := by
  intro d
  induction d with
  | zero => intro x l acc; rw [allF]; omega
  | succ d ih =>
    intro x l acc
    rw [allF]
    split
    next =>
      have h1 := ih (x + 1) l (pick (allF ok d (x + 1) (l ++ [(x : Int)]) (l ++ [(x : Int)])) acc)
      have h2 := ih (x + 1) (l ++ [(x : Int)]) (l ++ [(x : Int)])
      rw [List.length_append] at h2
      simp only [List.length_singleton] at h2
      have h3 : (pick (allF ok d (x + 1) (l ++ [(x : Int)]) (l ++ [(x : Int)])) acc).length ≤ max acc.length (l.length + (d + 1)) := by
        unfold pick
        split <;> omega
      omega
    next =>
      have h1 := ih (x + 1) l acc
      omega
theorem cutF_eq (ok : List Int → Nat → Bool) : ∀ (d x : Nat) (l best : List Int), cutF ok d x l best = allF ok d x l best := by
  intro d
  induction d with
  | zero => intro x l best; rfl
  | succ d ih =>
    intro x l best
    rw [cutF]
    by_cases h : best.length < l.length + (d + 1)
    · rw [if_pos h, allF]
      cases ok l x with
      | false => rw [if_neg (by decide), if_neg (by decide)]; exact ih _ _ _
      | true =>
        rw [if_pos rfl, if_pos rfl, ih (x + 1) l, ih (x + 1) (l ++ [(x : Int)]), allF_pick ok d (x + 1) (l ++ [(x : Int)]) (pick _ best), pick_assoc, ← allF_pick]
    · rw [if_neg h, allF_pick]
      unfold pick
      rw [if_neg]
      have h1 := allF_le ok (d + 1) x l []
      simp only [List.length_nil] at h1
      omega
/-- From nothing: both searches are one. -/
theorem cutF_nil (ok : List Int → Nat → Bool) (d : Nat) : cutF ok d 0 [] [] = allF ok d 0 [] [] := cutF_eq ok d 0 [] []
end Go.Proofs.Yticfnpfagadcoaa.U
