/- The first place at which something is told; small facts on bits that several laws share. -/
import Derived.Test.YticfnpfagadcoaaUa
namespace Go.Proofs.Yticfnpfagadcoaa.U
open Go.RowKit Go.Proofs.YticfnpfagadcoaaW.PrintWords Go.Proofs.YticfnpfagadcoaaW.PrintLast Go.Proofs.YticfnpfagadcoaaW.PrintMore Go.Proofs.Yticfnpfagadcoaa.F Go.Proofs.Yticfnpfagadcoaa.B
set_option linter.unusedVariables false
set_option linter.unusedSimpArgs false
/-- What p tells first, of d places from i on. -/
def firstN {α : Type} (p : Nat → Option α) : Nat → Nat → Option α
  | 0, _ => none
  | d + 1, i => match p i with
    | some r => some r
    | none => firstN p d (i + 1)
theorem firstN_hit {α : Type} {p : Nat → Option α} {d i : Nat} {r : α} (h : p i = some r) : firstN p (d + 1) i = some r := by simp only [firstN, h]
theorem firstN_miss {α : Type} {p : Nat → Option α} {d i : Nat} (h : p i = none) : firstN p (d + 1) i = firstN p d (i + 1) := by simp only [firstN, h]
theorem firstN_congr {α : Type} {p q : Nat → Option α} : ∀ (d i : Nat), (∀ j, i ≤ j → j < i + d → p j = q j) → firstN p d i = firstN q d i := by
  intro d
  induction d with
  | zero => intro i _; rfl
  | succ d ih =>
    intro i h
    rw [firstN, firstN, h i (Nat.le_refl _) (by omega), ih (i + 1) fun j h1 h2 => h j (by omega) (by omega)]
theorem firstN_none {α : Type} {p : Nat → Option α} : ∀ (d i : Nat), (∀ j, i ≤ j → j < i + d → p j = none) → firstN p d i = none := by
  intro d
  induction d with
  | zero => intro i _; rfl
  | succ d ih => intro i h; rw [firstN_miss (h i (Nat.le_refl _) (by omega)), ih (i + 1) fun j h1 h2 => h j (by omega) (by omega)]
/-- Where one place alone can tell. -/
theorem firstN_one {α : Type} {p : Nat → Option α} {e : Nat} (h : ∀ j, j ≠ e → p j = none) : ∀ (d i : Nat), firstN p d i = if i ≤ e ∧ e < i + d then p e else none := by
  intro d
  induction d with
  | zero => intro i; rw [firstN, if_neg (by omega)]
  | succ d ih =>
    intro i
    by_cases hi : i = e
    · subst hi
      rw [if_pos (by omega)]
      cases hp : p i with
      | some r => exact firstN_hit hp
      | none => rw [firstN_miss hp, ih, if_neg (by omega)]
    · rw [firstN_miss (h i hi), ih]
      by_cases hq : i + 1 ≤ e ∧ e < i + 1 + d
      · rw [if_pos hq, if_pos (by omega)]
      · rw [if_neg hq, if_neg (by omega)]
theorem bitz {w x : Nat} : ((((bitN w x : Nat) : Int)) = 0) ↔ w.testBit x = false := by unfold bitN; cases w.testBit x <;> decide
theorem bito {w x : Nat} : ((((bitN w x : Nat) : Int)) = 1) ↔ w.testBit x = true := by unfold bitN; cases w.testBit x <;> decide
theorem bitz_beq (w x : Nat) : ((((bitN w x : Nat) : Int)) == 0) = !w.testBit x := by unfold bitN; cases w.testBit x <;> rfl
theorem and_one (a : Nat) : a &&& 1 = (a.testBit 0).toNat := by
  have := shr_and_one a 0
  rw [Nat.shiftRight_zero] at this
  exact this
theorem testBit_shr0 (w a : Nat) : (w >>> a).testBit 0 = w.testBit a := by rw [Nat.testBit_shiftRight, Nat.add_zero]
/-- The n values from 0 on, as a list. -/
def listN (f : Nat → Int) (n : Nat) : List Int := (List.range n).map f
theorem listN_length (f : Nat → Int) (n : Nat) : (listN f n).length = n := by simp [listN]
theorem listN_zero (f : Nat → Int) : listN f 0 = [] := rfl
theorem listN_succ (f : Nat → Int) (n : Nat) : listN f (n + 1) = listN f n ++ [f n] := by simp [listN, List.range_succ]
theorem listN_get {f : Nat → Int} {n i : Nat} (h : i < n) : rd (listN f n) (i : Int) = f i := by
  unfold rd
  rw [Int.toNat_natCast]
  simp [listN, List.getD_eq_getElem?_getD, h]
theorem listN_congr {f g : Nat → Int} {n : Nat} (h : ∀ i, i < n → f i = g i) : listN f n = listN g n := by
  unfold listN
  exact List.map_congr_left fun i hi => h i (by simpa using hi)
theorem listN_set {f g : Nat → Int} {n i : Nat} {v : Int} (hv : g i = v) (h : ∀ j, j ≠ i → g j = f j) : (listN f n).set i v = listN g n := by
  apply List.ext_getElem
  · rw [List.length_set, listN_length, listN_length]
  · intro j h1 h2
    rw [List.getElem_set]
    by_cases e : i = j
    · subst e; rw [if_pos rfl]; simp [listN, hv]
    · rw [if_neg e]; simp [listN, h j (Ne.symm e)]
theorem listN_const (c : Int) (n : Nat) : List.replicate n c = listN (fun _ => c) n := by
  apply List.ext_getElem
  · rw [List.length_replicate, listN_length]
  · intro j h1 h2
    simp [listN]
end Go.Proofs.Yticfnpfagadcoaa.U
