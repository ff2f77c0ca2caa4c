/- The first place at which something is told; small facts on bits that several laws share. -/
import Derived.Test.YtflacbjpeecjcacDoorUa
import Derived.Test.YtflacbjpeecjcacDoorF0
import Derived.Test.YtflacbjpeecjcacDoorBase
namespace Go.Proofs.YtflacbjpeecjcacDoor.U
open Go.RowKit Go.Proofs.YtflacbjpeecjcacDoorW.PrintWords Go.Proofs.YtflacbjpeecjcacDoorW.PrintLast Go.Proofs.YtflacbjpeecjcacDoorW.PrintMore Go.Proofs.YtflacbjpeecjcacDoor.F Go.Proofs.YtflacbjpeecjcacDoor.B
set_option linter.unusedVariables false
set_option linter.unusedSimpArgs false
theorem bitz {w x : Nat} : ((((bitN w x : Nat) : Int)) = 0) ↔ w.testBit x = false := by unfold bitN; cases w.testBit x <;> decide
theorem bito {w x : Nat} : ((((bitN w x : Nat) : Int)) = 1) ↔ w.testBit x = true := by unfold bitN; cases w.testBit x <;> decide
theorem bitz_beq (w x : Nat) : ((((bitN w x : Nat) : Int)) == 0) = !w.testBit x := by unfold bitN; cases w.testBit x <;> rfl
theorem and_one (a : Nat) : a &&& 1 = (a.testBit 0).toNat := by
  have := shr_and_one a 0
  rw [Nat.shiftRight_zero] at this
  exact this
theorem testBit_shr0 (w a : Nat) : (w >>> a).testBit 0 = w.testBit a := by rw [Nat.testBit_shiftRight, Nat.add_zero]
/-- The n values from 0 on, as a list. -/
def listN (f : Nat → Int) (n : Nat) : List Int := (List.range n).map f
theorem listN_length (f : Nat → Int) (n : Nat) : (listN f n).length = n := by simp [listN]
theorem listN_zero (f : Nat → Int) : listN f 0 = [] := rfl
theorem listN_succ (f : Nat → Int) (n : Nat) : listN f (n + 1) = listN f n ++ [f n] := by simp [listN, List.range_succ]
theorem listN_get {f : Nat → Int} {n i : Nat} (h : i < n) : rd (listN f n) (i : Int) = f i := by
  unfold rd
  rw [Int.toNat_natCast]
  simp [listN, List.getD_eq_getElem?_getD, h]
theorem listN_congr {f g : Nat → Int} {n : Nat} (h : ∀ i, i < n → f i = g i) : listN f n = listN g n := by
  unfold listN
  exact List.map_congr_left fun i hi => h i (by simpa using hi)
theorem listN_set {f g : Nat → Int} {n i : Nat} {v : Int} (hv : g i = v) (h : ∀ j, j ≠ i → g j = f j) : (listN f n).set i v = listN g n := by
  apply List.ext_getElem
  · rw [List.length_set, listN_length, listN_length]
  · intro j h1 h2
    rw [List.getElem_set]
    by_cases e : i = j
    · subst e; rw [if_pos rfl]; simp [listN, hv]
    · rw [if_neg e]; simp [listN, h j (Ne.symm e)]
theorem listN_const (c : Int) (n : Nat) : List.replicate n c = listN (fun _ => c) n := by
  apply List.ext_getElem
  · rw [List.length_replicate, listN_length]
  · intro j h1 h2
    simp [listN]
end Go.Proofs.YtflacbjpeecjcacDoor.U
