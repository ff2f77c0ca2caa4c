/- The closed facts on the head's words, by the first three words alone. -/
import Derived.Test.YtflacbjpeecjcabGreatDoorRows
import Derived.JoinedOf
import Derived.KernelRfl
namespace Go.Proofs.YtflacbjpeecjcabGreatDoor.Head
set_option linter.unusedSimpArgs false
def ch (l : List Nat) : List Char := l.map Char.ofNat
def w1 : List Nat := [104, 97, 114, 110, 101, 115, 115]
def w2 : List Nat := [97, 53, 97, 100, 99, 101, 53, 50, 48, 54, 48, 100, 51, 56, 99, 56, 57, 51, 53, 49, 101, 51, 50, 56, 54, 55, 97, 53, 57, 51, 49, 54, 52, 51, 50, 50, 51, 101, 53, 99, 101, 49, 53, 51, 48, 49, 98, 101, 100, 48, 98, 51, 97, 56, 101, 57, 52, 55, 50, 51, 56, 99, 50, 56]
def w3 : List Nat := [99, 117, 116]
def w4 : List Nat := [97, 116, 32, 108, 111, 111, 112, 46, 101, 120, 97, 109, 112, 108, 101, 47, 103, 48, 51, 52, 48, 51, 47, 108, 97, 119, 115, 46, 70, 110, 68, 105, 97, 103, 114, 97, 109, 115]
theorem ord : Tryz.prog.initOrder = String.ofList (ch (w1 ++ 32 :: (w2 ++ 32 :: (w3 ++ 32 :: w4)))) := by kernel_rfl
theorem word_head (w : List Nat) (h : w.all (fun c => !(Char.ofNat c == Char.ofNat 32)) = true) (r : List Char) : wordsSigns (ch w ++ Char.ofNat 32 :: r) = ch w :: wordsSigns r := by
  induction w with
  | nil => rfl
  | cons c w ih =>
    rw [List.all_cons, Bool.and_eq_true] at h
    have hc : Char.ofNat c ≠ Char.ofNat 32 := by simpa using h.1
    show wordsSigns (Char.ofNat c :: (ch w ++ Char.ofNat 32 :: r)) = (Char.ofNat c :: ch w) :: wordsSigns r
    rw [wordsSigns.eq_3 _ _ (fun hh => hc hh), ih h.2]
theorem heads : ∃ X, wordsSigns Tryz.prog.initOrder.toList = ch w1 :: ch w2 :: ch w3 :: X := by
  have e : Tryz.prog.initOrder.toList = ch w1 ++ Char.ofNat 32 :: (ch w2 ++ Char.ofNat 32 :: (ch w3 ++ Char.ofNat 32 :: ch w4)) := by
    rw [ord, String.toList_ofList]
    unfold ch
    simp only [List.map_append, List.map_cons]
  rw [e, word_head w1 (by decide), word_head w2 (by decide), word_head w3 (by decide)]
  exact ⟨_, rfl⟩
section
variable {P : Program} {X : List (List Char)}
theorem behind_of (h : wordsSigns P.initOrder.toList = ch w1 :: ch w2 :: ch w3 :: X) : behindMainWord (wordsSigns P.initOrder.toList) = ch w3 :: X := by
  rw [h]
  show (if ((ch w1 == ("harness" : String).toList || ch w1 == ("ownmain" : String).toList) && isSumSigns (ch w2)) = true then ch w3 :: X else ch w1 :: ch w2 :: ch w3 :: X) = _
  rw [if_pos (by decide +kernel)]
theorem strip (X : List (List Char)) : stripLifts liftWords (ch w3 :: X) = ([], ch w3 :: X) := by rfl
theorem is_cut : (ch w3 == ("cut" : String).toList) = true := by rfl
theorem no_gc : (ch w3 == ("gc" : String).toList) = false := by rfl
theorem no_spec : (ch w3 == ("spec" : String).toList) = false := by rfl
theorem no_carried : (ch w3 == ("carried" : String).toList) = false := by rfl
theorem no_finals : (ch w3 == ("finals" : String).toList) = false := by rfl
theorem cut_head : (some (ch w3) == some ("cut" : String).toList) = true := by rfl
theorem carried_head : (some (ch w3) == some ("carried" : String).toList) = false := by rfl
theorem mayEnter_of (h : behindMainWord (wordsSigns P.initOrder.toList) = ch w3 :: X) (h1 : P.laysLater = false) (h2 : P.bearsReflect = false) (h3 : P.doorFits [] = true) : P.mayEnter = true := by
  unfold Program.mayEnter
  rw [h]
  simp only [strip, h1, h2, h3, List.head?_cons, cut_head, no_gc, no_spec, no_carried]
  rfl
theorem headLifts_of (h : behindMainWord (wordsSigns P.initOrder.toList) = ch w3 :: X) : P.headLifts = [] := by
  unfold Program.headLifts
  rw [h]
  simp only [strip, List.head?_cons, cut_head, if_true]
theorem liftsFinal_of (h : behindMainWord (wordsSigns P.initOrder.toList) = ch w3 :: X) : P.liftsFinal = false := by
  unfold Program.liftsFinal
  rw [headLifts_of h, h]
  simp only [List.head?_cons, carried_head]
  rfl
theorem make_of (h : behindMainWord (wordsSigns P.initOrder.toList) = ch w3 :: X) : P.make = some .cut := by
  unfold Program.make
  rw [h]
  simp only [no_gc, no_spec, is_cut]
  rfl
end
theorem laysLater : Tryz.prog.laysLater = false := by kernel_rfl
theorem bearsReflect : Tryz.prog.bearsReflect = false := by kernel_rfl
theorem doorFits : Tryz.prog.doorFits [] = true := by kernel_rfl
theorem mayEnter : Tryz.prog.mayEnter = true := by
  obtain ⟨X, hX⟩ := heads
  exact mayEnter_of (behind_of hX) laysLater bearsReflect doorFits
theorem liftsFinal : Tryz.prog.liftsFinal = false := by
  obtain ⟨X, hX⟩ := heads
  exact liftsFinal_of (behind_of hX)
theorem make : Tryz.prog.make = some .cut := by
  obtain ⟨X, hX⟩ := heads
  exact make_of (behind_of hX)
end Go.Proofs.YtflacbjpeecjcabGreatDoor.Head
