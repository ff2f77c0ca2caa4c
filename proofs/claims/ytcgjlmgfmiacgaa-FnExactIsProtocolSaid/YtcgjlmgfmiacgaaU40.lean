/- Where a protocol ends: both ways. -/
import Derived.Test.YtcgjlmgfmiacgaaBase
import Derived.Test.YtcgjlmgfmiacgaaFimplIsProtocol
import Derived.Test.YtcgjlmgfmiacgaaFspecIsProtocol
namespace Go.Proofs.Ytcgjlmgfmiacgaa.U
open Go.RowKit Go.Proofs.YtcgjlmgfmiacgaaW.PrintWords Go.Proofs.YtcgjlmgfmiacgaaW.PrintLast Go.Proofs.YtcgjlmgfmiacgaaW.PrintMore Go.Proofs.Ytcgjlmgfmiacgaa.F Go.Proofs.Ytcgjlmgfmiacgaa.B
set_option linter.unusedVariables false
set_option linter.unusedSimpArgs false
/-- What stands at a place and behind it. -/
def ext (s : ByteArray) (a : Nat) : ByteArray := s.extract a s.size
theorem ext_size (s : ByteArray) (a : Nat) : (ext s a).size = s.size - a := by unfold ext; rw [ByteArray.size_extract]; omega
theorem ext_ext (s : ByteArray) (a b : Nat) : (ext s a).extract b (ext s a).size = ext s (a + b) := by
  rw [ext_size]
  unfold ext
  rw [ByteArray.extract_extract]
  by_cases h : a ≤ s.size
  · congr 1
    omega
  · apply ByteArray.ext
    apply Array.eq_empty_of_size_eq_zero _ |>.trans
    · exact (Array.eq_empty_of_size_eq_zero (by rw [ByteArray.size_data, ByteArray.size_extract]; omega)).symm
    · rw [ByteArray.size_data, ByteArray.size_extract]
      omega
theorem ext_bt (s : ByteArray) (a b : Nat) (h : a + b < s.size) : bt (ext s a) (b : Int) = bt s ((a + b : Nat) : Int) := by
  have h1 : b < (ext s a).size := by rw [ext_size]; omega
  unfold bt
  rw [dif_pos (by rw [Int.toNat_natCast]; exact h1), dif_pos (by rw [Int.toNat_natCast]; exact h)]
  simp only [Int.toNat_natCast]
  have : (ext s a)[b] = s[a + b] := by
    unfold ext
    exact ByteArray.getElem_extract _
  rw [this]
abbrev hexB : List UInt8 := [48, 49, 50, 51, 52, 53, 54, 55, 56, 57, 97, 98, 99, 100, 101, 102]
theorem hex_all : ∀ m : Fin 256, decide (Lib.indexByte hexB m.val.toUInt8 < 0) = !decide ((48 ≤ m.val ∧ m.val ≤ 57) ∨ (97 ≤ m.val ∧ m.val ≤ 102)) := by decide +kernel
theorem spec_digit (c : Int) (h0 : 0 ≤ c) (h1 : c ≤ 255) {k : Nat} (hk : 2 < k) : ∃ d : Int, spec_l21Digit.f k c = some d ∧ decide (d < 0) = decide (Lib.indexByte hexB c.toNat.toUInt8 < 0) := by
  obtain ⟨k, rfl⟩ : ∃ m, k = m + 1 := ⟨k - 1, by omega⟩
  obtain ⟨m, rfl⟩ := Int.eq_ofNat_of_zero_le h0
  have hx := hex_all ⟨m, by omega⟩
  simp only at hx
  rw [Int.toNat_natCast, hx]
  unfold spec_l21Digit.f
  by_cases g1 : (m : Int) ≥ 48
  · rw [if_pos g1]
    by_cases g2 : (m : Int) ≤ 57
    · rw [decide_eq_true g2, spec_l21Digit.j0, if_pos rfl, decide_eq_true (show (48 ≤ m ∧ m ≤ 57) ∨ (97 ≤ m ∧ m ≤ 102) by omega)]
      exact ⟨_, rfl, decide_eq_false (by omega)⟩
    · rw [decide_eq_false g2, spec_l21Digit.j0, if_neg (by decide)]
      by_cases g3 : (m : Int) ≥ 97
      · rw [if_pos g3]
        by_cases g4 : (m : Int) ≤ 102
        · rw [if_pos g4, decide_eq_true (show (48 ≤ m ∧ m ≤ 57) ∨ (97 ≤ m ∧ m ≤ 102) by omega)]
          exact ⟨_, rfl, decide_eq_false (by omega)⟩
        · rw [if_neg g4, decide_eq_false (show ¬ ((48 ≤ m ∧ m ≤ 57) ∨ (97 ≤ m ∧ m ≤ 102)) by omega)]
          exact ⟨_, rfl, by decide⟩
      · rw [if_neg g3, decide_eq_false (show ¬ ((48 ≤ m ∧ m ≤ 57) ∨ (97 ≤ m ∧ m ≤ 102)) by omega)]
        exact ⟨_, rfl, by decide⟩
  · rw [if_neg g1, spec_l21Digit.j0, if_neg (by decide), if_neg (by omega), decide_eq_false (show ¬ ((48 ≤ m ∧ m ≤ 57) ∨ (97 ≤ m ∧ m ≤ 102)) by omega)]
    exact ⟨_, rfl, by decide⟩
theorem end_j1 {s : ByteArray} (at_ : Int) {k : Nat} (hk : 0 < k) : spec_l21End.j1 k s at_ true = some (-1) := by
  obtain ⟨k, rfl⟩ : ∃ m, k = m + 1 := ⟨k - 1, by omega⟩
  rw [spec_l21End.j1, if_pos rfl]
/-- What the reference says of a place, and the program of what stands there. -/
def Same (s : ByteArray) (k at_ : Nat) (o : Option ByteArray) : Prop :=
  (o = none ∧ spec_l21End.f k s at_ = some (-1)) ∨ ∃ e : Nat, o = some (ext s e) ∧ spec_l21End.f k s at_ = some (e : Int) ∧ at_ < e ∧ e ≤ s.size
theorem end_both (s : ByteArray) (hs : s.size ≤ 100) : ∀ (n k at_ : Nat), s.size ≤ at_ + n → at_ ≤ s.size → 3 * n + 10 < k → Same s k at_ (impl_readTurn.g n (ext s at_)) := by
  intro n
  induction n with
  | zero =>
    intro k at_ h1 h2 hk
    obtain ⟨k, rfl⟩ : ∃ m, k = m + 1 := ⟨k - 1, by omega⟩
    left
    rw [spec_l21End.f, if_pos (by omega)]
    exact ⟨rfl, rfl⟩
  | succ n ih =>
    intro k at_ h1 h2 hk
    obtain ⟨k, rfl⟩ : ∃ m, k = m + 3 := ⟨k - 3, by omega⟩
    unfold Same
    rw [impl_readTurn.g, ext_size, spec_l21End.f]
    by_cases h3 : at_ = s.size
    · left
      rw [if_pos (by omega), if_pos (by omega)]
      exact ⟨rfl, rfl⟩
    · have hlt : at_ < s.size := by omega
      have hb0 := ext_bt s at_ 0 (by omega)
      rw [Nat.add_zero] at hb0
      have hb0' : bt (ext s at_) 0 = bt s (at_ : Nat) := hb0
      rw [if_neg (show ¬ s.size - at_ = 0 by omega), if_neg (show ¬ ((at_ : Int) ≥ (s.size : Int)) by omega), if_pos (show (0 : Int) ≤ (at_ : Int) by omega), if_pos (show (at_ : Int) < (s.size : Int) by omega), hb0', ← ext_size, ext_ext, ext_ext]
      have hw1 : wrap64 ((at_ : Int) + 1) = ((at_ + 1 : Nat) : Int) := wrap64_succ (by omega)
      have hone : ∀ x, x = true → spec_l21End.j0 (k + 2) s at_ x = some ((at_ + 1 : Nat) : Int) := by
        intro x hx
        rw [spec_l21End.j0, if_pos hx, hw1]
      by_cases c48 : bt s (at_ : Nat) = 48
      · right
        rw [if_pos (.inl c48), if_pos c48, hone _ rfl]
        exact ⟨at_ + 1, rfl, rfl, by omega, by omega⟩
      · rw [if_neg c48]
        by_cases c49 : bt s (at_ : Nat) = 49
        · right
          rw [if_pos (.inr c49), hone _ (beq_iff_eq.mpr c49)]
          exact ⟨at_ + 1, rfl, rfl, by omega, by omega⟩
        · rw [if_neg (show ¬ (bt s (at_ : Nat) = 48 ∨ bt s (at_ : Nat) = 49) by omega), beq_eq_false_iff_ne.mpr c49, spec_l21End.j0, if_neg (show ¬ (false = true) by decide), if_pos (show (0 : Int) ≤ (at_ : Int) by omega), if_pos (show (at_ : Int) < (s.size : Int) by omega), ext_size, hw1]
          by_cases c2 : s.size - at_ < 2
          · left
            rw [if_pos (.inr c2)]
            refine ⟨rfl, ?_⟩
            by_cases c65 : bt s (at_ : Nat) = 65
            · rw [if_pos c65, if_pos (show ((at_ + 1 : Nat) : Int) ≥ (s.size : Int) by omega), end_j1 _ (by omega)]
            · rw [if_neg c65]
              by_cases c66 : bt s (at_ : Nat) = 66
              · rw [if_pos c66, if_pos (show ((at_ + 1 : Nat) : Int) ≥ (s.size : Int) by omega), end_j1 _ (by omega)]
              · rw [if_neg c66, end_j1 _ (by omega)]
          · have hb1 := ext_bt s at_ 1 (by omega)
            have hb1' : bt (ext s at_) 1 = bt s ((at_ + 1 : Nat) : Int) := hb1
            rw [hb1']
            obtain ⟨d, hd, hdi⟩ := spec_digit (bt s ((at_ + 1 : Nat) : Int)) (bt_range _ _).1 (bt_range _ _).2 (k := k + 1) (by omega)
            have hj : (if (bt s (at_ : Nat)) = 65 then (if ((at_ + 1 : Nat) : Int) ≥ (s.size : Int) then (spec_l21End.j1 (k + 1) s at_ true) else (if 0 ≤ ((at_ + 1 : Nat) : Int) then (if ((at_ + 1 : Nat) : Int) < (s.size : Int) then ((spec_l21Digit.f (k + 1) (bt s ((at_ + 1 : Nat) : Int))).bind fun t101 => (spec_l21End.j1 (k + 1) s at_ (decide (t101 < 0)))) else (none)) else (none))) else (if (bt s (at_ : Nat)) = 66 then (if ((at_ + 1 : Nat) : Int) ≥ (s.size : Int) then (spec_l21End.j1 (k + 1) s at_ true) else (if 0 ≤ ((at_ + 1 : Nat) : Int) then (if ((at_ + 1 : Nat) : Int) < (s.size : Int) then ((spec_l21Digit.f (k + 1) (bt s ((at_ + 1 : Nat) : Int))).bind fun t102 => (spec_l21End.j1 (k + 1) s at_ (decide (t102 < 0)))) else (none)) else (none))) else (spec_l21End.j1 (k + 1) s at_ true))) = if (bt s (at_ : Nat) ≠ 65 ∧ bt s (at_ : Nat) ≠ 66) then some (-1) else spec_l21End.j1 (k + 1) s at_ (decide (d < 0)) := by
              rw [if_neg (show ¬ (((at_ + 1 : Nat) : Int) ≥ (s.size : Int)) by omega), if_pos (show (0 : Int) ≤ ((at_ + 1 : Nat) : Int) by omega), if_pos (show ((at_ + 1 : Nat) : Int) < (s.size : Int) by omega), hd, Option.bind_some, end_j1 _ (by omega)]
              by_cases c65 : bt s (at_ : Nat) = 65
              · rw [if_pos c65, if_neg (fun q => q.1 c65)]
              · rw [if_neg c65]
                by_cases c66 : bt s (at_ : Nat) = 66
                · rw [if_pos c66, if_neg (fun q => q.2 c66)]
                · rw [if_neg c66, if_pos ⟨c65, c66⟩]
            rw [hj]
            by_cases c6 : bt s (at_ : Nat) ≠ 65 ∧ bt s (at_ : Nat) ≠ 66
            · left
              rw [if_pos (.inl c6), if_pos c6]
              exact ⟨rfl, rfl⟩
            · rw [if_neg (show ¬ ((bt s (at_ : Nat) ≠ 65 ∧ bt s (at_ : Nat) ≠ 66) ∨ s.size - at_ < 2) by omega), if_neg c6, hdi]
              by_cases c7 : Lib.indexByte hexB (bt s ((at_ + 1 : Nat) : Int)).toNat.toUInt8 < 0
              · left
                rw [if_pos c7, decide_eq_true c7, end_j1 _ (by omega)]
                exact ⟨rfl, rfl⟩
              · rw [if_neg c7, decide_eq_false c7, spec_l21End.j1, if_neg (by decide), wrap64_of (n := (at_ : Int) + 2) (by omega) (by omega), show ((at_ : Int) + 2) = ((at_ + 2 : Nat) : Int) by omega]
                rcases ih k (at_ + 2) (by omega) (by omega) (by omega) with ⟨g1, g2⟩ | ⟨e1, g1, g2, g3, g4⟩
                · left
                  rw [g1, g2, Option.bind_some, if_pos (by decide)]
                  exact ⟨rfl, rfl⟩
                · rw [g1, g2, Option.bind_some, Option.bind_some, if_neg (by omega)]
                  rcases ih k e1 (by omega) (by omega) (by omega) with ⟨i1, i2⟩ | ⟨e2, i1, i2, i3, i4⟩
                  · left
                    rw [i1, i2]
                    exact ⟨rfl, rfl⟩
                  · right
                    rw [i1, i2]
                    exact ⟨e2, rfl, rfl, by omega, i4⟩
theorem ext_zero (s : ByteArray) : ext s 0 = s := by unfold ext; exact ByteArray.extract_zero_size
theorem spec_protocol (s : ByteArray) {k : Nat} (hk : 400 < k) : spec_IsProtocol.f k s = some (impl_IsProtocol.ok s) := by
  unfold spec_IsProtocol.f impl_IsProtocol.ok
  by_cases h1 : (s.size : Int) ≤ 100
  · rw [if_pos h1, if_neg (show ¬ 100 < s.size by omega)]
    have h := end_both s (by omega) 100 k 0 (by omega) (by omega) (by omega)
    rw [ext_zero] at h
    by_cases h2 : (s.size : Int) > 0
    · rw [if_pos h2]
      have h' : Same s k 0 _ := h
      rcases h' with ⟨g1, g2⟩ | ⟨e, g1, g2, g3, g4⟩
      · have g2' : spec_l21End.f k s 0 = some (-1) := g2
        rw [g1, g2', Option.bind_some]
        exact congrArg some (beq_eq_false_iff_ne.mpr (by omega))
      · have g2' : spec_l21End.f k s 0 = some (e : Int) := g2
        rw [g1, g2', Option.bind_some]
        congr 1
        show ((e : Int) == (s.size : Int)) = decide ((ext s e).size = 0)
        rw [ext_size, Bool.eq_iff_iff, beq_iff_eq, decide_eq_true_eq]
        omega
    · rw [if_neg h2]
      have hz : s.size = 0 := by omega
      rw [show impl_readTurn.g 100 s = none by rw [impl_readTurn.g, if_pos hz]]
  · rw [if_neg h1, if_pos (show 100 < s.size by omega)]
end Go.Proofs.Ytcgjlmgfmiacgaa.U
