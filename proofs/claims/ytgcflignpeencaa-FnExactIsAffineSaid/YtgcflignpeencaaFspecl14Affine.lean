/- The walk of one Go function: a call of it ends as the Lean function of its name tells; the conditions are those of each theorem. -/
import Derived.Test.YtgcflignpeencaaF0
import Derived.Test.YtgcflignpeencaaFGa
namespace Go.Proofs.Ytgcflignpeencaa.F
open Go.RowKit Go.Proofs.YtgcflignpeencaaW.PrintWords Go.Proofs.YtgcflignpeencaaW.PrintLast Go.Proofs.YtgcflignpeencaaW.PrintMore
attribute [local go_sem] max2_int min2_int max_two min_two max_three min_three max_four min_four   -- for this text's walks alone
set_option linter.unusedVariables false
set_option linter.unusedSimpArgs false

/-! ### spec_l14Affine: function 48 -/
def spec_l14Affine.l0 : Nat → Int → Int → Int → Int → Int → Option (Int)
  | 0, _, _, _, _, _ => none
  | k + 1, x0, x1, x2, x7, x8 => if 0 ≤ x0 then (if x8 < (shl .i64 1 x0) then ((spec_l2Count.f k (Go.bits .and .i64 x1 x8)).bind fun t101 => (if 0 ≤ x8 then (spec_l14Affine.l0 k x0 x1 x2 (Go.bits .or .i64 x7 (shl .i64 (Int.tmod (wrap64 (t101 + x2)) 2) x8)) (wrap64 (x8 + 1))) else (none))) else (some x7)) else (none)
def spec_l14Affine.f (k : Nat) (a0 : Int) (a1 : Int) (a2 : Int) : Option (Int) := spec_l14Affine.l0 k a0 a1 a2 0 0
theorem spec_l14Affine.mono_l : ∀ k, (∀ y0 y1 y2 y3 y4, LeO (spec_l14Affine.l0 k y0 y1 y2 y3 y4) (spec_l14Affine.l0 (k + 1) y0 y1 y2 y3 y4))
  | 0 => fun _ _ _ _ _ r h => by simp [spec_l14Affine.l0] at h
  | k + 1 => by
    have ih0 := spec_l14Affine.mono_l k
    · intro y0 y1 y2 y3 y4
      unfold spec_l14Affine.l0
      repeat' first
      | (with_reducible exact ih0 _ _ _ _ _)
      | (with_reducible exact spec_l2Count.mono _ _)
      | (with_reducible exact LeO.refl _)
      | (with_reducible exact LeO.none _)
      | (with_reducible refine LeO.ite ?_ ?_)
      | (with_reducible refine LeO.bind ?_ (fun _ => ?_))
      | exact ih0 _ _ _ _ _
      | exact spec_l2Count.mono _ _
      | exact LeO.none _
      | refine LeO.ite ?_ ?_
      | refine LeO.bind ?_ (fun _ => ?_)
theorem spec_l14Affine.mono : ∀ a0 a1 a2 k, LeO (spec_l14Affine.f k a0 a1 a2) (spec_l14Affine.f (k + 1) a0 a1 a2) := by
  intro a0 a1 a2 k
  have ih0 := spec_l14Affine.mono_l k
  unfold spec_l14Affine.f
  repeat' first
      | (with_reducible exact ih0 _ _ _ _ _)
      | (with_reducible exact spec_l2Count.mono _ _)
      | (with_reducible exact LeO.refl _)
      | (with_reducible exact LeO.none _)
      | (with_reducible refine LeO.ite ?_ ?_)
      | (with_reducible refine LeO.bind ?_ (fun _ => ?_))
      | exact ih0 _ _ _ _ _
      | exact spec_l2Count.mono _ _
      | exact LeO.none _
      | refine LeO.ite ?_ ?_
      | refine LeO.bind ?_ (fun _ => ?_)
set_option maxHeartbeats 8000000 in
set_option maxRecDepth 100000 in
theorem spec_l14Affine.calls (k : Nat) (a0 : Int) (a1 : Int) (a2 : Int) (r : Int) (w : World) (h : spec_l14Affine.f k a0 a1 a2 = some r) :
    Calls Try.prog 48 #[.int .i64 a0, .int .i64 a1, .int .i64 a2] w fun e w' => e = .returned (.int .i64 r) ∧ Drawn0 w w' := by
  have H : (spec_l14Affine.l0 k a0 a1 a2 0 0) = some r := h
  clear h
  have H' := Aside0.mk H
  clear H
  go_enter Try.func48, Try.ntmps48
  go_wp2
  go_loopg [7, 8] k (fun kq v7 v8 w' => ∃ (x7_1 : Int) (x8_1 : Int), v7 = .int .i64 x7_1 ∧ v8 = .int .i64 x8_1 ∧ Aside0 (spec_l14Affine.l0 kq a0 a1 a2 x7_1 x8_1 = some r) ∧ Aside0 (kq ≤ k) ∧ Drawn0 w w')
  case atStart => exact ⟨(0), (0), (by first | rfl | (simp; done) | (simp [*]; done)), (by first | rfl | (simp; done) | (simp [*]; done)), H', ⟨Nat.le_refl _⟩, by repeat (first | exact Drawn0.refl _ | apply Drawn0.step)⟩
  case round =>
    clear H'
    try clear p2
    obtain ⟨x7_1, x8_1, rfl, rfl, HA, HK1, ⟨m1, rfl⟩⟩ := hrel
    cases gk with
    | zero => exact absurd HA.out (by simp [spec_l14Affine.l0])
    | succ k1 =>
      have H := HA.out
      clear HA
      simp only [spec_l14Affine.l0] at H
      by_cases c4 : 0 ≤ a0
      · rw [if_pos c4] at H
        have c4b0 := eq_true c4
        have c4b1 : decide (0 ≤ a0) = true := decide_eq_true c4
        clear c4
        obtain ⟨ji5, hji5⟩ : ∃ j_ : Int, (shl .i64 1 a0) = j_ := ⟨_, rfl⟩
        replace H : (if x8_1 < (ji5) then ((spec_l2Count.f k1 (Go.bits .and .i64 a1 x8_1)).bind fun t101 => (if 0 ≤ x8_1 then (spec_l14Affine.l0 k1 a0 a1 a2 (Go.bits .or .i64 x7_1 (shl .i64 (Int.tmod (wrap64 (t101 + a2)) 2) x8_1)) (wrap64 (x8_1 + 1))) else (none))) else (some x7_1)) = some r := by first | (rw [hji5] at H; exact H) | (simp only [hji5] at H ⊢; exact H)
        have hji5_ : (IntKind.i64.wrap (1 * 2 ^ min a0.toNat 64)) = ji5 := hji5
        have hji5z : a0 ≤ 64 → (IntKind.i64.wrap (1 * 2 ^ a0.toNat)) = ji5 := shl_small hji5
        have hji5u : (IntKind.i64.wrap (2 ^ min a0.toNat 64)) = ji5 := by have h_ := hji5_; rw [Int.one_mul] at h_; exact h_
        have hji5v : a0 ≤ 64 → (IntKind.i64.wrap (2 ^ a0.toNat)) = ji5 := fun hle_ => by have h_ := hji5z hle_; rw [Int.one_mul] at h_; exact h_
        have hji5y : (wrap64 (1 * 2 ^ min a0.toNat 64)) = ji5 := (i64_w _).symm.trans hji5_
        have hji5x : a0 ≤ 64 → (wrap64 (1 * 2 ^ a0.toNat)) = ji5 := fun h_ => (i64_w _).symm.trans (hji5z h_)
        by_cases c6 : x8_1 < (ji5)
        · rw [if_pos c6] at H
          have c6b0 : decide (x8_1 < (ji5)) = true := decide_eq_true c6
          clear c6
          replace H := Option.bind_eq_some_iff.mp H
          obtain ⟨t101, A70, H⟩ := H
          replace H : (if 0 ≤ x8_1 then (spec_l14Affine.l0 k1 a0 a1 a2 (Go.bits .or .i64 x7_1 (shl .i64 (Int.tmod (wrap64 (t101 + a2)) 2) x8_1)) (wrap64 (x8_1 + 1))) else (none)) = some r := H
          have A7 := Aside0.mk A70
          clear A70
          by_cases c8 : 0 ≤ x8_1
          · rw [if_pos c8] at H
            have c8b0 := eq_true c8
            have c8b1 : decide (0 ≤ x8_1) = true := decide_eq_true c8
            clear c8
            obtain ⟨ji9, hji9⟩ : ∃ j_ : Int, (shl .i64 (Int.tmod (wrap64 (t101 + a2)) 2) x8_1) = j_ := ⟨_, rfl⟩
            replace H : (spec_l14Affine.l0 k1 a0 a1 a2 (Go.bits .or .i64 x7_1 (ji9)) (wrap64 (x8_1 + 1))) = some r := by first | (rw [hji9] at H; exact H) | (simp only [hji9] at H ⊢; exact H)
            (try rw [hji9] at A7)
            have hji9_ : (IntKind.i64.wrap ((Int.tmod (wrap64 (t101 + a2)) 2) * 2 ^ min x8_1.toNat 64)) = ji9 := hji9
            have hji9z : x8_1 ≤ 64 → (IntKind.i64.wrap ((Int.tmod (wrap64 (t101 + a2)) 2) * 2 ^ x8_1.toNat)) = ji9 := shl_small hji9
            have hji9y : (wrap64 ((Int.tmod (wrap64 (t101 + a2)) 2) * 2 ^ min x8_1.toNat 64)) = ji9 := (i64_w _).symm.trans hji9_
            have hji9x : x8_1 ≤ 64 → (wrap64 ((Int.tmod (wrap64 (t101 + a2)) 2) * 2 ^ x8_1.toNat)) = ji9 := fun h_ => (i64_w _).symm.trans (hji9z h_)
            have H' := Aside0.mk H
            clear H
            go_wp2_with (first | ((with_reducible refine gate_callee (f := 47) rfl ?_); refine goesL_ (some 19) rfl rfl Try.func47 (by kernel_rfl) rfl #[.int .i64 (Go.bits .and .i64 a1 x8_1)] rfl (by (try simp only [List.map_toArray, List.map_cons, List.map_nil]); first | done | rfl | (simp only [List.length_drop, List.length_take]; rfl)) ?_; (with_reducible refine (spec_l2Count.calls k1 (Go.bits .and .i64 a1 x8_1) t101 _ A7.out).mono ?_); rintro e w' ⟨rfl, ⟨nd, rfl⟩⟩; refine ⟨_, rfl, ?_⟩))
            go_roundg k1
            case measure => have := HK1.out; omega
            case rel => exact ⟨(Go.bits .or .i64 x7_1 (ji9)), (wrap64 (x8_1 + 1)), (by first | rfl | (simp; done) | (simp only [← hji9] <;> (first | rfl | simp)) | (simp [*]; done)), (by first | rfl | (simp; done) | (simp [*]; done)), H', ⟨by have := HK1.out; omega⟩, by repeat (first | exact Drawn0.refl _ | apply Drawn0.step)⟩
          · rw [if_neg c8] at H
            exact absurd H (by simp)
        · rw [if_neg c6] at H
          have c6b0 : decide (x8_1 < (ji5)) = false := decide_eq_false c6
          clear c6
          obtain rfl := Option.some.inj H
          go_wp2
          go_ret
          exact ⟨by first | rfl | (simp; done) | (simp only [← hji5] <;> (first | rfl | simp)) | (simp [*]; done), by repeat (first | exact Drawn0.refl _ | apply Drawn0.step)⟩
      · rw [if_neg c4] at H
        exact absurd H (by simp)

end Go.Proofs.Ytgcflignpeencaa.F
