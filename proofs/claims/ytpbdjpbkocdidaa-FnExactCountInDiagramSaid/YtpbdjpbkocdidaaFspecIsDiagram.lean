/- The walk of one Go function: a call of it ends as the Lean function of its name tells; the conditions are those of each theorem. -/
import Derived.Test.YtpbdjpbkocdidaaF0
import Derived.Test.YtpbdjpbkocdidaaFeq49
import Derived.Test.YtpbdjpbkocdidaaFGa
import Derived.Test.YtpbdjpbkocdidaaFspecl3Perm
import Derived.Test.YtpbdjpbkocdidaaFspecl19Level
namespace Go.Proofs.Ytpbdjpbkocdidaa.F
open Go.RowKit Go.Proofs.YtpbdjpbkocdidaaW.PrintWords Go.Proofs.YtpbdjpbkocdidaaW.PrintLast Go.Proofs.YtpbdjpbkocdidaaW.PrintMore
attribute [local go_sem] max2_int min2_int max_two min_two max_three min_three max_four min_four   -- for this text's walks alone
set_option linter.unusedVariables false
set_option linter.unusedSimpArgs false

attribute [local go_sem high] eqA49
/-! ### spec_IsDiagram: function 14 -/
mutual
def spec_IsDiagram.j0 : Nat → List (S49) → List Int → Bool → Option (Bool)
  | 0, _, _, _ => none
  | k + 1, x0, x1, x24 => if x24 = true then (some false) else (spec_IsDiagram.l0 k x0 x1 0)
def spec_IsDiagram.l0 : Nat → List (S49) → List Int → Int → Option (Bool)
  | 0, _, _, _ => none
  | k + 1, x0, x1, x5 => if x5 < (x0.length : Int) then (if 0 ≤ x5 then ((spec_l19Level.f k x1 ((rd_T49 x0 x5).f0)).bind fun t105 => (if t105 = (x1.length : Int) then (spec_IsDiagram.j2 k x0 x1 x5 t105 true ((rd_T49 x0 x5).f0) ((rd_T49 x0 x5).f1) ((rd_T49 x0 x5).f2)) else ((spec_l1In.f ((rd_T49 x0 x5).f1) (-2) (wrap64 (x5 - 1))).bind fun t106 => (if t106 = true then ((spec_l1In.f ((rd_T49 x0 x5).f2) (-2) (wrap64 (x5 - 1))).bind fun t107 => (if t107 = true then (spec_IsDiagram.j2 k x0 x1 x5 t105 (((rd_T49 x0 x5).f1) == ((rd_T49 x0 x5).f2)) ((rd_T49 x0 x5).f0) ((rd_T49 x0 x5).f1) ((rd_T49 x0 x5).f2)) else (spec_IsDiagram.j2 k x0 x1 x5 t105 true ((rd_T49 x0 x5).f0) ((rd_T49 x0 x5).f1) ((rd_T49 x0 x5).f2)))) else (spec_IsDiagram.j2 k x0 x1 x5 t105 true ((rd_T49 x0 x5).f0) ((rd_T49 x0 x5).f1) ((rd_T49 x0 x5).f2)))))) else (none)) else (some true)
def spec_IsDiagram.j2 : Nat → List (S49) → List Int → Int → Int → Bool → Int → Int → Int → Option (Bool)
  | 0, _, _, _, _, _, _, _, _ => none
  | k + 1, x0, x1, x5, x7, x65, x105000, x105001, x105002 => if x65 = true then (some false) else (if x105001 ≥ 0 then (if 0 ≤ x105001 then (if x105001 < (x0.length : Int) then ((spec_l19Level.f k x1 ((rd_T49 x0 x105001).f0)).bind fun t109 => (if t109 ≤ x7 then (spec_IsDiagram.j3 k x0 x1 x5 true x105000 x105001 x105002) else (if x105002 ≥ 0 then (if 0 ≤ x105002 then (if x105002 < (x0.length : Int) then ((spec_l19Level.f k x1 ((rd_T49 x0 x105002).f0)).bind fun t111 => (spec_IsDiagram.j3 k x0 x1 x5 (decide (t111 ≤ x7)) x105000 x105001 x105002)) else (none)) else (none)) else (spec_IsDiagram.j3 k x0 x1 x5 false x105000 x105001 x105002)))) else (none)) else (none)) else (if x105002 ≥ 0 then (if 0 ≤ x105002 then (if x105002 < (x0.length : Int) then ((spec_l19Level.f k x1 ((rd_T49 x0 x105002).f0)).bind fun t113 => (spec_IsDiagram.j3 k x0 x1 x5 (decide (t113 ≤ x7)) x105000 x105001 x105002)) else (none)) else (none)) else (spec_IsDiagram.j3 k x0 x1 x5 false x105000 x105001 x105002)))
def spec_IsDiagram.j3 : Nat → List (S49) → List Int → Int → Bool → Int → Int → Int → Option (Bool)
  | 0, _, _, _, _, _, _, _ => none
  | k + 1, x0, x1, x5, x97, x105000, x105001, x105002 => if x97 = true then (some false) else (spec_IsDiagram.l1 k x0 x1 x5 0 x105000 x105001 x105002)
def spec_IsDiagram.l1 : Nat → List (S49) → List Int → Int → Int → Int → Int → Int → Option (Bool)
  | 0, _, _, _, _, _, _, _ => none
  | k + 1, x0, x1, x5, x8, x105000, x105001, x105002 => if x8 < x5 then (if 0 ≤ x8 then (if x8 < (x0.length : Int) then (if (((rd_T49 x0 x8).f0) == x105000 && (((rd_T49 x0 x8).f1) == x105001 && (((rd_T49 x0 x8).f2) == x105002))) = true then (some false) else (spec_IsDiagram.l1 k x0 x1 x5 (wrap64 (x8 + 1)) x105000 x105001 x105002)) else (none)) else (none)) else (spec_IsDiagram.l0 k x0 x1 (wrap64 (x5 + 1)))
end
def spec_IsDiagram.f (k : Nat) (l0 : List (S49)) (l1 : List Int) : Option (Bool) := (spec_l3Perm.f k l1 (l1.length : Int)).bind fun t101 => (if t101 = true then (if (l1.length : Int) > 5 then (spec_IsDiagram.j0 k l0 l1 true) else ((spec_l1In.f (l0.length : Int) 1 31).bind fun t102 => (spec_IsDiagram.j0 k l0 l1 (!t102)))) else (spec_IsDiagram.j0 k l0 l1 true))
theorem spec_IsDiagram.mono_l : ∀ k, (∀ y0 y1 y2, LeO (spec_IsDiagram.j0 k y0 y1 y2) (spec_IsDiagram.j0 (k + 1) y0 y1 y2)) ∧ (∀ y0 y1 y2, LeO (spec_IsDiagram.l0 k y0 y1 y2) (spec_IsDiagram.l0 (k + 1) y0 y1 y2)) ∧ (∀ y0 y1 y2 y3 y4 y5 y6 y7, LeO (spec_IsDiagram.j2 k y0 y1 y2 y3 y4 y5 y6 y7) (spec_IsDiagram.j2 (k + 1) y0 y1 y2 y3 y4 y5 y6 y7)) ∧ (∀ y0 y1 y2 y3 y4 y5 y6, LeO (spec_IsDiagram.j3 k y0 y1 y2 y3 y4 y5 y6) (spec_IsDiagram.j3 (k + 1) y0 y1 y2 y3 y4 y5 y6)) ∧ (∀ y0 y1 y2 y3 y4 y5 y6, LeO (spec_IsDiagram.l1 k y0 y1 y2 y3 y4 y5 y6) (spec_IsDiagram.l1 (k + 1) y0 y1 y2 y3 y4 y5 y6))
  | 0 => ⟨fun _ _ _ r h => by simp [spec_IsDiagram.j0] at h, fun _ _ _ r h => by simp [spec_IsDiagram.l0] at h, fun _ _ _ _ _ _ _ _ r h => by simp [spec_IsDiagram.j2] at h, fun _ _ _ _ _ _ _ r h => by simp [spec_IsDiagram.j3] at h, fun _ _ _ _ _ _ _ r h => by simp [spec_IsDiagram.l1] at h⟩
  | k + 1 => by
    obtain ⟨ih0, ih1, ih2, ih3, ih4⟩ := spec_IsDiagram.mono_l k
    refine ⟨?_, ?_, ?_, ?_, ?_⟩
    · intro y0 y1 y2
      unfold spec_IsDiagram.j0
      repeat' first
      | (with_reducible exact ih0 _ _ _)
      | (with_reducible exact ih1 _ _ _)
      | (with_reducible exact ih2 _ _ _ _ _ _ _ _)
      | (with_reducible exact ih3 _ _ _ _ _ _ _)
      | (with_reducible exact ih4 _ _ _ _ _ _ _)
      | (with_reducible exact spec_l19Level.mono _ _ _)
      | (with_reducible exact spec_l3Perm.mono _ _ _)
      | (with_reducible exact LeO.refl _)
      | (with_reducible exact LeO.none _)
      | (with_reducible refine LeO.ite ?_ ?_)
      | (with_reducible refine LeO.bind ?_ (fun _ => ?_))
      | exact ih0 _ _ _
      | exact ih1 _ _ _
      | exact ih2 _ _ _ _ _ _ _ _
      | exact ih3 _ _ _ _ _ _ _
      | exact ih4 _ _ _ _ _ _ _
      | exact spec_l19Level.mono _ _ _
      | exact spec_l3Perm.mono _ _ _
      | exact LeO.none _
      | refine LeO.ite ?_ ?_
      | refine LeO.bind ?_ (fun _ => ?_)
    · intro y0 y1 y2
      unfold spec_IsDiagram.l0
      repeat' first
      | (with_reducible exact ih0 _ _ _)
      | (with_reducible exact ih1 _ _ _)
      | (with_reducible exact ih2 _ _ _ _ _ _ _ _)
      | (with_reducible exact ih3 _ _ _ _ _ _ _)
      | (with_reducible exact ih4 _ _ _ _ _ _ _)
      | (with_reducible exact spec_l19Level.mono _ _ _)
      | (with_reducible exact spec_l3Perm.mono _ _ _)
      | (with_reducible exact LeO.refl _)
      | (with_reducible exact LeO.none _)
      | (with_reducible refine LeO.ite ?_ ?_)
      | (with_reducible refine LeO.bind ?_ (fun _ => ?_))
      | exact ih0 _ _ _
      | exact ih1 _ _ _
      | exact ih2 _ _ _ _ _ _ _ _
      | exact ih3 _ _ _ _ _ _ _
      | exact ih4 _ _ _ _ _ _ _
      | exact spec_l19Level.mono _ _ _
      | exact spec_l3Perm.mono _ _ _
      | exact LeO.none _
      | refine LeO.ite ?_ ?_
      | refine LeO.bind ?_ (fun _ => ?_)
    · intro y0 y1 y2 y3 y4 y5 y6 y7
      unfold spec_IsDiagram.j2
      repeat' first
      | (with_reducible exact ih0 _ _ _)
      | (with_reducible exact ih1 _ _ _)
      | (with_reducible exact ih2 _ _ _ _ _ _ _ _)
      | (with_reducible exact ih3 _ _ _ _ _ _ _)
      | (with_reducible exact ih4 _ _ _ _ _ _ _)
      | (with_reducible exact spec_l19Level.mono _ _ _)
      | (with_reducible exact spec_l3Perm.mono _ _ _)
      | (with_reducible exact LeO.refl _)
      | (with_reducible exact LeO.none _)
      | (with_reducible refine LeO.ite ?_ ?_)
      | (with_reducible refine LeO.bind ?_ (fun _ => ?_))
      | exact ih0 _ _ _
      | exact ih1 _ _ _
      | exact ih2 _ _ _ _ _ _ _ _
      | exact ih3 _ _ _ _ _ _ _
      | exact ih4 _ _ _ _ _ _ _
      | exact spec_l19Level.mono _ _ _
      | exact spec_l3Perm.mono _ _ _
      | exact LeO.none _
      | refine LeO.ite ?_ ?_
      | refine LeO.bind ?_ (fun _ => ?_)
    · intro y0 y1 y2 y3 y4 y5 y6
      unfold spec_IsDiagram.j3
      repeat' first
      | (with_reducible exact ih0 _ _ _)
      | (with_reducible exact ih1 _ _ _)
      | (with_reducible exact ih2 _ _ _ _ _ _ _ _)
      | (with_reducible exact ih3 _ _ _ _ _ _ _)
      | (with_reducible exact ih4 _ _ _ _ _ _ _)
      | (with_reducible exact spec_l19Level.mono _ _ _)
      | (with_reducible exact spec_l3Perm.mono _ _ _)
      | (with_reducible exact LeO.refl _)
      | (with_reducible exact LeO.none _)
      | (with_reducible refine LeO.ite ?_ ?_)
      | (with_reducible refine LeO.bind ?_ (fun _ => ?_))
      | exact ih0 _ _ _
      | exact ih1 _ _ _
      | exact ih2 _ _ _ _ _ _ _ _
      | exact ih3 _ _ _ _ _ _ _
      | exact ih4 _ _ _ _ _ _ _
      | exact spec_l19Level.mono _ _ _
      | exact spec_l3Perm.mono _ _ _
      | exact LeO.none _
      | refine LeO.ite ?_ ?_
      | refine LeO.bind ?_ (fun _ => ?_)
    · intro y0 y1 y2 y3 y4 y5 y6
      unfold spec_IsDiagram.l1
      repeat' first
      | (with_reducible exact ih0 _ _ _)
      | (with_reducible exact ih1 _ _ _)
      | (with_reducible exact ih2 _ _ _ _ _ _ _ _)
      | (with_reducible exact ih3 _ _ _ _ _ _ _)
      | (with_reducible exact ih4 _ _ _ _ _ _ _)
      | (with_reducible exact spec_l19Level.mono _ _ _)
      | (with_reducible exact spec_l3Perm.mono _ _ _)
      | (with_reducible exact LeO.refl _)
      | (with_reducible exact LeO.none _)
      | (with_reducible refine LeO.ite ?_ ?_)
      | (with_reducible refine LeO.bind ?_ (fun _ => ?_))
      | exact ih0 _ _ _
      | exact ih1 _ _ _
      | exact ih2 _ _ _ _ _ _ _ _
      | exact ih3 _ _ _ _ _ _ _
      | exact ih4 _ _ _ _ _ _ _
      | exact spec_l19Level.mono _ _ _
      | exact spec_l3Perm.mono _ _ _
      | exact LeO.none _
      | refine LeO.ite ?_ ?_
      | refine LeO.bind ?_ (fun _ => ?_)
theorem spec_IsDiagram.mono : ∀ a0 a1 k, LeO (spec_IsDiagram.f k a0 a1) (spec_IsDiagram.f (k + 1) a0 a1) := by
  intro a0 a1 k
  obtain ⟨ih0, ih1, ih2, ih3, ih4⟩ := spec_IsDiagram.mono_l k
  unfold spec_IsDiagram.f
  repeat' first
      | (with_reducible exact ih0 _ _ _)
      | (with_reducible exact ih1 _ _ _)
      | (with_reducible exact ih2 _ _ _ _ _ _ _ _)
      | (with_reducible exact ih3 _ _ _ _ _ _ _)
      | (with_reducible exact ih4 _ _ _ _ _ _ _)
      | (with_reducible exact spec_l19Level.mono _ _ _)
      | (with_reducible exact spec_l3Perm.mono _ _ _)
      | (with_reducible exact LeO.refl _)
      | (with_reducible exact LeO.none _)
      | (with_reducible refine LeO.ite ?_ ?_)
      | (with_reducible refine LeO.bind ?_ (fun _ => ?_))
      | exact ih0 _ _ _
      | exact ih1 _ _ _
      | exact ih2 _ _ _ _ _ _ _ _
      | exact ih3 _ _ _ _ _ _ _
      | exact ih4 _ _ _ _ _ _ _
      | exact spec_l19Level.mono _ _ _
      | exact spec_l3Perm.mono _ _ _
      | exact LeO.none _
      | refine LeO.ite ?_ ?_
      | refine LeO.bind ?_ (fun _ => ?_)
set_option maxHeartbeats 8000000 in
set_option maxRecDepth 100000 in
theorem spec_IsDiagram.calls (k : Nat) (A0 : Option Addr) (c0 : Nat) (l0 : List (S49)) (A1 : Option Addr) (c1 : Nat) (l1 : List Int) (r : Bool) (w : World) (hr0 : Kd.C k49 w A0 l0.length l0) (hc0 : l0.length ≤ c0) (hr1 : Kd.C (Kd.int .i64) w A1 l1.length l1) (hc1 : l1.length ≤ c1) (h : spec_IsDiagram.f k l0 l1 = some r) :
    Calls Try.prog 14 #[.slice A0 l0.length c0, .slice A1 l1.length c1] w fun e w' => e = .returned (.bool r) ∧ Below w.heap.size w w' := by
  have hu49 := Try.underlying49
  have HR0 := Aside0.mk hr0
  have HC0 := Aside0.mk hc0
  clear hr0 hc0
  have HR1 := Aside0.mk hr1
  have HC1 := Aside0.mk hc1
  clear hr1 hc1
  have HB := Aside0.mk (Below.refl w.heap.size w)
  have H : ((spec_l3Perm.f k l1 (l1.length : Int)).bind fun t101 => (if t101 = true then (if (l1.length : Int) > 5 then (spec_IsDiagram.j0 k l0 l1 true) else ((spec_l1In.f (l0.length : Int) 1 31).bind fun t102 => (spec_IsDiagram.j0 k l0 l1 (!t102)))) else (spec_IsDiagram.j0 k l0 l1 true))) = some r := h
  clear h
  have HC3 := Aside0.mk H
  clear H
  go_enter Try.func14, Try.ntmps14
  go_upto_region 1 with (fail)
  repeat (go_quiet (fail); go_upto_region 1 with (fail))
  go_cut [24] (fun v24 wc => ∃ (kq : Nat) (x24_2 : Bool), v24 = .bool x24_2 ∧ Aside0 (spec_IsDiagram.j0 kq l0 l1 x24_2 = some r) ∧ Aside0 (kq ≤ k) ∧ Aside0 (Below w.heap.size w wc))
  case first =>
    have H := HC3.out
    clear HC3
    replace H := Option.bind_eq_some_iff.mp H
    obtain ⟨t101, A40, H⟩ := H
    replace H : (if t101 = true then (if (l1.length : Int) > 5 then (spec_IsDiagram.j0 k l0 l1 true) else ((spec_l1In.f (l0.length : Int) 1 31).bind fun t102 => (spec_IsDiagram.j0 k l0 l1 (!t102)))) else (spec_IsDiagram.j0 k l0 l1 true)) = some r := H
    have A4 := Aside0.mk A40
    clear A40
    by_cases c5 : t101 = true
    · subst c5
      have H1 : (if (l1.length : Int) > 5 then (spec_IsDiagram.j0 k l0 l1 true) else ((spec_l1In.f (l0.length : Int) 1 31).bind fun t102 => (spec_IsDiagram.j0 k l0 l1 (!t102)))) = some r := by rw [if_pos rfl] at H; exact H
      clear H
      have H := H1
      clear H1
      by_cases c6 : (l1.length : Int) > 5
      · rw [if_pos c6] at H
        have c6b0 : decide (5 < (l1.length : Int)) = true := decide_eq_true c6
        have c6b1 : decide (5 < l1.length) = true := decide_eq_true (by omega)
        clear c6
        (first | rw [c6b0] | (simp only [i64_w, i32_w]; rw [c6b0]) | skip)
        have H' := Aside0.mk H
        clear H
        go_wp2_with (first | (go_at_call 35; (with_reducible refine (spec_l3Perm.calls k _ _ l1 (l1.length : Int) true _ ?side1 ?side2 A4.out).mono ?_); (case side1 => repeat (first | exact (Kd.C_below HR1.out HB.out) | (with_reducible refine Kd.C_alloc ?_ _) | (with_reducible refine Kd.C_drewN ?_ _) | (with_reducible refine Kd.C_drew ?_))); (case side2 => exact HC1.out); rintro e w' ⟨rfl, ⟨nd, rfl⟩⟩; (try first | exact ⟨rfl, _, World.drewN_drewN _ _ _⟩ | exact ⟨rfl, _, Eq.trans (World.drewN_drewN _ _ _) (congrArg (World.drewN _) (Nat.add_assoc _ _ _))⟩)))
        repeat (go_quiet (first | (go_at_call 35; (with_reducible refine (spec_l3Perm.calls k _ _ l1 (l1.length : Int) true _ ?side1 ?side2 A4.out).mono ?_); (case side1 => repeat (first | exact (Kd.C_below HR1.out HB.out) | (with_reducible refine Kd.C_alloc ?_ _) | (with_reducible refine Kd.C_drewN ?_ _) | (with_reducible refine Kd.C_drew ?_))); (case side2 => exact HC1.out); rintro e w' ⟨rfl, ⟨nd, rfl⟩⟩; (try first | exact ⟨rfl, _, World.drewN_drewN _ _ _⟩ | exact ⟨rfl, _, Eq.trans (World.drewN_drewN _ _ _) (congrArg (World.drewN _) (Nat.add_assoc _ _ _))⟩))); try go_wp2_with (first | (go_at_call 35; (with_reducible refine (spec_l3Perm.calls k _ _ l1 (l1.length : Int) true _ ?side1 ?side2 A4.out).mono ?_); (case side1 => repeat (first | exact (Kd.C_below HR1.out HB.out) | (with_reducible refine Kd.C_alloc ?_ _) | (with_reducible refine Kd.C_drewN ?_ _) | (with_reducible refine Kd.C_drew ?_))); (case side2 => exact HC1.out); rintro e w' ⟨rfl, ⟨nd, rfl⟩⟩; (try first | exact ⟨rfl, _, World.drewN_drewN _ _ _⟩ | exact ⟨rfl, _, Eq.trans (World.drewN_drewN _ _ _) (congrArg (World.drewN _) (Nat.add_assoc _ _ _))⟩))))
        go_meet
        case rel => exact ⟨_, (true), (by first | rfl | (simp; done) | (simp [*]; done)), H', ⟨by first | omega | exact Nat.le_refl _⟩, ⟨by repeat (first | (with_reducible first | exact HB.out | apply below_alloc | apply pw_below_drewN | apply below_drew1) | exact HB.out)⟩⟩
      · rw [if_neg c6] at H
        have c6b0 : decide (5 < (l1.length : Int)) = false := decide_eq_false c6
        have c6b1 : decide (5 < l1.length) = false := decide_eq_false (by omega)
        clear c6
        (first | rw [c6b0] | (simp only [i64_w, i32_w]; rw [c6b0]) | skip)
        replace H := Option.bind_eq_some_iff.mp H
        obtain ⟨t102, A70, H⟩ := H
        replace H : (spec_IsDiagram.j0 k l0 l1 (!t102)) = some r := H
        have A7 := Aside0.mk A70
        clear A70
        have H' := Aside0.mk H
        clear H
        go_wp2_with (first | (go_at_call 35; (with_reducible refine (spec_l3Perm.calls k _ _ l1 (l1.length : Int) true _ ?side1 ?side2 A4.out).mono ?_); (case side1 => repeat (first | exact (Kd.C_below HR1.out HB.out) | (with_reducible refine Kd.C_alloc ?_ _) | (with_reducible refine Kd.C_drewN ?_ _) | (with_reducible refine Kd.C_drew ?_))); (case side2 => exact HC1.out); rintro e w' ⟨rfl, ⟨nd, rfl⟩⟩; (try first | exact ⟨rfl, _, World.drewN_drewN _ _ _⟩ | exact ⟨rfl, _, Eq.trans (World.drewN_drewN _ _ _) (congrArg (World.drewN _) (Nat.add_assoc _ _ _))⟩)) | (go_at_call 31; (with_reducible refine (spec_l1In.calls (l0.length : Int) 1 31 t102 _ A7.out).mono ?_); rintro e w' ⟨rfl, ⟨nd, rfl⟩⟩; (try first | exact ⟨rfl, _, World.drewN_drewN _ _ _⟩ | exact ⟨rfl, _, Eq.trans (World.drewN_drewN _ _ _) (congrArg (World.drewN _) (Nat.add_assoc _ _ _))⟩)))
        repeat (go_quiet (first | (go_at_call 35; (with_reducible refine (spec_l3Perm.calls k _ _ l1 (l1.length : Int) true _ ?side1 ?side2 A4.out).mono ?_); (case side1 => repeat (first | exact (Kd.C_below HR1.out HB.out) | (with_reducible refine Kd.C_alloc ?_ _) | (with_reducible refine Kd.C_drewN ?_ _) | (with_reducible refine Kd.C_drew ?_))); (case side2 => exact HC1.out); rintro e w' ⟨rfl, ⟨nd, rfl⟩⟩; (try first | exact ⟨rfl, _, World.drewN_drewN _ _ _⟩ | exact ⟨rfl, _, Eq.trans (World.drewN_drewN _ _ _) (congrArg (World.drewN _) (Nat.add_assoc _ _ _))⟩)) | (go_at_call 31; (with_reducible refine (spec_l1In.calls (l0.length : Int) 1 31 t102 _ A7.out).mono ?_); rintro e w' ⟨rfl, ⟨nd, rfl⟩⟩; (try first | exact ⟨rfl, _, World.drewN_drewN _ _ _⟩ | exact ⟨rfl, _, Eq.trans (World.drewN_drewN _ _ _) (congrArg (World.drewN _) (Nat.add_assoc _ _ _))⟩))); try go_wp2_with (first | (go_at_call 35; (with_reducible refine (spec_l3Perm.calls k _ _ l1 (l1.length : Int) true _ ?side1 ?side2 A4.out).mono ?_); (case side1 => repeat (first | exact (Kd.C_below HR1.out HB.out) | (with_reducible refine Kd.C_alloc ?_ _) | (with_reducible refine Kd.C_drewN ?_ _) | (with_reducible refine Kd.C_drew ?_))); (case side2 => exact HC1.out); rintro e w' ⟨rfl, ⟨nd, rfl⟩⟩; (try first | exact ⟨rfl, _, World.drewN_drewN _ _ _⟩ | exact ⟨rfl, _, Eq.trans (World.drewN_drewN _ _ _) (congrArg (World.drewN _) (Nat.add_assoc _ _ _))⟩)) | (go_at_call 31; (with_reducible refine (spec_l1In.calls (l0.length : Int) 1 31 t102 _ A7.out).mono ?_); rintro e w' ⟨rfl, ⟨nd, rfl⟩⟩; (try first | exact ⟨rfl, _, World.drewN_drewN _ _ _⟩ | exact ⟨rfl, _, Eq.trans (World.drewN_drewN _ _ _) (congrArg (World.drewN _) (Nat.add_assoc _ _ _))⟩))))
        go_meet
        case rel => exact ⟨_, (!t102), (by first | rfl | (simp; done) | (simp [*]; done)), H', ⟨by first | omega | exact Nat.le_refl _⟩, ⟨by repeat (first | (with_reducible first | exact HB.out | apply below_alloc | apply pw_below_drewN | apply below_drew1) | exact HB.out)⟩⟩
    · replace c5 := Bool.eq_false_iff.mpr c5
      subst c5
      have H1 : (spec_IsDiagram.j0 k l0 l1 true) = some r := by rw [if_neg (show ¬ (false = true) by decide)] at H; exact H
      clear H
      have H := H1
      clear H1
      have H' := Aside0.mk H
      clear H
      go_wp2_with (first | (go_at_call 35; (with_reducible refine (spec_l3Perm.calls k _ _ l1 (l1.length : Int) false _ ?side1 ?side2 A4.out).mono ?_); (case side1 => repeat (first | exact (Kd.C_below HR1.out HB.out) | (with_reducible refine Kd.C_alloc ?_ _) | (with_reducible refine Kd.C_drewN ?_ _) | (with_reducible refine Kd.C_drew ?_))); (case side2 => exact HC1.out); rintro e w' ⟨rfl, ⟨nd, rfl⟩⟩; (try first | exact ⟨rfl, _, World.drewN_drewN _ _ _⟩ | exact ⟨rfl, _, Eq.trans (World.drewN_drewN _ _ _) (congrArg (World.drewN _) (Nat.add_assoc _ _ _))⟩)))
      repeat (go_quiet (first | (go_at_call 35; (with_reducible refine (spec_l3Perm.calls k _ _ l1 (l1.length : Int) false _ ?side1 ?side2 A4.out).mono ?_); (case side1 => repeat (first | exact (Kd.C_below HR1.out HB.out) | (with_reducible refine Kd.C_alloc ?_ _) | (with_reducible refine Kd.C_drewN ?_ _) | (with_reducible refine Kd.C_drew ?_))); (case side2 => exact HC1.out); rintro e w' ⟨rfl, ⟨nd, rfl⟩⟩; (try first | exact ⟨rfl, _, World.drewN_drewN _ _ _⟩ | exact ⟨rfl, _, Eq.trans (World.drewN_drewN _ _ _) (congrArg (World.drewN _) (Nat.add_assoc _ _ _))⟩))); try go_wp2_with (first | (go_at_call 35; (with_reducible refine (spec_l3Perm.calls k _ _ l1 (l1.length : Int) false _ ?side1 ?side2 A4.out).mono ?_); (case side1 => repeat (first | exact (Kd.C_below HR1.out HB.out) | (with_reducible refine Kd.C_alloc ?_ _) | (with_reducible refine Kd.C_drewN ?_ _) | (with_reducible refine Kd.C_drew ?_))); (case side2 => exact HC1.out); rintro e w' ⟨rfl, ⟨nd, rfl⟩⟩; (try first | exact ⟨rfl, _, World.drewN_drewN _ _ _⟩ | exact ⟨rfl, _, Eq.trans (World.drewN_drewN _ _ _) (congrArg (World.drewN _) (Nat.add_assoc _ _ _))⟩))))
      go_meet
      case rel => exact ⟨_, (true), (by first | rfl | (simp; done) | (simp [*]; done)), H', ⟨by first | omega | exact Nat.le_refl _⟩, ⟨by repeat (first | (with_reducible first | exact HB.out | apply below_alloc | apply pw_below_drewN | apply below_drew1) | exact HB.out)⟩⟩
  case rest =>
    clear HC3
    try clear c1
    try clear p2
    try clear c5
    try clear c6
    try clear c6b0
    try clear c6b1
    obtain ⟨kq, x24_2, rfl, HA, HJ2, HB⟩ := hcut
    cases kq with
    | zero => exact absurd HA.out (by simp [spec_IsDiagram.j0])
    | succ kj2 =>
      have H := HA.out
      clear HA
      simp only [spec_IsDiagram.j0] at H
      by_cases c8 : x24_2 = true
      · subst c8
        have H1 : (some false) = some r := by rw [if_pos rfl] at H; exact H
        clear H
        have H := H1
        clear H1
        obtain rfl := Option.some.inj H
        go_wp2
        repeat (go_quiet (fail); try go_wp2)
        go_ret
        exact ⟨by first | rfl | (simp [errW_none, errW_some] <;> rfl) | (simp [*, errW_none, errW_some] <;> rfl), by repeat (first | (with_reducible first | exact HB.out | apply below_alloc | apply pw_below_drewN | apply below_drew1) | exact HB.out)⟩
      · replace c8 := Bool.eq_false_iff.mpr c8
        subst c8
        have H1 : (spec_IsDiagram.l0 kj2 l0 l1 0) = some r := by rw [if_neg (show ¬ (false = true) by decide)] at H; exact H
        clear H
        have H := H1
        clear H1
        have H' := Aside0.mk H
        clear H
        go_wp2
        repeat (go_quiet (fail); try go_wp2)
        go_loopg [5] kj2 (fun kq v5 w' => ∃ (x5_2 : Int), v5 = .int .i64 x5_2 ∧ Aside0 (spec_IsDiagram.l0 kq l0 l1 x5_2 = some r) ∧ Aside0 (kq ≤ kj2) ∧ Aside0 (Below w.heap.size w w'))
        case atStart => exact ⟨(0), (by first | rfl | (simp; done) | (simp [*]; done)), H', ⟨Nat.le_refl _⟩, ⟨by repeat (first | (with_reducible first | exact HB.out | apply below_alloc | apply pw_below_drewN | apply below_drew1) | exact HB.out)⟩⟩
        case round =>
          clear H'
          try clear c1
          try clear p2
          try clear c5
          try clear c6
          try clear c6b0
          try clear c6b1
          try clear c8
          try clear p2
          obtain ⟨x5_2, rfl, HA, HK2, HB⟩ := hrel
          cases gk with
          | zero => exact absurd HA.out (by simp [spec_IsDiagram.l0])
          | succ k2 =>
            have H := HA.out
            clear HA
            simp only [spec_IsDiagram.l0] at H
            by_cases c9 : x5_2 < (l0.length : Int)
            · rw [if_pos c9] at H
              have c9b0 : decide (x5_2 < (l0.length : Int)) = true := decide_eq_true c9
              clear c9
              by_cases c10 : 0 ≤ x5_2
              · rw [if_pos c10] at H
                have c10b0 : decide (0 ≤ x5_2) = true := decide_eq_true c10
                clear c10
                replace H := Option.bind_eq_some_iff.mp H
                obtain ⟨t105, A110, H⟩ := H
                replace H : (if t105 = (l1.length : Int) then (spec_IsDiagram.j2 k2 l0 l1 x5_2 t105 true ((rd_T49 l0 x5_2).f0) ((rd_T49 l0 x5_2).f1) ((rd_T49 l0 x5_2).f2)) else ((spec_l1In.f ((rd_T49 l0 x5_2).f1) (-2) (wrap64 (x5_2 - 1))).bind fun t106 => (if t106 = true then ((spec_l1In.f ((rd_T49 l0 x5_2).f2) (-2) (wrap64 (x5_2 - 1))).bind fun t107 => (if t107 = true then (spec_IsDiagram.j2 k2 l0 l1 x5_2 t105 (((rd_T49 l0 x5_2).f1) == ((rd_T49 l0 x5_2).f2)) ((rd_T49 l0 x5_2).f0) ((rd_T49 l0 x5_2).f1) ((rd_T49 l0 x5_2).f2)) else (spec_IsDiagram.j2 k2 l0 l1 x5_2 t105 true ((rd_T49 l0 x5_2).f0) ((rd_T49 l0 x5_2).f1) ((rd_T49 l0 x5_2).f2)))) else (spec_IsDiagram.j2 k2 l0 l1 x5_2 t105 true ((rd_T49 l0 x5_2).f0) ((rd_T49 l0 x5_2).f1) ((rd_T49 l0 x5_2).f2))))) = some r := H
                have A11 := Aside0.mk A110
                clear A110
                have HC12 := Aside0.mk H
                clear H
                have p103 : 0 ≤ (x5_2 : Int) := of_decide_eq_true (by first | (with_reducible assumption) | assumption)
                have q103 : x5_2 < (l0.length : Int) := of_decide_eq_true (by first | (with_reducible assumption) | assumption)
                obtain ⟨ad103, e103, hx103_0, hx103_1, hx103_2⟩ := at_T49 HR0.out x5_2 p103 q103
                cases e103
                replace hx103_0 := (HB.out.cell (World.block_lt_of_cell? w _ hx103_0)).trans hx103_0
                replace hx103_1 := (HB.out.cell (World.block_lt_of_cell? w _ hx103_1)).trans hx103_1
                replace hx103_2 := (HB.out.cell (World.block_lt_of_cell? w _ hx103_2)).trans hx103_2
                replace p103 := eq_true p103
                replace q103 := eq_true q103
                go_upto_region 8 with (first | ((with_reducible refine gate_dst (N := 6) rfl ?_); (try (refine gate_guard (by rfl) ?_; dsimp only)); refine box_event ?hg (N := 6) ?hd (cs := #[.int .i64 0, .int .i64 0, .int .i64 0]) (t := 49) ?hr ?_; (case hd => rfl); (case hg => rfl); (case hr => first | (go_simp; done) | (go_simp; rfl)); intro gb104 hg w13 hbox hb; have n0_ := Aside0.mk (below_step (by repeat (first | (with_reducible first | exact HB.out | apply below_alloc | apply pw_below_drewN | apply below_drew1) | exact HB.out)) hb); have n1_ := Aside0.mk (hbox); have n2_ := Aside0.mk ((by rw [hg]; exact (below_size (by repeat (first | (with_reducible first | exact HB.out | apply below_alloc | apply pw_below_drewN | apply below_drew1) | exact HB.out))) : w.heap.size ≤ gb104)); have n3_ := Aside0.mk ((by rw [hg]; exact (below_size (by repeat (first | (with_reducible first | exact HB.out | apply below_alloc | apply pw_below_drewN | apply below_drew1) | exact HB.out))) : w.heap.size ≤ gb104)); clear HB; have HB := n0_; have BK104 := n1_; have GW104 := n2_; have GE104 := n3_; clear n0_ n1_ n2_ n3_; clear hb hbox hg; have hcz14_0 : w13.cell? ⟨gb104, 0, none⟩ = some (.int .i64 0) := (blk_cell BK104.out 0).trans rfl; have hcz14_1 : w13.cell? ⟨gb104, 1, none⟩ = some (.int .i64 0) := (blk_cell BK104.out 1).trans rfl; have hcz14_2 : w13.cell? ⟨gb104, 2, none⟩ = some (.int .i64 0) := (blk_cell BK104.out 2).trans rfl; have hfz14_0 := blk_frozen BK104.out 0; have hfz14_1 := blk_frozen BK104.out 1; have hfz14_2 := blk_frozen BK104.out 2) | (go_at_call 36; (with_reducible refine (spec_l19Level.calls k2 _ _ l1 ((rd_T49 l0 x5_2).f0) t105 _ ?side1 ?side2 A11.out).mono ?_); (case side1 => exact Kd.C_below HR1.out (by repeat (first | (with_reducible first | exact HB.out | apply below_alloc | apply pw_below_drewN | apply below_drew1 | refine below_set ?_ GE104.out) | exact HB.out))); (case side2 => exact HC1.out); rintro e w' ⟨rfl, ⟨nd, rfl⟩⟩; (try first | exact ⟨rfl, _, World.drewN_drewN _ _ _⟩ | exact ⟨rfl, _, Eq.trans (World.drewN_drewN _ _ _) (congrArg (World.drewN _) (Nat.add_assoc _ _ _))⟩)))
                repeat (go_quiet (first | ((with_reducible refine gate_dst (N := 6) rfl ?_); (try (refine gate_guard (by rfl) ?_; dsimp only)); refine box_event ?hg (N := 6) ?hd (cs := #[.int .i64 0, .int .i64 0, .int .i64 0]) (t := 49) ?hr ?_; (case hd => rfl); (case hg => rfl); (case hr => first | (go_simp; done) | (go_simp; rfl)); intro gb104 hg w13 hbox hb; have n0_ := Aside0.mk (below_step (by repeat (first | (with_reducible first | exact HB.out | apply below_alloc | apply pw_below_drewN | apply below_drew1) | exact HB.out)) hb); have n1_ := Aside0.mk (hbox); have n2_ := Aside0.mk ((by rw [hg]; exact (below_size (by repeat (first | (with_reducible first | exact HB.out | apply below_alloc | apply pw_below_drewN | apply below_drew1) | exact HB.out))) : w.heap.size ≤ gb104)); have n3_ := Aside0.mk ((by rw [hg]; exact (below_size (by repeat (first | (with_reducible first | exact HB.out | apply below_alloc | apply pw_below_drewN | apply below_drew1) | exact HB.out))) : w.heap.size ≤ gb104)); clear HB; have HB := n0_; have BK104 := n1_; have GW104 := n2_; have GE104 := n3_; clear n0_ n1_ n2_ n3_; clear hb hbox hg; have hcz14_0 : w13.cell? ⟨gb104, 0, none⟩ = some (.int .i64 0) := (blk_cell BK104.out 0).trans rfl; have hcz14_1 : w13.cell? ⟨gb104, 1, none⟩ = some (.int .i64 0) := (blk_cell BK104.out 1).trans rfl; have hcz14_2 : w13.cell? ⟨gb104, 2, none⟩ = some (.int .i64 0) := (blk_cell BK104.out 2).trans rfl; have hfz14_0 := blk_frozen BK104.out 0; have hfz14_1 := blk_frozen BK104.out 1; have hfz14_2 := blk_frozen BK104.out 2) | (go_at_call 36; (with_reducible refine (spec_l19Level.calls k2 _ _ l1 ((rd_T49 l0 x5_2).f0) t105 _ ?side1 ?side2 A11.out).mono ?_); (case side1 => exact Kd.C_below HR1.out (by repeat (first | (with_reducible first | exact HB.out | apply below_alloc | apply pw_below_drewN | apply below_drew1 | refine below_set ?_ GE104.out) | exact HB.out))); (case side2 => exact HC1.out); rintro e w' ⟨rfl, ⟨nd, rfl⟩⟩; (try first | exact ⟨rfl, _, World.drewN_drewN _ _ _⟩ | exact ⟨rfl, _, Eq.trans (World.drewN_drewN _ _ _) (congrArg (World.drewN _) (Nat.add_assoc _ _ _))⟩))); go_upto_region 8 with (first | ((with_reducible refine gate_dst (N := 6) rfl ?_); (try (refine gate_guard (by rfl) ?_; dsimp only)); refine box_event ?hg (N := 6) ?hd (cs := #[.int .i64 0, .int .i64 0, .int .i64 0]) (t := 49) ?hr ?_; (case hd => rfl); (case hg => rfl); (case hr => first | (go_simp; done) | (go_simp; rfl)); intro gb104 hg w13 hbox hb; have n0_ := Aside0.mk (below_step (by repeat (first | (with_reducible first | exact HB.out | apply below_alloc | apply pw_below_drewN | apply below_drew1) | exact HB.out)) hb); have n1_ := Aside0.mk (hbox); have n2_ := Aside0.mk ((by rw [hg]; exact (below_size (by repeat (first | (with_reducible first | exact HB.out | apply below_alloc | apply pw_below_drewN | apply below_drew1) | exact HB.out))) : w.heap.size ≤ gb104)); have n3_ := Aside0.mk ((by rw [hg]; exact (below_size (by repeat (first | (with_reducible first | exact HB.out | apply below_alloc | apply pw_below_drewN | apply below_drew1) | exact HB.out))) : w.heap.size ≤ gb104)); clear HB; have HB := n0_; have BK104 := n1_; have GW104 := n2_; have GE104 := n3_; clear n0_ n1_ n2_ n3_; clear hb hbox hg; have hcz14_0 : w13.cell? ⟨gb104, 0, none⟩ = some (.int .i64 0) := (blk_cell BK104.out 0).trans rfl; have hcz14_1 : w13.cell? ⟨gb104, 1, none⟩ = some (.int .i64 0) := (blk_cell BK104.out 1).trans rfl; have hcz14_2 : w13.cell? ⟨gb104, 2, none⟩ = some (.int .i64 0) := (blk_cell BK104.out 2).trans rfl; have hfz14_0 := blk_frozen BK104.out 0; have hfz14_1 := blk_frozen BK104.out 1; have hfz14_2 := blk_frozen BK104.out 2) | (go_at_call 36; (with_reducible refine (spec_l19Level.calls k2 _ _ l1 ((rd_T49 l0 x5_2).f0) t105 _ ?side1 ?side2 A11.out).mono ?_); (case side1 => exact Kd.C_below HR1.out (by repeat (first | (with_reducible first | exact HB.out | apply below_alloc | apply pw_below_drewN | apply below_drew1 | refine below_set ?_ GE104.out) | exact HB.out))); (case side2 => exact HC1.out); rintro e w' ⟨rfl, ⟨nd, rfl⟩⟩; (try first | exact ⟨rfl, _, World.drewN_drewN _ _ _⟩ | exact ⟨rfl, _, Eq.trans (World.drewN_drewN _ _ _) (congrArg (World.drewN _) (Nat.add_assoc _ _ _))⟩))))
                (try simp only [Act.put, List.setIfInBounds_toArray, List.set_cons_zero, List.set_cons_succ])
                go_cut [65] (fun v65 wc => ∃ (kq : Nat) (x65_11 : Bool), v65 = .bool x65_11 ∧ Aside0 (spec_IsDiagram.j2 kq l0 l1 x5_2 t105 x65_11 ((rd_T49 l0 x5_2).f0) ((rd_T49 l0 x5_2).f1) ((rd_T49 l0 x5_2).f2) = some r) ∧ Aside0 (kq ≤ k2) ∧ Aside0 (wc.heap[gb104]? = some (.cells #[.int .i64 ((rd_T49 l0 x5_2).f0), .int .i64 ((rd_T49 l0 x5_2).f1), .int .i64 ((rd_T49 l0 x5_2).f2)] 49 (0, 0))) ∧ Aside0 (Below w.heap.size w wc))
                case first =>
                  have H := HC12.out
                  clear HC12
                  by_cases c15 : t105 = (l1.length : Int)
                  · rw [if_pos c15] at H
                    have c15b0 : (t105 == (l1.length : Int)) = true := beq_iff_eq.mpr c15
                    have c15b1 : (t105 != (l1.length : Int)) = false := bne_eq_false_iff_eq.mpr c15
                    clear c15
                    (first | rw [c15b0] | (simp only [i64_w, i32_w]; rw [c15b0]) | skip)
                    have H' := Aside0.mk H
                    clear H
                    go_wp2
                    repeat (go_quiet (fail); try go_wp2)
                    go_meet
                    case rel => exact ⟨_, (true), (by first | rfl | (simp; done) | (simp [*]; done)), H', ⟨by have := HJ2.out; have := HK2.out; first | omega | exact Nat.le_refl _⟩, ⟨by (with_reducible repeat (first | refine blk_drewN ?_ _ | refine blk_drew ?_ | refine blk_alloc ?_ _)); refine blk_put (cs := #[.int .i64 ((rd_T49 l0 x5_2).f0), .int .i64 ((rd_T49 l0 x5_2).f1), .int .i64 0]) ?_ 2 _ rfl; (with_reducible repeat (first | refine blk_drewN ?_ _ | refine blk_drew ?_ | refine blk_alloc ?_ _)); refine blk_put (cs := #[.int .i64 ((rd_T49 l0 x5_2).f0), .int .i64 0, .int .i64 0]) ?_ 1 _ rfl; (with_reducible repeat (first | refine blk_drewN ?_ _ | refine blk_drew ?_ | refine blk_alloc ?_ _)); refine blk_put (cs := #[.int .i64 0, .int .i64 0, .int .i64 0]) ?_ 0 _ rfl; (with_reducible repeat (first | refine blk_drewN ?_ _ | refine blk_drew ?_ | refine blk_alloc ?_ _)); exact BK104.out⟩, ⟨by repeat (first | (with_reducible first | exact HB.out | apply below_alloc | apply pw_below_drewN | apply below_drew1 | refine below_set ?_ GE104.out) | exact HB.out)⟩⟩
                  · rw [if_neg c15] at H
                    have c15b0 : (t105 == (l1.length : Int)) = false := beq_eq_false_iff_ne.mpr c15
                    have c15b1 : (t105 != (l1.length : Int)) = true := bne_iff_ne.mpr c15
                    (first | rw [c15b0] | (simp only [i64_w, i32_w]; rw [c15b0]) | skip)
                    replace H := Option.bind_eq_some_iff.mp H
                    obtain ⟨t106, A160, H⟩ := H
                    replace H : (if t106 = true then ((spec_l1In.f ((rd_T49 l0 x5_2).f2) (-2) (wrap64 (x5_2 - 1))).bind fun t107 => (if t107 = true then (spec_IsDiagram.j2 k2 l0 l1 x5_2 t105 (((rd_T49 l0 x5_2).f1) == ((rd_T49 l0 x5_2).f2)) ((rd_T49 l0 x5_2).f0) ((rd_T49 l0 x5_2).f1) ((rd_T49 l0 x5_2).f2)) else (spec_IsDiagram.j2 k2 l0 l1 x5_2 t105 true ((rd_T49 l0 x5_2).f0) ((rd_T49 l0 x5_2).f1) ((rd_T49 l0 x5_2).f2)))) else (spec_IsDiagram.j2 k2 l0 l1 x5_2 t105 true ((rd_T49 l0 x5_2).f0) ((rd_T49 l0 x5_2).f1) ((rd_T49 l0 x5_2).f2))) = some r := H
                    have A16 := Aside0.mk A160
                    clear A160
                    by_cases c17 : t106 = true
                    · subst c17
                      have H1 : ((spec_l1In.f ((rd_T49 l0 x5_2).f2) (-2) (wrap64 (x5_2 - 1))).bind fun t107 => (if t107 = true then (spec_IsDiagram.j2 k2 l0 l1 x5_2 t105 (((rd_T49 l0 x5_2).f1) == ((rd_T49 l0 x5_2).f2)) ((rd_T49 l0 x5_2).f0) ((rd_T49 l0 x5_2).f1) ((rd_T49 l0 x5_2).f2)) else (spec_IsDiagram.j2 k2 l0 l1 x5_2 t105 true ((rd_T49 l0 x5_2).f0) ((rd_T49 l0 x5_2).f1) ((rd_T49 l0 x5_2).f2)))) = some r := by rw [if_pos rfl] at H; exact H
                      clear H
                      have H := H1
                      clear H1
                      replace H := Option.bind_eq_some_iff.mp H
                      obtain ⟨t107, A180, H⟩ := H
                      replace H : (if t107 = true then (spec_IsDiagram.j2 k2 l0 l1 x5_2 t105 (((rd_T49 l0 x5_2).f1) == ((rd_T49 l0 x5_2).f2)) ((rd_T49 l0 x5_2).f0) ((rd_T49 l0 x5_2).f1) ((rd_T49 l0 x5_2).f2)) else (spec_IsDiagram.j2 k2 l0 l1 x5_2 t105 true ((rd_T49 l0 x5_2).f0) ((rd_T49 l0 x5_2).f1) ((rd_T49 l0 x5_2).f2))) = some r := H
                      have A18 := Aside0.mk A180
                      clear A180
                      by_cases c19 : t107 = true
                      · subst c19
                        have H1 : (spec_IsDiagram.j2 k2 l0 l1 x5_2 t105 (((rd_T49 l0 x5_2).f1) == ((rd_T49 l0 x5_2).f2)) ((rd_T49 l0 x5_2).f0) ((rd_T49 l0 x5_2).f1) ((rd_T49 l0 x5_2).f2)) = some r := by rw [if_pos rfl] at H; exact H
                        clear H
                        have H := H1
                        clear H1
                        have H' := Aside0.mk H
                        clear H
                        have hcz20_0 : w13.cell? ⟨gb104, 0, none⟩ = some (.int .i64 0) := (blk_cell BK104.out 0).trans rfl
                        have hcz20_1 : w13.cell? ⟨gb104, 1, none⟩ = some (.int .i64 0) := (blk_cell BK104.out 1).trans rfl
                        have hcz20_2 : w13.cell? ⟨gb104, 2, none⟩ = some (.int .i64 0) := (blk_cell BK104.out 2).trans rfl
                        have hfz20_0 := blk_frozen BK104.out 0
                        have hfz20_1 := blk_frozen BK104.out 1
                        have hfz20_2 := blk_frozen BK104.out 2
                        go_wp2_with (first | (go_at_call 31; (with_reducible refine (spec_l1In.calls ((rd_T49 l0 x5_2).f1) (-2) (wrap64 (x5_2 - 1)) true _ A16.out).mono ?_); rintro e w' ⟨rfl, ⟨nd, rfl⟩⟩; (try first | exact ⟨rfl, _, World.drewN_drewN _ _ _⟩ | exact ⟨rfl, _, Eq.trans (World.drewN_drewN _ _ _) (congrArg (World.drewN _) (Nat.add_assoc _ _ _))⟩)) | (go_at_call 31; (with_reducible refine (spec_l1In.calls ((rd_T49 l0 x5_2).f2) (-2) (wrap64 (x5_2 - 1)) true _ A18.out).mono ?_); rintro e w' ⟨rfl, ⟨nd, rfl⟩⟩; (try first | exact ⟨rfl, _, World.drewN_drewN _ _ _⟩ | exact ⟨rfl, _, Eq.trans (World.drewN_drewN _ _ _) (congrArg (World.drewN _) (Nat.add_assoc _ _ _))⟩)))
                        repeat (go_quiet (first | (go_at_call 31; (with_reducible refine (spec_l1In.calls ((rd_T49 l0 x5_2).f1) (-2) (wrap64 (x5_2 - 1)) true _ A16.out).mono ?_); rintro e w' ⟨rfl, ⟨nd, rfl⟩⟩; (try first | exact ⟨rfl, _, World.drewN_drewN _ _ _⟩ | exact ⟨rfl, _, Eq.trans (World.drewN_drewN _ _ _) (congrArg (World.drewN _) (Nat.add_assoc _ _ _))⟩)) | (go_at_call 31; (with_reducible refine (spec_l1In.calls ((rd_T49 l0 x5_2).f2) (-2) (wrap64 (x5_2 - 1)) true _ A18.out).mono ?_); rintro e w' ⟨rfl, ⟨nd, rfl⟩⟩; (try first | exact ⟨rfl, _, World.drewN_drewN _ _ _⟩ | exact ⟨rfl, _, Eq.trans (World.drewN_drewN _ _ _) (congrArg (World.drewN _) (Nat.add_assoc _ _ _))⟩))); try go_wp2_with (first | (go_at_call 31; (with_reducible refine (spec_l1In.calls ((rd_T49 l0 x5_2).f1) (-2) (wrap64 (x5_2 - 1)) true _ A16.out).mono ?_); rintro e w' ⟨rfl, ⟨nd, rfl⟩⟩; (try first | exact ⟨rfl, _, World.drewN_drewN _ _ _⟩ | exact ⟨rfl, _, Eq.trans (World.drewN_drewN _ _ _) (congrArg (World.drewN _) (Nat.add_assoc _ _ _))⟩)) | (go_at_call 31; (with_reducible refine (spec_l1In.calls ((rd_T49 l0 x5_2).f2) (-2) (wrap64 (x5_2 - 1)) true _ A18.out).mono ?_); rintro e w' ⟨rfl, ⟨nd, rfl⟩⟩; (try first | exact ⟨rfl, _, World.drewN_drewN _ _ _⟩ | exact ⟨rfl, _, Eq.trans (World.drewN_drewN _ _ _) (congrArg (World.drewN _) (Nat.add_assoc _ _ _))⟩))))
                        go_meet
                        case rel => exact ⟨_, ((((rd_T49 l0 x5_2).f1) == ((rd_T49 l0 x5_2).f2))), (by first | rfl | (simp; done) | (simp [*]; done)), H', ⟨by have := HJ2.out; have := HK2.out; first | omega | exact Nat.le_refl _⟩, ⟨by (with_reducible repeat (first | refine blk_drewN ?_ _ | refine blk_drew ?_ | refine blk_alloc ?_ _)); refine blk_put (cs := #[.int .i64 ((rd_T49 l0 x5_2).f0), .int .i64 ((rd_T49 l0 x5_2).f1), .int .i64 0]) ?_ 2 _ rfl; (with_reducible repeat (first | refine blk_drewN ?_ _ | refine blk_drew ?_ | refine blk_alloc ?_ _)); refine blk_put (cs := #[.int .i64 ((rd_T49 l0 x5_2).f0), .int .i64 0, .int .i64 0]) ?_ 1 _ rfl; (with_reducible repeat (first | refine blk_drewN ?_ _ | refine blk_drew ?_ | refine blk_alloc ?_ _)); refine blk_put (cs := #[.int .i64 0, .int .i64 0, .int .i64 0]) ?_ 0 _ rfl; (with_reducible repeat (first | refine blk_drewN ?_ _ | refine blk_drew ?_ | refine blk_alloc ?_ _)); exact BK104.out⟩, ⟨by repeat (first | (with_reducible first | exact HB.out | apply below_alloc | apply pw_below_drewN | apply below_drew1 | refine below_set ?_ GE104.out) | exact HB.out)⟩⟩
                      · replace c19 := Bool.eq_false_iff.mpr c19
                        subst c19
                        have H1 : (spec_IsDiagram.j2 k2 l0 l1 x5_2 t105 true ((rd_T49 l0 x5_2).f0) ((rd_T49 l0 x5_2).f1) ((rd_T49 l0 x5_2).f2)) = some r := by rw [if_neg (show ¬ (false = true) by decide)] at H; exact H
                        clear H
                        have H := H1
                        clear H1
                        have H' := Aside0.mk H
                        clear H
                        have hcz21_0 : w13.cell? ⟨gb104, 0, none⟩ = some (.int .i64 0) := (blk_cell BK104.out 0).trans rfl
                        have hcz21_1 : w13.cell? ⟨gb104, 1, none⟩ = some (.int .i64 0) := (blk_cell BK104.out 1).trans rfl
                        have hcz21_2 : w13.cell? ⟨gb104, 2, none⟩ = some (.int .i64 0) := (blk_cell BK104.out 2).trans rfl
                        have hfz21_0 := blk_frozen BK104.out 0
                        have hfz21_1 := blk_frozen BK104.out 1
                        have hfz21_2 := blk_frozen BK104.out 2
                        go_wp2_with (first | (go_at_call 31; (with_reducible refine (spec_l1In.calls ((rd_T49 l0 x5_2).f1) (-2) (wrap64 (x5_2 - 1)) true _ A16.out).mono ?_); rintro e w' ⟨rfl, ⟨nd, rfl⟩⟩; (try first | exact ⟨rfl, _, World.drewN_drewN _ _ _⟩ | exact ⟨rfl, _, Eq.trans (World.drewN_drewN _ _ _) (congrArg (World.drewN _) (Nat.add_assoc _ _ _))⟩)) | (go_at_call 31; (with_reducible refine (spec_l1In.calls ((rd_T49 l0 x5_2).f2) (-2) (wrap64 (x5_2 - 1)) false _ A18.out).mono ?_); rintro e w' ⟨rfl, ⟨nd, rfl⟩⟩; (try first | exact ⟨rfl, _, World.drewN_drewN _ _ _⟩ | exact ⟨rfl, _, Eq.trans (World.drewN_drewN _ _ _) (congrArg (World.drewN _) (Nat.add_assoc _ _ _))⟩)))
                        repeat (go_quiet (first | (go_at_call 31; (with_reducible refine (spec_l1In.calls ((rd_T49 l0 x5_2).f1) (-2) (wrap64 (x5_2 - 1)) true _ A16.out).mono ?_); rintro e w' ⟨rfl, ⟨nd, rfl⟩⟩; (try first | exact ⟨rfl, _, World.drewN_drewN _ _ _⟩ | exact ⟨rfl, _, Eq.trans (World.drewN_drewN _ _ _) (congrArg (World.drewN _) (Nat.add_assoc _ _ _))⟩)) | (go_at_call 31; (with_reducible refine (spec_l1In.calls ((rd_T49 l0 x5_2).f2) (-2) (wrap64 (x5_2 - 1)) false _ A18.out).mono ?_); rintro e w' ⟨rfl, ⟨nd, rfl⟩⟩; (try first | exact ⟨rfl, _, World.drewN_drewN _ _ _⟩ | exact ⟨rfl, _, Eq.trans (World.drewN_drewN _ _ _) (congrArg (World.drewN _) (Nat.add_assoc _ _ _))⟩))); try go_wp2_with (first | (go_at_call 31; (with_reducible refine (spec_l1In.calls ((rd_T49 l0 x5_2).f1) (-2) (wrap64 (x5_2 - 1)) true _ A16.out).mono ?_); rintro e w' ⟨rfl, ⟨nd, rfl⟩⟩; (try first | exact ⟨rfl, _, World.drewN_drewN _ _ _⟩ | exact ⟨rfl, _, Eq.trans (World.drewN_drewN _ _ _) (congrArg (World.drewN _) (Nat.add_assoc _ _ _))⟩)) | (go_at_call 31; (with_reducible refine (spec_l1In.calls ((rd_T49 l0 x5_2).f2) (-2) (wrap64 (x5_2 - 1)) false _ A18.out).mono ?_); rintro e w' ⟨rfl, ⟨nd, rfl⟩⟩; (try first | exact ⟨rfl, _, World.drewN_drewN _ _ _⟩ | exact ⟨rfl, _, Eq.trans (World.drewN_drewN _ _ _) (congrArg (World.drewN _) (Nat.add_assoc _ _ _))⟩))))
                        go_meet
                        case rel => exact ⟨_, (true), (by first | rfl | (simp; done) | (simp [*]; done)), H', ⟨by have := HJ2.out; have := HK2.out; first | omega | exact Nat.le_refl _⟩, ⟨by (with_reducible repeat (first | refine blk_drewN ?_ _ | refine blk_drew ?_ | refine blk_alloc ?_ _)); refine blk_put (cs := #[.int .i64 ((rd_T49 l0 x5_2).f0), .int .i64 ((rd_T49 l0 x5_2).f1), .int .i64 0]) ?_ 2 _ rfl; (with_reducible repeat (first | refine blk_drewN ?_ _ | refine blk_drew ?_ | refine blk_alloc ?_ _)); refine blk_put (cs := #[.int .i64 ((rd_T49 l0 x5_2).f0), .int .i64 0, .int .i64 0]) ?_ 1 _ rfl; (with_reducible repeat (first | refine blk_drewN ?_ _ | refine blk_drew ?_ | refine blk_alloc ?_ _)); refine blk_put (cs := #[.int .i64 0, .int .i64 0, .int .i64 0]) ?_ 0 _ rfl; (with_reducible repeat (first | refine blk_drewN ?_ _ | refine blk_drew ?_ | refine blk_alloc ?_ _)); exact BK104.out⟩, ⟨by repeat (first | (with_reducible first | exact HB.out | apply below_alloc | apply pw_below_drewN | apply below_drew1 | refine below_set ?_ GE104.out) | exact HB.out)⟩⟩
                    · replace c17 := Bool.eq_false_iff.mpr c17
                      subst c17
                      have H1 : (spec_IsDiagram.j2 k2 l0 l1 x5_2 t105 true ((rd_T49 l0 x5_2).f0) ((rd_T49 l0 x5_2).f1) ((rd_T49 l0 x5_2).f2)) = some r := by rw [if_neg (show ¬ (false = true) by decide)] at H; exact H
                      clear H
                      have H := H1
                      clear H1
                      have H' := Aside0.mk H
                      clear H
                      have hcz22_0 : w13.cell? ⟨gb104, 0, none⟩ = some (.int .i64 0) := (blk_cell BK104.out 0).trans rfl
                      have hcz22_1 : w13.cell? ⟨gb104, 1, none⟩ = some (.int .i64 0) := (blk_cell BK104.out 1).trans rfl
                      have hcz22_2 : w13.cell? ⟨gb104, 2, none⟩ = some (.int .i64 0) := (blk_cell BK104.out 2).trans rfl
                      have hfz22_0 := blk_frozen BK104.out 0
                      have hfz22_1 := blk_frozen BK104.out 1
                      have hfz22_2 := blk_frozen BK104.out 2
                      go_wp2_with (first | (go_at_call 31; (with_reducible refine (spec_l1In.calls ((rd_T49 l0 x5_2).f1) (-2) (wrap64 (x5_2 - 1)) false _ A16.out).mono ?_); rintro e w' ⟨rfl, ⟨nd, rfl⟩⟩; (try first | exact ⟨rfl, _, World.drewN_drewN _ _ _⟩ | exact ⟨rfl, _, Eq.trans (World.drewN_drewN _ _ _) (congrArg (World.drewN _) (Nat.add_assoc _ _ _))⟩)))
                      repeat (go_quiet (first | (go_at_call 31; (with_reducible refine (spec_l1In.calls ((rd_T49 l0 x5_2).f1) (-2) (wrap64 (x5_2 - 1)) false _ A16.out).mono ?_); rintro e w' ⟨rfl, ⟨nd, rfl⟩⟩; (try first | exact ⟨rfl, _, World.drewN_drewN _ _ _⟩ | exact ⟨rfl, _, Eq.trans (World.drewN_drewN _ _ _) (congrArg (World.drewN _) (Nat.add_assoc _ _ _))⟩))); try go_wp2_with (first | (go_at_call 31; (with_reducible refine (spec_l1In.calls ((rd_T49 l0 x5_2).f1) (-2) (wrap64 (x5_2 - 1)) false _ A16.out).mono ?_); rintro e w' ⟨rfl, ⟨nd, rfl⟩⟩; (try first | exact ⟨rfl, _, World.drewN_drewN _ _ _⟩ | exact ⟨rfl, _, Eq.trans (World.drewN_drewN _ _ _) (congrArg (World.drewN _) (Nat.add_assoc _ _ _))⟩))))
                      go_meet
                      case rel => exact ⟨_, (true), (by first | rfl | (simp; done) | (simp [*]; done)), H', ⟨by have := HJ2.out; have := HK2.out; first | omega | exact Nat.le_refl _⟩, ⟨by (with_reducible repeat (first | refine blk_drewN ?_ _ | refine blk_drew ?_ | refine blk_alloc ?_ _)); refine blk_put (cs := #[.int .i64 ((rd_T49 l0 x5_2).f0), .int .i64 ((rd_T49 l0 x5_2).f1), .int .i64 0]) ?_ 2 _ rfl; (with_reducible repeat (first | refine blk_drewN ?_ _ | refine blk_drew ?_ | refine blk_alloc ?_ _)); refine blk_put (cs := #[.int .i64 ((rd_T49 l0 x5_2).f0), .int .i64 0, .int .i64 0]) ?_ 1 _ rfl; (with_reducible repeat (first | refine blk_drewN ?_ _ | refine blk_drew ?_ | refine blk_alloc ?_ _)); refine blk_put (cs := #[.int .i64 0, .int .i64 0, .int .i64 0]) ?_ 0 _ rfl; (with_reducible repeat (first | refine blk_drewN ?_ _ | refine blk_drew ?_ | refine blk_alloc ?_ _)); exact BK104.out⟩, ⟨by repeat (first | (with_reducible first | exact HB.out | apply below_alloc | apply pw_below_drewN | apply below_drew1 | refine below_set ?_ GE104.out) | exact HB.out)⟩⟩
                case rest =>
                  clear HC12
                  try clear c1
                  try clear p1
                  try clear q1
                  try clear hx1
                  try clear p2
                  try clear c5
                  try clear c6
                  try clear c6b0
                  try clear c6b1
                  try clear p6
                  try clear c8
                  try clear c9
                  try clear c9b0
                  try clear c10
                  try clear c10b0
                  try clear p10
                  try clear q10
                  try clear hx10
                  try clear c14
                  try clear c15
                  try clear c15b0
                  try clear c15b1
                  try clear c17
                  try clear c19
                  try clear hcz14_0
                  try clear hcz14_1
                  try clear hcz14_2
                  try clear hcz20_0
                  try clear hcz20_1
                  try clear hcz20_2
                  try clear hcz21_0
                  try clear hcz21_1
                  try clear hcz21_2
                  try clear hcz22_0
                  try clear hcz22_1
                  try clear hcz22_2
                  try clear hfz14_0
                  try clear hfz14_1
                  try clear hfz14_2
                  try clear hfz20_0
                  try clear hfz20_1
                  try clear hfz20_2
                  try clear hfz21_0
                  try clear hfz21_1
                  try clear hfz21_2
                  try clear hfz22_0
                  try clear hfz22_1
                  try clear hfz22_2
                  try clear hx103_0
                  try clear hx103_1
                  try clear hx103_2
                  try clear p103
                  try clear p2
                  try clear q103
                  obtain ⟨kq, x65_11, rfl, HA, HJ11, BK104, HB⟩ := hcut
                  cases kq with
                  | zero => exact absurd HA.out (by simp [spec_IsDiagram.j2])
                  | succ kj11 =>
                    have H := HA.out
                    clear HA
                    simp only [spec_IsDiagram.j2] at H
                    by_cases c23 : x65_11 = true
                    · subst c23
                      have H1 : (some false) = some r := by rw [if_pos rfl] at H; exact H
                      clear H
                      have H := H1
                      clear H1
                      obtain rfl := Option.some.inj H
                      go_wp2
                      repeat (go_quiet (fail); try go_wp2)
                      go_ret
                      exact ⟨by first | rfl | (simp [errW_none, errW_some] <;> rfl) | (simp [*, errW_none, errW_some] <;> rfl), by repeat (first | (with_reducible first | exact HB.out | apply below_alloc | apply pw_below_drewN | apply below_drew1 | refine below_set ?_ GE104.out) | exact HB.out)⟩
                    · replace c23 := Bool.eq_false_iff.mpr c23
                      subst c23
                      have H1 : (if ((rd_T49 l0 x5_2).f1) ≥ 0 then (if 0 ≤ ((rd_T49 l0 x5_2).f1) then (if ((rd_T49 l0 x5_2).f1) < (l0.length : Int) then ((spec_l19Level.f kj11 l1 ((rd_T49 l0 ((rd_T49 l0 x5_2).f1)).f0)).bind fun t109 => (if t109 ≤ t105 then (spec_IsDiagram.j3 kj11 l0 l1 x5_2 true ((rd_T49 l0 x5_2).f0) ((rd_T49 l0 x5_2).f1) ((rd_T49 l0 x5_2).f2)) else (if ((rd_T49 l0 x5_2).f2) ≥ 0 then (if 0 ≤ ((rd_T49 l0 x5_2).f2) then (if ((rd_T49 l0 x5_2).f2) < (l0.length : Int) then ((spec_l19Level.f kj11 l1 ((rd_T49 l0 ((rd_T49 l0 x5_2).f2)).f0)).bind fun t111 => (spec_IsDiagram.j3 kj11 l0 l1 x5_2 (decide (t111 ≤ t105)) ((rd_T49 l0 x5_2).f0) ((rd_T49 l0 x5_2).f1) ((rd_T49 l0 x5_2).f2))) else (none)) else (none)) else (spec_IsDiagram.j3 kj11 l0 l1 x5_2 false ((rd_T49 l0 x5_2).f0) ((rd_T49 l0 x5_2).f1) ((rd_T49 l0 x5_2).f2))))) else (none)) else (none)) else (if ((rd_T49 l0 x5_2).f2) ≥ 0 then (if 0 ≤ ((rd_T49 l0 x5_2).f2) then (if ((rd_T49 l0 x5_2).f2) < (l0.length : Int) then ((spec_l19Level.f kj11 l1 ((rd_T49 l0 ((rd_T49 l0 x5_2).f2)).f0)).bind fun t113 => (spec_IsDiagram.j3 kj11 l0 l1 x5_2 (decide (t113 ≤ t105)) ((rd_T49 l0 x5_2).f0) ((rd_T49 l0 x5_2).f1) ((rd_T49 l0 x5_2).f2))) else (none)) else (none)) else (spec_IsDiagram.j3 kj11 l0 l1 x5_2 false ((rd_T49 l0 x5_2).f0) ((rd_T49 l0 x5_2).f1) ((rd_T49 l0 x5_2).f2)))) = some r := by rw [if_neg (show ¬ (false = true) by decide)] at H; exact H
                      clear H
                      have H := H1
                      clear H1
                      have HC24 := Aside0.mk H
                      clear H
                      go_upto_region 10 with (fail)
                      repeat (go_quiet (fail); go_upto_region 10 with (fail))
                      go_cut [97] (fun v97 wc => ∃ (kq : Nat) (x97_23 : Bool), v97 = .bool x97_23 ∧ Aside0 (spec_IsDiagram.j3 kq l0 l1 x5_2 x97_23 ((rd_T49 l0 x5_2).f0) ((rd_T49 l0 x5_2).f1) ((rd_T49 l0 x5_2).f2) = some r) ∧ Aside0 (kq ≤ kj11) ∧ Aside0 (wc.heap[gb104]? = some (.cells #[.int .i64 ((rd_T49 l0 x5_2).f0), .int .i64 ((rd_T49 l0 x5_2).f1), .int .i64 ((rd_T49 l0 x5_2).f2)] 49 (0, 0))) ∧ Aside0 (Below w.heap.size w wc))
                      case first =>
                        have H := HC24.out
                        clear HC24
                        by_cases c25 : ((rd_T49 l0 x5_2).f1) ≥ 0
                        · rw [if_pos c25] at H
                          have c25b0 : decide (0 ≤ ((rd_T49 l0 x5_2).f1)) = true := decide_eq_true c25
                          clear c25
                          (first | rw [c25b0] | (simp only [i64_w, i32_w]; rw [c25b0]) | skip)
                          by_cases c26 : 0 ≤ ((rd_T49 l0 x5_2).f1)
                          · rw [if_pos c26] at H
                            have c26b0 : decide (0 ≤ ((rd_T49 l0 x5_2).f1)) = true := decide_eq_true c26
                            clear c26
                            by_cases c27 : ((rd_T49 l0 x5_2).f1) < (l0.length : Int)
                            · rw [if_pos c27] at H
                              have c27b0 : decide (((rd_T49 l0 x5_2).f1) < (l0.length : Int)) = true := decide_eq_true c27
                              clear c27
                              replace H := Option.bind_eq_some_iff.mp H
                              obtain ⟨t109, A280, H⟩ := H
                              replace H : (if t109 ≤ t105 then (spec_IsDiagram.j3 kj11 l0 l1 x5_2 true ((rd_T49 l0 x5_2).f0) ((rd_T49 l0 x5_2).f1) ((rd_T49 l0 x5_2).f2)) else (if ((rd_T49 l0 x5_2).f2) ≥ 0 then (if 0 ≤ ((rd_T49 l0 x5_2).f2) then (if ((rd_T49 l0 x5_2).f2) < (l0.length : Int) then ((spec_l19Level.f kj11 l1 ((rd_T49 l0 ((rd_T49 l0 x5_2).f2)).f0)).bind fun t111 => (spec_IsDiagram.j3 kj11 l0 l1 x5_2 (decide (t111 ≤ t105)) ((rd_T49 l0 x5_2).f0) ((rd_T49 l0 x5_2).f1) ((rd_T49 l0 x5_2).f2))) else (none)) else (none)) else (spec_IsDiagram.j3 kj11 l0 l1 x5_2 false ((rd_T49 l0 x5_2).f0) ((rd_T49 l0 x5_2).f1) ((rd_T49 l0 x5_2).f2)))) = some r := H
                              have A28 := Aside0.mk A280
                              clear A280
                              by_cases c29 : t109 ≤ t105
                              · rw [if_pos c29] at H
                                have c29b0 : decide (t109 ≤ t105) = true := decide_eq_true c29
                                clear c29
                                have H' := Aside0.mk H
                                clear H
                                have hcz30_0 : wc.cell? ⟨gb104, 0, none⟩ = some (.int .i64 ((rd_T49 l0 x5_2).f0)) := (blk_cell BK104.out 0).trans rfl
                                have hcz30_1 : wc.cell? ⟨gb104, 1, none⟩ = some (.int .i64 ((rd_T49 l0 x5_2).f1)) := (blk_cell BK104.out 1).trans rfl
                                have hcz30_2 : wc.cell? ⟨gb104, 2, none⟩ = some (.int .i64 ((rd_T49 l0 x5_2).f2)) := (blk_cell BK104.out 2).trans rfl
                                have hfz30_0 := blk_frozen BK104.out 0
                                have hfz30_1 := blk_frozen BK104.out 1
                                have hfz30_2 := blk_frozen BK104.out 2
                                have p108 : 0 ≤ (((rd_T49 l0 x5_2).f1) : Int) := of_decide_eq_true (by first | (with_reducible assumption) | assumption)
                                have q108 : ((rd_T49 l0 x5_2).f1) < (l0.length : Int) := of_decide_eq_true (by first | (with_reducible assumption) | assumption)
                                obtain ⟨ad108, e108, hx108_0, hx108_1, hx108_2⟩ := at_T49 HR0.out ((rd_T49 l0 x5_2).f1) p108 q108
                                obtain rfl : ad103 = ad108 := (by injection e108)
                                replace hx108_0 := (HB.out.cell (World.block_lt_of_cell? w _ hx108_0)).trans hx108_0
                                replace hx108_1 := (HB.out.cell (World.block_lt_of_cell? w _ hx108_1)).trans hx108_1
                                replace hx108_2 := (HB.out.cell (World.block_lt_of_cell? w _ hx108_2)).trans hx108_2
                                replace p108 := eq_true p108
                                replace q108 := eq_true q108
                                go_wp2_with (first | (go_at_call 36; (with_reducible refine (spec_l19Level.calls kj11 _ _ l1 ((rd_T49 l0 ((rd_T49 l0 x5_2).f1)).f0) t109 _ ?side1 ?side2 A28.out).mono ?_); (case side1 => repeat (first | exact (Kd.C_below HR1.out HB.out) | (with_reducible refine Kd.C_alloc ?_ _) | (with_reducible refine Kd.C_drewN ?_ _) | (with_reducible refine Kd.C_drew ?_))); (case side2 => exact HC1.out); rintro e w' ⟨rfl, ⟨nd, rfl⟩⟩; (try first | exact ⟨rfl, _, World.drewN_drewN _ _ _⟩ | exact ⟨rfl, _, Eq.trans (World.drewN_drewN _ _ _) (congrArg (World.drewN _) (Nat.add_assoc _ _ _))⟩)))
                                repeat (go_quiet (first | (go_at_call 36; (with_reducible refine (spec_l19Level.calls kj11 _ _ l1 ((rd_T49 l0 ((rd_T49 l0 x5_2).f1)).f0) t109 _ ?side1 ?side2 A28.out).mono ?_); (case side1 => repeat (first | exact (Kd.C_below HR1.out HB.out) | (with_reducible refine Kd.C_alloc ?_ _) | (with_reducible refine Kd.C_drewN ?_ _) | (with_reducible refine Kd.C_drew ?_))); (case side2 => exact HC1.out); rintro e w' ⟨rfl, ⟨nd, rfl⟩⟩; (try first | exact ⟨rfl, _, World.drewN_drewN _ _ _⟩ | exact ⟨rfl, _, Eq.trans (World.drewN_drewN _ _ _) (congrArg (World.drewN _) (Nat.add_assoc _ _ _))⟩))); try go_wp2_with (first | (go_at_call 36; (with_reducible refine (spec_l19Level.calls kj11 _ _ l1 ((rd_T49 l0 ((rd_T49 l0 x5_2).f1)).f0) t109 _ ?side1 ?side2 A28.out).mono ?_); (case side1 => repeat (first | exact (Kd.C_below HR1.out HB.out) | (with_reducible refine Kd.C_alloc ?_ _) | (with_reducible refine Kd.C_drewN ?_ _) | (with_reducible refine Kd.C_drew ?_))); (case side2 => exact HC1.out); rintro e w' ⟨rfl, ⟨nd, rfl⟩⟩; (try first | exact ⟨rfl, _, World.drewN_drewN _ _ _⟩ | exact ⟨rfl, _, Eq.trans (World.drewN_drewN _ _ _) (congrArg (World.drewN _) (Nat.add_assoc _ _ _))⟩))))
                                go_meet
                                case rel => exact ⟨_, (true), (by first | rfl | (simp; done) | (simp [*]; done)), H', ⟨by have := HJ2.out; have := HK2.out; have := HJ11.out; first | omega | exact Nat.le_refl _⟩, ⟨by (with_reducible repeat (first | refine blk_drewN ?_ _ | refine blk_drew ?_ | refine blk_alloc ?_ _)); exact BK104.out⟩, ⟨by repeat (first | (with_reducible first | exact HB.out | apply below_alloc | apply pw_below_drewN | apply below_drew1 | refine below_set ?_ GE104.out) | exact HB.out)⟩⟩
                              · rw [if_neg c29] at H
                                have c29b0 : decide (t109 ≤ t105) = false := decide_eq_false c29
                                clear c29
                                by_cases c31 : ((rd_T49 l0 x5_2).f2) ≥ 0
                                · rw [if_pos c31] at H
                                  have c31b0 : decide (0 ≤ ((rd_T49 l0 x5_2).f2)) = true := decide_eq_true c31
                                  clear c31
                                  by_cases c32 : 0 ≤ ((rd_T49 l0 x5_2).f2)
                                  · rw [if_pos c32] at H
                                    have c32b0 : decide (0 ≤ ((rd_T49 l0 x5_2).f2)) = true := decide_eq_true c32
                                    clear c32
                                    by_cases c33 : ((rd_T49 l0 x5_2).f2) < (l0.length : Int)
                                    · rw [if_pos c33] at H
                                      have c33b0 : decide (((rd_T49 l0 x5_2).f2) < (l0.length : Int)) = true := decide_eq_true c33
                                      clear c33
                                      replace H := Option.bind_eq_some_iff.mp H
                                      obtain ⟨t111, A340, H⟩ := H
                                      replace H : (spec_IsDiagram.j3 kj11 l0 l1 x5_2 (decide (t111 ≤ t105)) ((rd_T49 l0 x5_2).f0) ((rd_T49 l0 x5_2).f1) ((rd_T49 l0 x5_2).f2)) = some r := H
                                      have A34 := Aside0.mk A340
                                      clear A340
                                      have H' := Aside0.mk H
                                      clear H
                                      have hcz35_0 : wc.cell? ⟨gb104, 0, none⟩ = some (.int .i64 ((rd_T49 l0 x5_2).f0)) := (blk_cell BK104.out 0).trans rfl
                                      have hcz35_1 : wc.cell? ⟨gb104, 1, none⟩ = some (.int .i64 ((rd_T49 l0 x5_2).f1)) := (blk_cell BK104.out 1).trans rfl
                                      have hcz35_2 : wc.cell? ⟨gb104, 2, none⟩ = some (.int .i64 ((rd_T49 l0 x5_2).f2)) := (blk_cell BK104.out 2).trans rfl
                                      have hfz35_0 := blk_frozen BK104.out 0
                                      have hfz35_1 := blk_frozen BK104.out 1
                                      have hfz35_2 := blk_frozen BK104.out 2
                                      have p108 : 0 ≤ (((rd_T49 l0 x5_2).f1) : Int) := of_decide_eq_true (by first | (with_reducible assumption) | assumption)
                                      have q108 : ((rd_T49 l0 x5_2).f1) < (l0.length : Int) := of_decide_eq_true (by first | (with_reducible assumption) | assumption)
                                      obtain ⟨ad108, e108, hx108_0, hx108_1, hx108_2⟩ := at_T49 HR0.out ((rd_T49 l0 x5_2).f1) p108 q108
                                      obtain rfl : ad103 = ad108 := (by injection e108)
                                      replace hx108_0 := (HB.out.cell (World.block_lt_of_cell? w _ hx108_0)).trans hx108_0
                                      replace hx108_1 := (HB.out.cell (World.block_lt_of_cell? w _ hx108_1)).trans hx108_1
                                      replace hx108_2 := (HB.out.cell (World.block_lt_of_cell? w _ hx108_2)).trans hx108_2
                                      replace p108 := eq_true p108
                                      replace q108 := eq_true q108
                                      go_wp2_with (first | (go_at_call 36; (with_reducible refine (spec_l19Level.calls kj11 _ _ l1 ((rd_T49 l0 ((rd_T49 l0 x5_2).f1)).f0) t109 _ ?side1 ?side2 A28.out).mono ?_); (case side1 => repeat (first | exact (Kd.C_below HR1.out HB.out) | (with_reducible refine Kd.C_alloc ?_ _) | (with_reducible refine Kd.C_drewN ?_ _) | (with_reducible refine Kd.C_drew ?_))); (case side2 => exact HC1.out); rintro e w' ⟨rfl, ⟨nd, rfl⟩⟩; (try first | exact ⟨rfl, _, World.drewN_drewN _ _ _⟩ | exact ⟨rfl, _, Eq.trans (World.drewN_drewN _ _ _) (congrArg (World.drewN _) (Nat.add_assoc _ _ _))⟩); have p110 : 0 ≤ (((rd_T49 l0 x5_2).f2) : Int) := of_decide_eq_true (by first | (with_reducible assumption) | assumption); have q110 : ((rd_T49 l0 x5_2).f2) < (l0.length : Int) := of_decide_eq_true (by first | (with_reducible assumption) | assumption); obtain ⟨ad110, e110, hx110_0, hx110_1, hx110_2⟩ := at_T49 HR0.out ((rd_T49 l0 x5_2).f2) p110 q110; obtain rfl : ad103 = ad110 := (by injection e110); replace hx110_0 := (HB.out.cell (World.block_lt_of_cell? w _ hx110_0)).trans hx110_0; replace hx110_1 := (HB.out.cell (World.block_lt_of_cell? w _ hx110_1)).trans hx110_1; replace hx110_2 := (HB.out.cell (World.block_lt_of_cell? w _ hx110_2)).trans hx110_2; replace p110 := eq_true p110; replace q110 := eq_true q110) | (go_at_call 36; (with_reducible refine (spec_l19Level.calls kj11 _ _ l1 ((rd_T49 l0 ((rd_T49 l0 x5_2).f2)).f0) t111 _ ?side1 ?side2 A34.out).mono ?_); (case side1 => repeat (first | exact (Kd.C_below HR1.out (by repeat (first | (with_reducible first | exact HB.out | apply below_alloc | apply pw_below_drewN | apply below_drew1 | refine below_set ?_ GE104.out) | exact HB.out))) | (with_reducible refine Kd.C_alloc ?_ _) | (with_reducible refine Kd.C_drewN ?_ _) | (with_reducible refine Kd.C_drew ?_))); (case side2 => exact HC1.out); rintro e w' ⟨rfl, ⟨nd, rfl⟩⟩; (try first | exact ⟨rfl, _, World.drewN_drewN _ _ _⟩ | exact ⟨rfl, _, Eq.trans (World.drewN_drewN _ _ _) (congrArg (World.drewN _) (Nat.add_assoc _ _ _))⟩)))
                                      repeat (go_quiet (first | (go_at_call 36; (with_reducible refine (spec_l19Level.calls kj11 _ _ l1 ((rd_T49 l0 ((rd_T49 l0 x5_2).f1)).f0) t109 _ ?side1 ?side2 A28.out).mono ?_); (case side1 => repeat (first | exact (Kd.C_below HR1.out HB.out) | (with_reducible refine Kd.C_alloc ?_ _) | (with_reducible refine Kd.C_drewN ?_ _) | (with_reducible refine Kd.C_drew ?_))); (case side2 => exact HC1.out); rintro e w' ⟨rfl, ⟨nd, rfl⟩⟩; (try first | exact ⟨rfl, _, World.drewN_drewN _ _ _⟩ | exact ⟨rfl, _, Eq.trans (World.drewN_drewN _ _ _) (congrArg (World.drewN _) (Nat.add_assoc _ _ _))⟩); have p110 : 0 ≤ (((rd_T49 l0 x5_2).f2) : Int) := of_decide_eq_true (by first | (with_reducible assumption) | assumption); have q110 : ((rd_T49 l0 x5_2).f2) < (l0.length : Int) := of_decide_eq_true (by first | (with_reducible assumption) | assumption); obtain ⟨ad110, e110, hx110_0, hx110_1, hx110_2⟩ := at_T49 HR0.out ((rd_T49 l0 x5_2).f2) p110 q110; obtain rfl : ad103 = ad110 := (by injection e110); replace hx110_0 := (HB.out.cell (World.block_lt_of_cell? w _ hx110_0)).trans hx110_0; replace hx110_1 := (HB.out.cell (World.block_lt_of_cell? w _ hx110_1)).trans hx110_1; replace hx110_2 := (HB.out.cell (World.block_lt_of_cell? w _ hx110_2)).trans hx110_2; replace p110 := eq_true p110; replace q110 := eq_true q110) | (go_at_call 36; (with_reducible refine (spec_l19Level.calls kj11 _ _ l1 ((rd_T49 l0 ((rd_T49 l0 x5_2).f2)).f0) t111 _ ?side1 ?side2 A34.out).mono ?_); (case side1 => repeat (first | exact (Kd.C_below HR1.out (by repeat (first | (with_reducible first | exact HB.out | apply below_alloc | apply pw_below_drewN | apply below_drew1 | refine below_set ?_ GE104.out) | exact HB.out))) | (with_reducible refine Kd.C_alloc ?_ _) | (with_reducible refine Kd.C_drewN ?_ _) | (with_reducible refine Kd.C_drew ?_))); (case side2 => exact HC1.out); rintro e w' ⟨rfl, ⟨nd, rfl⟩⟩; (try first | exact ⟨rfl, _, World.drewN_drewN _ _ _⟩ | exact ⟨rfl, _, Eq.trans (World.drewN_drewN _ _ _) (congrArg (World.drewN _) (Nat.add_assoc _ _ _))⟩))); try go_wp2_with (first | (go_at_call 36; (with_reducible refine (spec_l19Level.calls kj11 _ _ l1 ((rd_T49 l0 ((rd_T49 l0 x5_2).f1)).f0) t109 _ ?side1 ?side2 A28.out).mono ?_); (case side1 => repeat (first | exact (Kd.C_below HR1.out HB.out) | (with_reducible refine Kd.C_alloc ?_ _) | (with_reducible refine Kd.C_drewN ?_ _) | (with_reducible refine Kd.C_drew ?_))); (case side2 => exact HC1.out); rintro e w' ⟨rfl, ⟨nd, rfl⟩⟩; (try first | exact ⟨rfl, _, World.drewN_drewN _ _ _⟩ | exact ⟨rfl, _, Eq.trans (World.drewN_drewN _ _ _) (congrArg (World.drewN _) (Nat.add_assoc _ _ _))⟩); have p110 : 0 ≤ (((rd_T49 l0 x5_2).f2) : Int) := of_decide_eq_true (by first | (with_reducible assumption) | assumption); have q110 : ((rd_T49 l0 x5_2).f2) < (l0.length : Int) := of_decide_eq_true (by first | (with_reducible assumption) | assumption); obtain ⟨ad110, e110, hx110_0, hx110_1, hx110_2⟩ := at_T49 HR0.out ((rd_T49 l0 x5_2).f2) p110 q110; obtain rfl : ad103 = ad110 := (by injection e110); replace hx110_0 := (HB.out.cell (World.block_lt_of_cell? w _ hx110_0)).trans hx110_0; replace hx110_1 := (HB.out.cell (World.block_lt_of_cell? w _ hx110_1)).trans hx110_1; replace hx110_2 := (HB.out.cell (World.block_lt_of_cell? w _ hx110_2)).trans hx110_2; replace p110 := eq_true p110; replace q110 := eq_true q110) | (go_at_call 36; (with_reducible refine (spec_l19Level.calls kj11 _ _ l1 ((rd_T49 l0 ((rd_T49 l0 x5_2).f2)).f0) t111 _ ?side1 ?side2 A34.out).mono ?_); (case side1 => repeat (first | exact (Kd.C_below HR1.out (by repeat (first | (with_reducible first | exact HB.out | apply below_alloc | apply pw_below_drewN | apply below_drew1 | refine below_set ?_ GE104.out) | exact HB.out))) | (with_reducible refine Kd.C_alloc ?_ _) | (with_reducible refine Kd.C_drewN ?_ _) | (with_reducible refine Kd.C_drew ?_))); (case side2 => exact HC1.out); rintro e w' ⟨rfl, ⟨nd, rfl⟩⟩; (try first | exact ⟨rfl, _, World.drewN_drewN _ _ _⟩ | exact ⟨rfl, _, Eq.trans (World.drewN_drewN _ _ _) (congrArg (World.drewN _) (Nat.add_assoc _ _ _))⟩))))
                                      go_meet
                                      case rel => exact ⟨_, (decide (t111 ≤ t105)), (by first | rfl | (simp; done) | (simp [*]; done)), H', ⟨by have := HJ2.out; have := HK2.out; have := HJ11.out; first | omega | exact Nat.le_refl _⟩, ⟨by (with_reducible repeat (first | refine blk_drewN ?_ _ | refine blk_drew ?_ | refine blk_alloc ?_ _)); exact BK104.out⟩, ⟨by repeat (first | (with_reducible first | exact HB.out | apply below_alloc | apply pw_below_drewN | apply below_drew1 | refine below_set ?_ GE104.out) | exact HB.out)⟩⟩
                                    · rw [if_neg c33] at H
                                      exact absurd H (by simp)
                                  · rw [if_neg c32] at H
                                    exact absurd H (by simp)
                                · rw [if_neg c31] at H
                                  have c31b0 : decide (0 ≤ ((rd_T49 l0 x5_2).f2)) = false := decide_eq_false c31
                                  clear c31
                                  have H' := Aside0.mk H
                                  clear H
                                  have hcz36_0 : wc.cell? ⟨gb104, 0, none⟩ = some (.int .i64 ((rd_T49 l0 x5_2).f0)) := (blk_cell BK104.out 0).trans rfl
                                  have hcz36_1 : wc.cell? ⟨gb104, 1, none⟩ = some (.int .i64 ((rd_T49 l0 x5_2).f1)) := (blk_cell BK104.out 1).trans rfl
                                  have hcz36_2 : wc.cell? ⟨gb104, 2, none⟩ = some (.int .i64 ((rd_T49 l0 x5_2).f2)) := (blk_cell BK104.out 2).trans rfl
                                  have hfz36_0 := blk_frozen BK104.out 0
                                  have hfz36_1 := blk_frozen BK104.out 1
                                  have hfz36_2 := blk_frozen BK104.out 2
                                  have p108 : 0 ≤ (((rd_T49 l0 x5_2).f1) : Int) := of_decide_eq_true (by first | (with_reducible assumption) | assumption)
                                  have q108 : ((rd_T49 l0 x5_2).f1) < (l0.length : Int) := of_decide_eq_true (by first | (with_reducible assumption) | assumption)
                                  obtain ⟨ad108, e108, hx108_0, hx108_1, hx108_2⟩ := at_T49 HR0.out ((rd_T49 l0 x5_2).f1) p108 q108
                                  obtain rfl : ad103 = ad108 := (by injection e108)
                                  replace hx108_0 := (HB.out.cell (World.block_lt_of_cell? w _ hx108_0)).trans hx108_0
                                  replace hx108_1 := (HB.out.cell (World.block_lt_of_cell? w _ hx108_1)).trans hx108_1
                                  replace hx108_2 := (HB.out.cell (World.block_lt_of_cell? w _ hx108_2)).trans hx108_2
                                  replace p108 := eq_true p108
                                  replace q108 := eq_true q108
                                  go_wp2_with (first | (go_at_call 36; (with_reducible refine (spec_l19Level.calls kj11 _ _ l1 ((rd_T49 l0 ((rd_T49 l0 x5_2).f1)).f0) t109 _ ?side1 ?side2 A28.out).mono ?_); (case side1 => repeat (first | exact (Kd.C_below HR1.out HB.out) | (with_reducible refine Kd.C_alloc ?_ _) | (with_reducible refine Kd.C_drewN ?_ _) | (with_reducible refine Kd.C_drew ?_))); (case side2 => exact HC1.out); rintro e w' ⟨rfl, ⟨nd, rfl⟩⟩; (try first | exact ⟨rfl, _, World.drewN_drewN _ _ _⟩ | exact ⟨rfl, _, Eq.trans (World.drewN_drewN _ _ _) (congrArg (World.drewN _) (Nat.add_assoc _ _ _))⟩)))
                                  repeat (go_quiet (first | (go_at_call 36; (with_reducible refine (spec_l19Level.calls kj11 _ _ l1 ((rd_T49 l0 ((rd_T49 l0 x5_2).f1)).f0) t109 _ ?side1 ?side2 A28.out).mono ?_); (case side1 => repeat (first | exact (Kd.C_below HR1.out HB.out) | (with_reducible refine Kd.C_alloc ?_ _) | (with_reducible refine Kd.C_drewN ?_ _) | (with_reducible refine Kd.C_drew ?_))); (case side2 => exact HC1.out); rintro e w' ⟨rfl, ⟨nd, rfl⟩⟩; (try first | exact ⟨rfl, _, World.drewN_drewN _ _ _⟩ | exact ⟨rfl, _, Eq.trans (World.drewN_drewN _ _ _) (congrArg (World.drewN _) (Nat.add_assoc _ _ _))⟩))); try go_wp2_with (first | (go_at_call 36; (with_reducible refine (spec_l19Level.calls kj11 _ _ l1 ((rd_T49 l0 ((rd_T49 l0 x5_2).f1)).f0) t109 _ ?side1 ?side2 A28.out).mono ?_); (case side1 => repeat (first | exact (Kd.C_below HR1.out HB.out) | (with_reducible refine Kd.C_alloc ?_ _) | (with_reducible refine Kd.C_drewN ?_ _) | (with_reducible refine Kd.C_drew ?_))); (case side2 => exact HC1.out); rintro e w' ⟨rfl, ⟨nd, rfl⟩⟩; (try first | exact ⟨rfl, _, World.drewN_drewN _ _ _⟩ | exact ⟨rfl, _, Eq.trans (World.drewN_drewN _ _ _) (congrArg (World.drewN _) (Nat.add_assoc _ _ _))⟩))))
                                  go_meet
                                  case rel => exact ⟨_, (false), (by first | rfl | (simp; done) | (simp [*]; done)), H', ⟨by have := HJ2.out; have := HK2.out; have := HJ11.out; first | omega | exact Nat.le_refl _⟩, ⟨by (with_reducible repeat (first | refine blk_drewN ?_ _ | refine blk_drew ?_ | refine blk_alloc ?_ _)); exact BK104.out⟩, ⟨by repeat (first | (with_reducible first | exact HB.out | apply below_alloc | apply pw_below_drewN | apply below_drew1 | refine below_set ?_ GE104.out) | exact HB.out)⟩⟩
                            · rw [if_neg c27] at H
                              exact absurd H (by simp)
                          · rw [if_neg c26] at H
                            exact absurd H (by simp)
                        · rw [if_neg c25] at H
                          have c25b0 : decide (0 ≤ ((rd_T49 l0 x5_2).f1)) = false := decide_eq_false c25
                          clear c25
                          (first | rw [c25b0] | (simp only [i64_w, i32_w]; rw [c25b0]) | skip)
                          by_cases c37 : ((rd_T49 l0 x5_2).f2) ≥ 0
                          · rw [if_pos c37] at H
                            have c37b0 : decide (0 ≤ ((rd_T49 l0 x5_2).f2)) = true := decide_eq_true c37
                            clear c37
                            by_cases c38 : 0 ≤ ((rd_T49 l0 x5_2).f2)
                            · rw [if_pos c38] at H
                              have c38b0 : decide (0 ≤ ((rd_T49 l0 x5_2).f2)) = true := decide_eq_true c38
                              clear c38
                              by_cases c39 : ((rd_T49 l0 x5_2).f2) < (l0.length : Int)
                              · rw [if_pos c39] at H
                                have c39b0 : decide (((rd_T49 l0 x5_2).f2) < (l0.length : Int)) = true := decide_eq_true c39
                                clear c39
                                replace H := Option.bind_eq_some_iff.mp H
                                obtain ⟨t113, A400, H⟩ := H
                                replace H : (spec_IsDiagram.j3 kj11 l0 l1 x5_2 (decide (t113 ≤ t105)) ((rd_T49 l0 x5_2).f0) ((rd_T49 l0 x5_2).f1) ((rd_T49 l0 x5_2).f2)) = some r := H
                                have A40 := Aside0.mk A400
                                clear A400
                                have H' := Aside0.mk H
                                clear H
                                have hcz41_0 : wc.cell? ⟨gb104, 0, none⟩ = some (.int .i64 ((rd_T49 l0 x5_2).f0)) := (blk_cell BK104.out 0).trans rfl
                                have hcz41_1 : wc.cell? ⟨gb104, 1, none⟩ = some (.int .i64 ((rd_T49 l0 x5_2).f1)) := (blk_cell BK104.out 1).trans rfl
                                have hcz41_2 : wc.cell? ⟨gb104, 2, none⟩ = some (.int .i64 ((rd_T49 l0 x5_2).f2)) := (blk_cell BK104.out 2).trans rfl
                                have hfz41_0 := blk_frozen BK104.out 0
                                have hfz41_1 := blk_frozen BK104.out 1
                                have hfz41_2 := blk_frozen BK104.out 2
                                have p112 : 0 ≤ (((rd_T49 l0 x5_2).f2) : Int) := of_decide_eq_true (by first | (with_reducible assumption) | assumption)
                                have q112 : ((rd_T49 l0 x5_2).f2) < (l0.length : Int) := of_decide_eq_true (by first | (with_reducible assumption) | assumption)
                                obtain ⟨ad112, e112, hx112_0, hx112_1, hx112_2⟩ := at_T49 HR0.out ((rd_T49 l0 x5_2).f2) p112 q112
                                obtain rfl : ad103 = ad112 := (by injection e112)
                                replace hx112_0 := (HB.out.cell (World.block_lt_of_cell? w _ hx112_0)).trans hx112_0
                                replace hx112_1 := (HB.out.cell (World.block_lt_of_cell? w _ hx112_1)).trans hx112_1
                                replace hx112_2 := (HB.out.cell (World.block_lt_of_cell? w _ hx112_2)).trans hx112_2
                                replace p112 := eq_true p112
                                replace q112 := eq_true q112
                                go_wp2_with (first | (go_at_call 36; (with_reducible refine (spec_l19Level.calls kj11 _ _ l1 ((rd_T49 l0 ((rd_T49 l0 x5_2).f2)).f0) t113 _ ?side1 ?side2 A40.out).mono ?_); (case side1 => repeat (first | exact (Kd.C_below HR1.out HB.out) | (with_reducible refine Kd.C_alloc ?_ _) | (with_reducible refine Kd.C_drewN ?_ _) | (with_reducible refine Kd.C_drew ?_))); (case side2 => exact HC1.out); rintro e w' ⟨rfl, ⟨nd, rfl⟩⟩; (try first | exact ⟨rfl, _, World.drewN_drewN _ _ _⟩ | exact ⟨rfl, _, Eq.trans (World.drewN_drewN _ _ _) (congrArg (World.drewN _) (Nat.add_assoc _ _ _))⟩)))
                                repeat (go_quiet (first | (go_at_call 36; (with_reducible refine (spec_l19Level.calls kj11 _ _ l1 ((rd_T49 l0 ((rd_T49 l0 x5_2).f2)).f0) t113 _ ?side1 ?side2 A40.out).mono ?_); (case side1 => repeat (first | exact (Kd.C_below HR1.out HB.out) | (with_reducible refine Kd.C_alloc ?_ _) | (with_reducible refine Kd.C_drewN ?_ _) | (with_reducible refine Kd.C_drew ?_))); (case side2 => exact HC1.out); rintro e w' ⟨rfl, ⟨nd, rfl⟩⟩; (try first | exact ⟨rfl, _, World.drewN_drewN _ _ _⟩ | exact ⟨rfl, _, Eq.trans (World.drewN_drewN _ _ _) (congrArg (World.drewN _) (Nat.add_assoc _ _ _))⟩))); try go_wp2_with (first | (go_at_call 36; (with_reducible refine (spec_l19Level.calls kj11 _ _ l1 ((rd_T49 l0 ((rd_T49 l0 x5_2).f2)).f0) t113 _ ?side1 ?side2 A40.out).mono ?_); (case side1 => repeat (first | exact (Kd.C_below HR1.out HB.out) | (with_reducible refine Kd.C_alloc ?_ _) | (with_reducible refine Kd.C_drewN ?_ _) | (with_reducible refine Kd.C_drew ?_))); (case side2 => exact HC1.out); rintro e w' ⟨rfl, ⟨nd, rfl⟩⟩; (try first | exact ⟨rfl, _, World.drewN_drewN _ _ _⟩ | exact ⟨rfl, _, Eq.trans (World.drewN_drewN _ _ _) (congrArg (World.drewN _) (Nat.add_assoc _ _ _))⟩))))
                                go_meet
                                case rel => exact ⟨_, (decide (t113 ≤ t105)), (by first | rfl | (simp; done) | (simp [*]; done)), H', ⟨by have := HJ2.out; have := HK2.out; have := HJ11.out; first | omega | exact Nat.le_refl _⟩, ⟨by (with_reducible repeat (first | refine blk_drewN ?_ _ | refine blk_drew ?_ | refine blk_alloc ?_ _)); exact BK104.out⟩, ⟨by repeat (first | (with_reducible first | exact HB.out | apply below_alloc | apply pw_below_drewN | apply below_drew1 | refine below_set ?_ GE104.out) | exact HB.out)⟩⟩
                              · rw [if_neg c39] at H
                                exact absurd H (by simp)
                            · rw [if_neg c38] at H
                              exact absurd H (by simp)
                          · rw [if_neg c37] at H
                            have c37b0 : decide (0 ≤ ((rd_T49 l0 x5_2).f2)) = false := decide_eq_false c37
                            clear c37
                            have H' := Aside0.mk H
                            clear H
                            have hcz42_0 : wc.cell? ⟨gb104, 0, none⟩ = some (.int .i64 ((rd_T49 l0 x5_2).f0)) := (blk_cell BK104.out 0).trans rfl
                            have hcz42_1 : wc.cell? ⟨gb104, 1, none⟩ = some (.int .i64 ((rd_T49 l0 x5_2).f1)) := (blk_cell BK104.out 1).trans rfl
                            have hcz42_2 : wc.cell? ⟨gb104, 2, none⟩ = some (.int .i64 ((rd_T49 l0 x5_2).f2)) := (blk_cell BK104.out 2).trans rfl
                            have hfz42_0 := blk_frozen BK104.out 0
                            have hfz42_1 := blk_frozen BK104.out 1
                            have hfz42_2 := blk_frozen BK104.out 2
                            go_wp2
                            repeat (go_quiet (fail); try go_wp2)
                            go_meet
                            case rel => exact ⟨_, (false), (by first | rfl | (simp; done) | (simp [*]; done)), H', ⟨by have := HJ2.out; have := HK2.out; have := HJ11.out; first | omega | exact Nat.le_refl _⟩, ⟨by (with_reducible repeat (first | refine blk_drewN ?_ _ | refine blk_drew ?_ | refine blk_alloc ?_ _)); exact BK104.out⟩, ⟨by repeat (first | (with_reducible first | exact HB.out | apply below_alloc | apply pw_below_drewN | apply below_drew1 | refine below_set ?_ GE104.out) | exact HB.out)⟩⟩
                      case rest =>
                        clear HC24
                        try clear c1
                        try clear p1
                        try clear q1
                        try clear hx1
                        try clear c2
                        try clear p2
                        try clear c3
                        try clear c5
                        try clear c6
                        try clear c6b0
                        try clear c6b1
                        try clear p6
                        try clear c8
                        try clear c9
                        try clear c9b0
                        try clear c10
                        try clear c10b0
                        try clear p10
                        try clear q10
                        try clear hx10
                        try clear p11
                        try clear q11
                        try clear hx11
                        try clear c14
                        try clear c15
                        try clear c15b0
                        try clear c15b1
                        try clear c17
                        try clear c19
                        try clear c23
                        try clear c25
                        try clear c25b0
                        try clear c26
                        try clear c26b0
                        try clear c27
                        try clear c27b0
                        try clear c29
                        try clear c29b0
                        try clear c31
                        try clear c31b0
                        try clear c32
                        try clear c32b0
                        try clear c33
                        try clear c33b0
                        try clear c37
                        try clear c37b0
                        try clear c38
                        try clear c38b0
                        try clear c39
                        try clear c39b0
                        try clear hcz14_0
                        try clear hcz14_1
                        try clear hcz14_2
                        try clear hcz20_0
                        try clear hcz20_1
                        try clear hcz20_2
                        try clear hcz21_0
                        try clear hcz21_1
                        try clear hcz21_2
                        try clear hcz22_0
                        try clear hcz22_1
                        try clear hcz22_2
                        try clear hcz30_0
                        try clear hcz30_1
                        try clear hcz30_2
                        try clear hcz35_0
                        try clear hcz35_1
                        try clear hcz35_2
                        try clear hcz36_0
                        try clear hcz36_1
                        try clear hcz36_2
                        try clear hcz41_0
                        try clear hcz41_1
                        try clear hcz41_2
                        try clear hcz42_0
                        try clear hcz42_1
                        try clear hcz42_2
                        try clear hfz14_0
                        try clear hfz14_1
                        try clear hfz14_2
                        try clear hfz20_0
                        try clear hfz20_1
                        try clear hfz20_2
                        try clear hfz21_0
                        try clear hfz21_1
                        try clear hfz21_2
                        try clear hfz22_0
                        try clear hfz22_1
                        try clear hfz22_2
                        try clear hfz30_0
                        try clear hfz30_1
                        try clear hfz30_2
                        try clear hfz35_0
                        try clear hfz35_1
                        try clear hfz35_2
                        try clear hfz36_0
                        try clear hfz36_1
                        try clear hfz36_2
                        try clear hfz41_0
                        try clear hfz41_1
                        try clear hfz41_2
                        try clear hfz42_0
                        try clear hfz42_1
                        try clear hfz42_2
                        try clear hx103_0
                        try clear hx103_1
                        try clear hx103_2
                        try clear hx108_0
                        try clear hx108_1
                        try clear hx108_2
                        try clear hx110_0
                        try clear hx110_1
                        try clear hx110_2
                        try clear hx112_0
                        try clear hx112_1
                        try clear hx112_2
                        try clear p1
                        try clear p10
                        try clear p103
                        try clear p108
                        try clear p110
                        try clear p112
                        try clear p2
                        try clear p6
                        try clear q1
                        try clear q10
                        try clear q103
                        try clear q108
                        try clear q110
                        try clear q112
                        obtain ⟨kq, x97_23, rfl, HA, HJ23, BK104, HB⟩ := hcut
                        cases kq with
                        | zero => exact absurd HA.out (by simp [spec_IsDiagram.j3])
                        | succ kj23 =>
                          have H := HA.out
                          clear HA
                          simp only [spec_IsDiagram.j3] at H
                          by_cases c43 : x97_23 = true
                          · subst c43
                            have H1 : (some false) = some r := by rw [if_pos rfl] at H; exact H
                            clear H
                            have H := H1
                            clear H1
                            obtain rfl := Option.some.inj H
                            go_wp2
                            repeat (go_quiet (fail); try go_wp2)
                            go_ret
                            exact ⟨by first | rfl | (simp [errW_none, errW_some] <;> rfl) | (simp [*, errW_none, errW_some] <;> rfl), by repeat (first | (with_reducible first | exact HB.out | apply below_alloc | apply pw_below_drewN | apply below_drew1 | refine below_set ?_ GE104.out) | exact HB.out)⟩
                          · replace c43 := Bool.eq_false_iff.mpr c43
                            subst c43
                            have H1 : (spec_IsDiagram.l1 kj23 l0 l1 x5_2 0 ((rd_T49 l0 x5_2).f0) ((rd_T49 l0 x5_2).f1) ((rd_T49 l0 x5_2).f2)) = some r := by rw [if_neg (show ¬ (false = true) by decide)] at H; exact H
                            clear H
                            have H := H1
                            clear H1
                            have H' := Aside0.mk H
                            clear H
                            go_wp2
                            repeat (go_quiet (fail); try go_wp2)
                            go_loopg [8] kj23 (fun kq v8 w' => ∃ (x8_5 : Int), v8 = .int .i64 x8_5 ∧ Aside0 (spec_IsDiagram.l1 kq l0 l1 x5_2 x8_5 ((rd_T49 l0 x5_2).f0) ((rd_T49 l0 x5_2).f1) ((rd_T49 l0 x5_2).f2) = some r) ∧ Aside0 (kq ≤ kj23) ∧ Aside0 (w'.heap[gb104]? = some (.cells #[.int .i64 ((rd_T49 l0 x5_2).f0), .int .i64 ((rd_T49 l0 x5_2).f1), .int .i64 ((rd_T49 l0 x5_2).f2)] 49 (0, 0))) ∧ Aside0 (Below w.heap.size w w'))
                            case atStart => exact ⟨(0), (by first | rfl | (simp; done) | (simp [*]; done)), H', ⟨Nat.le_refl _⟩, ⟨by (with_reducible repeat (first | refine blk_drewN ?_ _ | refine blk_drew ?_ | refine blk_alloc ?_ _)); exact BK104.out⟩, ⟨by repeat (first | (with_reducible first | exact HB.out | apply below_alloc | apply pw_below_drewN | apply below_drew1 | refine below_set ?_ GE104.out) | exact HB.out)⟩⟩
                            case round =>
                              clear H'
                              try clear c1
                              try clear p1
                              try clear q1
                              try clear hx1
                              try clear c2
                              try clear p2
                              try clear c3
                              try clear c4
                              try clear c5
                              try clear c6
                              try clear c6b0
                              try clear c6b1
                              try clear p6
                              try clear c8
                              try clear c9
                              try clear c9b0
                              try clear c10
                              try clear c10b0
                              try clear p10
                              try clear q10
                              try clear hx10
                              try clear p11
                              try clear q11
                              try clear hx11
                              try clear c14
                              try clear c15
                              try clear c15b0
                              try clear c15b1
                              try clear c17
                              try clear c19
                              try clear c23
                              try clear c25
                              try clear c25b0
                              try clear c26
                              try clear c26b0
                              try clear c27
                              try clear c27b0
                              try clear c29
                              try clear c29b0
                              try clear c31
                              try clear c31b0
                              try clear c32
                              try clear c32b0
                              try clear c33
                              try clear c33b0
                              try clear c37
                              try clear c37b0
                              try clear c38
                              try clear c38b0
                              try clear c39
                              try clear c39b0
                              try clear c43
                              try clear hcz14_0
                              try clear hcz14_1
                              try clear hcz14_2
                              try clear hcz20_0
                              try clear hcz20_1
                              try clear hcz20_2
                              try clear hcz21_0
                              try clear hcz21_1
                              try clear hcz21_2
                              try clear hcz22_0
                              try clear hcz22_1
                              try clear hcz22_2
                              try clear hcz30_0
                              try clear hcz30_1
                              try clear hcz30_2
                              try clear hcz35_0
                              try clear hcz35_1
                              try clear hcz35_2
                              try clear hcz36_0
                              try clear hcz36_1
                              try clear hcz36_2
                              try clear hcz41_0
                              try clear hcz41_1
                              try clear hcz41_2
                              try clear hcz42_0
                              try clear hcz42_1
                              try clear hcz42_2
                              try clear hfz14_0
                              try clear hfz14_1
                              try clear hfz14_2
                              try clear hfz20_0
                              try clear hfz20_1
                              try clear hfz20_2
                              try clear hfz21_0
                              try clear hfz21_1
                              try clear hfz21_2
                              try clear hfz22_0
                              try clear hfz22_1
                              try clear hfz22_2
                              try clear hfz30_0
                              try clear hfz30_1
                              try clear hfz30_2
                              try clear hfz35_0
                              try clear hfz35_1
                              try clear hfz35_2
                              try clear hfz36_0
                              try clear hfz36_1
                              try clear hfz36_2
                              try clear hfz41_0
                              try clear hfz41_1
                              try clear hfz41_2
                              try clear hfz42_0
                              try clear hfz42_1
                              try clear hfz42_2
                              try clear hx103_0
                              try clear hx103_1
                              try clear hx103_2
                              try clear hx108_0
                              try clear hx108_1
                              try clear hx108_2
                              try clear hx110_0
                              try clear hx110_1
                              try clear hx110_2
                              try clear hx112_0
                              try clear hx112_1
                              try clear hx112_2
                              try clear p1
                              try clear p10
                              try clear p103
                              try clear p108
                              try clear p11
                              try clear p110
                              try clear p112
                              try clear p2
                              try clear p6
                              try clear q1
                              try clear q10
                              try clear q103
                              try clear q108
                              try clear q11
                              try clear q110
                              try clear q112
                              obtain ⟨x8_5, rfl, HA, HK5, BK104, HB⟩ := hrel
                              cases gk with
                              | zero => exact absurd HA.out (by simp [spec_IsDiagram.l1])
                              | succ k5 =>
                                have H := HA.out
                                clear HA
                                simp only [spec_IsDiagram.l1] at H
                                by_cases c44 : x8_5 < x5_2
                                · rw [if_pos c44] at H
                                  have c44b0 : decide (x8_5 < x5_2) = true := decide_eq_true c44
                                  clear c44
                                  by_cases c45 : 0 ≤ x8_5
                                  · rw [if_pos c45] at H
                                    have c45b0 : decide (0 ≤ x8_5) = true := decide_eq_true c45
                                    clear c45
                                    by_cases c46 : x8_5 < (l0.length : Int)
                                    · rw [if_pos c46] at H
                                      have c46b0 : decide (x8_5 < (l0.length : Int)) = true := decide_eq_true c46
                                      clear c46
                                      by_cases c47 : (((rd_T49 l0 x8_5).f0) == ((rd_T49 l0 x5_2).f0) && (((rd_T49 l0 x8_5).f1) == ((rd_T49 l0 x5_2).f1) && (((rd_T49 l0 x8_5).f2) == ((rd_T49 l0 x5_2).f2)))) = true
                                      · rw [if_pos c47] at H
                                        have c47b0 : (((rd_T49 l0 x8_5).f0) == ((rd_T49 l0 x5_2).f0) && (((rd_T49 l0 x8_5).f1) == ((rd_T49 l0 x5_2).f1) && (((rd_T49 l0 x8_5).f2) == ((rd_T49 l0 x5_2).f2)))) = true := c47
                                        (try (have c47b1 : decide (((rd_T49 l0 x8_5).f0) = ((rd_T49 l0 x5_2).f0) && (((rd_T49 l0 x8_5).f1) == ((rd_T49 l0 x5_2).f1) && (((rd_T49 l0 x8_5).f2) == ((rd_T49 l0 x5_2).f2)))) = true := by simpa using c47))
                                        (try (have c47b2 : (((rd_T49 l0 x8_5).f0) == ((rd_T49 l0 x5_2).f0) && (((rd_T49 l0 x8_5).f1) == ((rd_T49 l0 x5_2).f1) && (((rd_T49 l0 x8_5).f2) == ((rd_T49 l0 x5_2).f2)))) = true := by simpa using c47))
                                        clear c47
                                        obtain rfl := Option.some.inj H
                                        have p114 : 0 ≤ (x8_5 : Int) := of_decide_eq_true (by first | (with_reducible assumption) | assumption)
                                        have q114 : x8_5 < (l0.length : Int) := of_decide_eq_true (by first | (with_reducible assumption) | assumption)
                                        obtain ⟨ad114, e114, hx114_0, hx114_1, hx114_2⟩ := at_T49 HR0.out x8_5 p114 q114
                                        obtain rfl : ad103 = ad114 := (by injection e114)
                                        replace hx114_0 := (HB.out.cell (World.block_lt_of_cell? w _ hx114_0)).trans hx114_0
                                        replace hx114_1 := (HB.out.cell (World.block_lt_of_cell? w _ hx114_1)).trans hx114_1
                                        replace hx114_2 := (HB.out.cell (World.block_lt_of_cell? w _ hx114_2)).trans hx114_2
                                        replace p114 := eq_true p114
                                        replace q114 := eq_true q114
                                        have hcz48_0 : wr.cell? ⟨gb104, 0, none⟩ = some (.int .i64 ((rd_T49 l0 x5_2).f0)) := (blk_cell BK104.out 0).trans rfl
                                        have hcz48_1 : wr.cell? ⟨gb104, 1, none⟩ = some (.int .i64 ((rd_T49 l0 x5_2).f1)) := (blk_cell BK104.out 1).trans rfl
                                        have hcz48_2 : wr.cell? ⟨gb104, 2, none⟩ = some (.int .i64 ((rd_T49 l0 x5_2).f2)) := (blk_cell BK104.out 2).trans rfl
                                        have hfz48_0 := blk_frozen BK104.out 0
                                        have hfz48_1 := blk_frozen BK104.out 1
                                        have hfz48_2 := blk_frozen BK104.out 2
                                        go_wp2
                                        repeat (go_quiet (fail); try go_wp2)
                                        go_ret
                                        exact ⟨by first | rfl | (simp [errW_none, errW_some] <;> rfl) | (simp [*, errW_none, errW_some] <;> rfl), by repeat (first | (with_reducible first | exact HB.out | apply below_alloc | apply pw_below_drewN | apply below_drew1 | refine below_set ?_ GE104.out) | exact HB.out)⟩
                                      · rw [if_neg c47] at H
                                        have c47b0 : (((rd_T49 l0 x8_5).f0) == ((rd_T49 l0 x5_2).f0) && (((rd_T49 l0 x8_5).f1) == ((rd_T49 l0 x5_2).f1) && (((rd_T49 l0 x8_5).f2) == ((rd_T49 l0 x5_2).f2)))) = false := by simpa using c47
                                        (try (have c47b1 : decide (((rd_T49 l0 x8_5).f0) = ((rd_T49 l0 x5_2).f0) && (((rd_T49 l0 x8_5).f1) == ((rd_T49 l0 x5_2).f1) && (((rd_T49 l0 x8_5).f2) == ((rd_T49 l0 x5_2).f2)))) = false := by simpa using c47))
                                        (try (have c47b2 : (((rd_T49 l0 x8_5).f0) == ((rd_T49 l0 x5_2).f0) && (((rd_T49 l0 x8_5).f1) == ((rd_T49 l0 x5_2).f1) && (((rd_T49 l0 x8_5).f2) == ((rd_T49 l0 x5_2).f2)))) = false := by simpa using c47))
                                        (try (have c47b3 : ¬ (((rd_T49 l0 x8_5).f0) = ((rd_T49 l0 x5_2).f0) && (((rd_T49 l0 x8_5).f1) == ((rd_T49 l0 x5_2).f1) && (((rd_T49 l0 x8_5).f2) == ((rd_T49 l0 x5_2).f2)))) := by simpa using c47))
                                        clear c47
                                        have H' := Aside0.mk H
                                        clear H
                                        have p114 : 0 ≤ (x8_5 : Int) := of_decide_eq_true (by first | (with_reducible assumption) | assumption)
                                        have q114 : x8_5 < (l0.length : Int) := of_decide_eq_true (by first | (with_reducible assumption) | assumption)
                                        obtain ⟨ad114, e114, hx114_0, hx114_1, hx114_2⟩ := at_T49 HR0.out x8_5 p114 q114
                                        obtain rfl : ad103 = ad114 := (by injection e114)
                                        replace hx114_0 := (HB.out.cell (World.block_lt_of_cell? w _ hx114_0)).trans hx114_0
                                        replace hx114_1 := (HB.out.cell (World.block_lt_of_cell? w _ hx114_1)).trans hx114_1
                                        replace hx114_2 := (HB.out.cell (World.block_lt_of_cell? w _ hx114_2)).trans hx114_2
                                        replace p114 := eq_true p114
                                        replace q114 := eq_true q114
                                        have hcz49_0 : wr.cell? ⟨gb104, 0, none⟩ = some (.int .i64 ((rd_T49 l0 x5_2).f0)) := (blk_cell BK104.out 0).trans rfl
                                        have hcz49_1 : wr.cell? ⟨gb104, 1, none⟩ = some (.int .i64 ((rd_T49 l0 x5_2).f1)) := (blk_cell BK104.out 1).trans rfl
                                        have hcz49_2 : wr.cell? ⟨gb104, 2, none⟩ = some (.int .i64 ((rd_T49 l0 x5_2).f2)) := (blk_cell BK104.out 2).trans rfl
                                        have hfz49_0 := blk_frozen BK104.out 0
                                        have hfz49_1 := blk_frozen BK104.out 1
                                        have hfz49_2 := blk_frozen BK104.out 2
                                        go_wp2
                                        repeat (go_quiet (fail); try go_wp2)
                                        go_roundg k5
                                        case measure => have := HJ2.out; have := HK2.out; have := HJ11.out; have := HJ23.out; have := HK5.out; omega
                                        case rel => exact ⟨(wrap64 (x8_5 + 1)), (by first | rfl | (simp; done) | (simp [*]; done)), H', ⟨by have := HJ2.out; have := HK2.out; have := HJ11.out; have := HJ23.out; have := HK5.out; omega⟩, ⟨by (with_reducible repeat (first | refine blk_drewN ?_ _ | refine blk_drew ?_ | refine blk_alloc ?_ _)); exact BK104.out⟩, ⟨by repeat (first | (with_reducible first | exact HB.out | apply below_alloc | apply pw_below_drewN | apply below_drew1 | refine below_set ?_ GE104.out) | exact HB.out)⟩⟩
                                    · rw [if_neg c46] at H
                                      exact absurd H (by simp)
                                  · rw [if_neg c45] at H
                                    exact absurd H (by simp)
                                · rw [if_neg c44] at H
                                  have c44b0 : decide (x8_5 < x5_2) = false := decide_eq_false c44
                                  clear c44
                                  have H' := Aside0.mk H
                                  clear H
                                  go_wp2
                                  repeat (go_quiet (fail); try go_wp2)
                                  go_roundg k5
                                  case measure => have := HJ2.out; have := HK2.out; have := HJ11.out; have := HJ23.out; have := HK5.out; omega
                                  case rel => exact ⟨(wrap64 (x5_2 + 1)), (by first | rfl | (simp; done) | (simp [*]; done)), H', ⟨by have := HJ2.out; have := HK2.out; have := HJ11.out; have := HJ23.out; have := HK5.out; omega⟩, ⟨by repeat (first | (with_reducible first | exact HB.out | apply below_alloc | apply pw_below_drewN | apply below_drew1 | refine below_set ?_ GE104.out) | exact HB.out)⟩⟩
              · rw [if_neg c10] at H
                exact absurd H (by simp)
            · rw [if_neg c9] at H
              have c9b0 : decide (x5_2 < (l0.length : Int)) = false := decide_eq_false c9
              clear c9
              obtain rfl := Option.some.inj H
              go_wp2
              repeat (go_quiet (fail); try go_wp2)
              go_ret
              exact ⟨by first | rfl | (simp [errW_none, errW_some] <;> rfl) | (simp [*, errW_none, errW_some] <;> rfl), by repeat (first | (with_reducible first | exact HB.out | apply below_alloc | apply pw_below_drewN | apply below_drew1) | exact HB.out)⟩

end Go.Proofs.Ytpbdjpbkocdidaa.F
