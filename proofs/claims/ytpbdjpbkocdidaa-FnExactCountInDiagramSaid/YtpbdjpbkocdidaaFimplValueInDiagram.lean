/- The walk of one Go function: a call of it ends as the Lean function of its name tells; the conditions are those of each theorem. -/
import Derived.Test.YtpbdjpbkocdidaaF0
import Derived.Test.YtpbdjpbkocdidaaFGa
namespace Go.Proofs.Ytpbdjpbkocdidaa.F
open Go.RowKit Go.Proofs.YtpbdjpbkocdidaaW.PrintWords Go.Proofs.YtpbdjpbkocdidaaW.PrintLast Go.Proofs.YtpbdjpbkocdidaaW.PrintMore
attribute [local go_sem] max2_int min2_int max_two min_two max_three min_three max_four min_four   -- for this text's walks alone
set_option linter.unusedVariables false
set_option linter.unusedSimpArgs false

/-! ### impl_ValueInDiagram: function 12 -/
mutual
def impl_ValueInDiagram.j0 : Nat → List (S49) → Int → Bool → Option (Int)
  | 0, _, _, _ => none
  | k + 1, x0, x1, x20 => if x20 = true then (some (-1)) else (impl_ValueInDiagram.l0 k x0 x1 (wrap64 ((x0.length : Int) - 1)))
def impl_ValueInDiagram.l0 : Nat → List (S49) → Int → Int → Option (Int)
  | 0, _, _, _ => none
  | k + 1, x0, x1, x5 => if x5 ≥ 0 then (if 0 ≤ x5 then (if x5 < (x0.length : Int) then (if ((rd_T49 x0 x5).f0) < 0 then (impl_ValueInDiagram.j2 k x0 x1 x5 true ((rd_T49 x0 x5).f0) ((rd_T49 x0 x5).f1) ((rd_T49 x0 x5).f2)) else (impl_ValueInDiagram.j2 k x0 x1 x5 (decide (((rd_T49 x0 x5).f0) ≥ 5)) ((rd_T49 x0 x5).f0) ((rd_T49 x0 x5).f1) ((rd_T49 x0 x5).f2))) else (none)) else (none)) else (some (wrap64 (x5 - (-2))))
def impl_ValueInDiagram.j2 : Nat → List (S49) → Int → Int → Bool → Int → Int → Int → Option (Int)
  | 0, _, _, _, _, _, _, _ => none
  | k + 1, x0, x1, x5, x37, x104000, x104001, x104002 => if x37 = true then (some (-1)) else (if 0 ≤ x104000 then (if (Go.bits .and .i64 (shr .i64 x1 x104000) 1) = 1 then (if x104002 < (-2) then (some (-1)) else (if x104002 ≥ x5 then (some (-1)) else (impl_ValueInDiagram.l0 k x0 x1 x104002))) else (if x104001 < (-2) then (some (-1)) else (if x104001 ≥ x5 then (some (-1)) else (impl_ValueInDiagram.l0 k x0 x1 x104001)))) else (none))
end
def impl_ValueInDiagram.f (k : Nat) (l0 : List (S49)) (a1 : Int) : Option (Int) := if (l0.length : Int) < 1 then (impl_ValueInDiagram.j0 k l0 a1 true) else (if (l0.length : Int) > 31 then (impl_ValueInDiagram.j0 k l0 a1 true) else ((impl_isInput.f 5 a1).bind fun t101 => (impl_ValueInDiagram.j0 k l0 a1 (!t101))))
theorem impl_ValueInDiagram.mono_l : ∀ k, (∀ y0 y1 y2, LeO (impl_ValueInDiagram.j0 k y0 y1 y2) (impl_ValueInDiagram.j0 (k + 1) y0 y1 y2)) ∧ (∀ y0 y1 y2, LeO (impl_ValueInDiagram.l0 k y0 y1 y2) (impl_ValueInDiagram.l0 (k + 1) y0 y1 y2)) ∧ (∀ y0 y1 y2 y3 y4 y5 y6, LeO (impl_ValueInDiagram.j2 k y0 y1 y2 y3 y4 y5 y6) (impl_ValueInDiagram.j2 (k + 1) y0 y1 y2 y3 y4 y5 y6))
  | 0 => ⟨fun _ _ _ r h => by simp [impl_ValueInDiagram.j0] at h, fun _ _ _ r h => by simp [impl_ValueInDiagram.l0] at h, fun _ _ _ _ _ _ _ r h => by simp [impl_ValueInDiagram.j2] at h⟩
  | k + 1 => by
    obtain ⟨ih0, ih1, ih2⟩ := impl_ValueInDiagram.mono_l k
    refine ⟨?_, ?_, ?_⟩
    · intro y0 y1 y2
      unfold impl_ValueInDiagram.j0
      repeat' first
      | (with_reducible exact ih0 _ _ _)
      | (with_reducible exact ih1 _ _ _)
      | (with_reducible exact ih2 _ _ _ _ _ _ _)
      | (with_reducible exact LeO.refl _)
      | (with_reducible exact LeO.none _)
      | (with_reducible refine LeO.ite ?_ ?_)
      | (with_reducible refine LeO.bind ?_ (fun _ => ?_))
      | exact ih0 _ _ _
      | exact ih1 _ _ _
      | exact ih2 _ _ _ _ _ _ _
      | exact LeO.none _
      | refine LeO.ite ?_ ?_
      | refine LeO.bind ?_ (fun _ => ?_)
    · intro y0 y1 y2
      unfold impl_ValueInDiagram.l0
      repeat' first
      | (with_reducible exact ih0 _ _ _)
      | (with_reducible exact ih1 _ _ _)
      | (with_reducible exact ih2 _ _ _ _ _ _ _)
      | (with_reducible exact LeO.refl _)
      | (with_reducible exact LeO.none _)
      | (with_reducible refine LeO.ite ?_ ?_)
      | (with_reducible refine LeO.bind ?_ (fun _ => ?_))
      | exact ih0 _ _ _
      | exact ih1 _ _ _
      | exact ih2 _ _ _ _ _ _ _
      | exact LeO.none _
      | refine LeO.ite ?_ ?_
      | refine LeO.bind ?_ (fun _ => ?_)
    · intro y0 y1 y2 y3 y4 y5 y6
      unfold impl_ValueInDiagram.j2
      repeat' first
      | (with_reducible exact ih0 _ _ _)
      | (with_reducible exact ih1 _ _ _)
      | (with_reducible exact ih2 _ _ _ _ _ _ _)
      | (with_reducible exact LeO.refl _)
      | (with_reducible exact LeO.none _)
      | (with_reducible refine LeO.ite ?_ ?_)
      | (with_reducible refine LeO.bind ?_ (fun _ => ?_))
      | exact ih0 _ _ _
      | exact ih1 _ _ _
      | exact ih2 _ _ _ _ _ _ _
      | exact LeO.none _
      | refine LeO.ite ?_ ?_
      | refine LeO.bind ?_ (fun _ => ?_)
theorem impl_ValueInDiagram.mono : ∀ a0 a1 k, LeO (impl_ValueInDiagram.f k a0 a1) (impl_ValueInDiagram.f (k + 1) a0 a1) := by
  intro a0 a1 k
  obtain ⟨ih0, ih1, ih2⟩ := impl_ValueInDiagram.mono_l k
  unfold impl_ValueInDiagram.f
  repeat' first
      | (with_reducible exact ih0 _ _ _)
      | (with_reducible exact ih1 _ _ _)
      | (with_reducible exact ih2 _ _ _ _ _ _ _)
      | (with_reducible exact LeO.refl _)
      | (with_reducible exact LeO.none _)
      | (with_reducible refine LeO.ite ?_ ?_)
      | (with_reducible refine LeO.bind ?_ (fun _ => ?_))
      | exact ih0 _ _ _
      | exact ih1 _ _ _
      | exact ih2 _ _ _ _ _ _ _
      | exact LeO.none _
      | refine LeO.ite ?_ ?_
      | refine LeO.bind ?_ (fun _ => ?_)
set_option maxHeartbeats 8000000 in
set_option maxRecDepth 100000 in
theorem impl_ValueInDiagram.calls (k : Nat) (A0 : Option Addr) (c0 : Nat) (l0 : List (S49)) (a1 : Int) (r : Int) (w : World) (hr0 : Kd.C k49 w A0 l0.length l0) (hc0 : l0.length ≤ c0) (h : impl_ValueInDiagram.f k l0 a1 = some r) :
    Calls Try.prog 12 #[.slice A0 l0.length c0, .int .i64 a1] w fun e w' => e = .returned (.int .i64 r) ∧ Below w.heap.size w w' := by
  have hu49 := Try.underlying49
  have HR0 := Aside0.mk hr0
  have HC0 := Aside0.mk hc0
  clear hr0 hc0
  have HB := Aside0.mk (Below.refl w.heap.size w)
  have H : (if (l0.length : Int) < 1 then (impl_ValueInDiagram.j0 k l0 a1 true) else (if (l0.length : Int) > 31 then (impl_ValueInDiagram.j0 k l0 a1 true) else ((impl_isInput.f 5 a1).bind fun t101 => (impl_ValueInDiagram.j0 k l0 a1 (!t101))))) = some r := h
  clear h
  have HC3 := Aside0.mk H
  clear H
  go_enter Try.func12, Try.ntmps12
  go_upto_region 1 with (fail)
  go_cut [20] (fun v20 wc => ∃ (kq : Nat) (x20_2 : Bool), v20 = .bool x20_2 ∧ Aside0 (impl_ValueInDiagram.j0 kq l0 a1 x20_2 = some r) ∧ Aside0 (kq ≤ k) ∧ Aside0 (Below w.heap.size w wc))
  case first =>
    have H := HC3.out
    clear HC3
    by_cases c4 : (l0.length : Int) < 1
    · rw [if_pos c4] at H
      have c4b0 : decide ((l0.length : Int) < 1) = true := decide_eq_true c4
      have c4b1 : decide (l0.length < 1) = true := decide_eq_true (by omega)
      clear c4
      (first | rw [c4b0] | (simp only [i64_w, i32_w]; rw [c4b0]) | skip)
      have H' := Aside0.mk H
      clear H
      go_wp2
      go_meet
      case rel => exact ⟨_, (true), (by first | rfl | (simp; done) | (simp [*]; done)), H', ⟨by first | omega | exact Nat.le_refl _⟩, ⟨by repeat (first | (with_reducible first | exact HB.out | apply below_alloc | apply pw_below_drewN | apply below_drew1) | exact HB.out)⟩⟩
    · rw [if_neg c4] at H
      have c4b0 : decide ((l0.length : Int) < 1) = false := decide_eq_false c4
      have c4b1 : decide (l0.length < 1) = false := decide_eq_false (by omega)
      clear c4
      (first | rw [c4b0] | (simp only [i64_w, i32_w]; rw [c4b0]) | skip)
      by_cases c5 : (l0.length : Int) > 31
      · rw [if_pos c5] at H
        have c5b0 : decide (31 < (l0.length : Int)) = true := decide_eq_true c5
        have c5b1 : decide (31 < l0.length) = true := decide_eq_true (by omega)
        clear c5
        have H' := Aside0.mk H
        clear H
        go_wp2
        go_meet
        case rel => exact ⟨_, (true), (by first | rfl | (simp; done) | (simp [*]; done)), H', ⟨by first | omega | exact Nat.le_refl _⟩, ⟨by repeat (first | (with_reducible first | exact HB.out | apply below_alloc | apply pw_below_drewN | apply below_drew1) | exact HB.out)⟩⟩
      · rw [if_neg c5] at H
        have c5b0 : decide (31 < (l0.length : Int)) = false := decide_eq_false c5
        have c5b1 : decide (31 < l0.length) = false := decide_eq_false (by omega)
        clear c5
        replace H := Option.bind_eq_some_iff.mp H
        obtain ⟨t101, A60, H⟩ := H
        replace H : (impl_ValueInDiagram.j0 k l0 a1 (!t101)) = some r := H
        have A6 := Aside0.mk A60
        clear A60
        have H' := Aside0.mk H
        clear H
        go_wp2_with (first | (go_at_call 33; (with_reducible refine (impl_isInput.calls 5 a1 t101 _ A6.out).mono ?_); rintro e w' ⟨rfl, ⟨nd, rfl⟩⟩))
        go_meet
        case rel => exact ⟨_, (!t101), (by first | rfl | (simp; done) | (simp [*]; done)), H', ⟨by first | omega | exact Nat.le_refl _⟩, ⟨by repeat (first | (with_reducible first | exact HB.out | apply below_alloc | apply pw_below_drewN | apply below_drew1) | exact HB.out)⟩⟩
  case rest =>
    clear HC3
    try clear c1
    try clear p2
    try clear c4
    try clear c4b0
    try clear c4b1
    try clear c5
    try clear c5b0
    try clear c5b1
    obtain ⟨kq, x20_2, rfl, HA, HJ2, HB⟩ := hcut
    cases kq with
    | zero => exact absurd HA.out (by simp [impl_ValueInDiagram.j0])
    | succ kj2 =>
      have H := HA.out
      clear HA
      simp only [impl_ValueInDiagram.j0] at H
      by_cases c7 : x20_2 = true
      · subst c7
        have H1 : (some (-1)) = some r := by rw [if_pos rfl] at H; exact H
        clear H
        have H := H1
        clear H1
        obtain rfl := Option.some.inj H
        go_wp2
        go_ret
        exact ⟨by first | rfl | (simp [errW_none, errW_some] <;> rfl) | (simp [*, errW_none, errW_some] <;> rfl), by repeat (first | (with_reducible first | exact HB.out | apply below_alloc | apply pw_below_drewN | apply below_drew1) | exact HB.out)⟩
      · replace c7 := Bool.eq_false_iff.mpr c7
        subst c7
        have H1 : (impl_ValueInDiagram.l0 kj2 l0 a1 (wrap64 ((l0.length : Int) - 1))) = some r := by rw [if_neg (show ¬ (false = true) by decide)] at H; exact H
        clear H
        have H := H1
        clear H1
        have H' := Aside0.mk H
        clear H
        go_wp2
        go_loopg [5] kj2 (fun kq v5 w' => ∃ (x5_2 : Int), v5 = .int .i64 x5_2 ∧ Aside0 (impl_ValueInDiagram.l0 kq l0 a1 x5_2 = some r) ∧ Aside0 (kq ≤ kj2) ∧ Aside0 (Below w.heap.size w w'))
        case atStart => exact ⟨(wrap64 ((l0.length : Int) - 1)), (by first | rfl | (simp; done) | (simp [*]; done)), H', ⟨Nat.le_refl _⟩, ⟨by repeat (first | (with_reducible first | exact HB.out | apply below_alloc | apply pw_below_drewN | apply below_drew1) | exact HB.out)⟩⟩
        case round =>
          clear H'
          try clear c1
          try clear p2
          try clear c4
          try clear c4b0
          try clear c4b1
          try clear c5
          try clear c5b0
          try clear c5b1
          try clear p6
          try clear c7
          try clear p2
          obtain ⟨x5_2, rfl, HA, HK2, HB⟩ := hrel
          cases gk with
          | zero => exact absurd HA.out (by simp [impl_ValueInDiagram.l0])
          | succ k2 =>
            have H := HA.out
            clear HA
            simp only [impl_ValueInDiagram.l0] at H
            by_cases c8 : x5_2 ≥ 0
            · rw [if_pos c8] at H
              have c8b0 : decide (0 ≤ x5_2) = true := decide_eq_true c8
              clear c8
              by_cases c9 : 0 ≤ x5_2
              · rw [if_pos c9] at H
                have c9b0 : decide (0 ≤ x5_2) = true := decide_eq_true c9
                clear c9
                by_cases c10 : x5_2 < (l0.length : Int)
                · rw [if_pos c10] at H
                  have c10b0 : decide (x5_2 < (l0.length : Int)) = true := decide_eq_true c10
                  clear c10
                  have HC11 := Aside0.mk H
                  clear H
                  have p102 : 0 ≤ (x5_2 : Int) := of_decide_eq_true (by first | (with_reducible assumption) | assumption)
                  have q102 : x5_2 < (l0.length : Int) := of_decide_eq_true (by first | (with_reducible assumption) | assumption)
                  obtain ⟨ad102, e102, hx102_0, hx102_1, hx102_2⟩ := at_T49 HR0.out x5_2 p102 q102
                  cases e102
                  replace hx102_0 := (HB.out.cell (World.block_lt_of_cell? w _ hx102_0)).trans hx102_0
                  replace hx102_1 := (HB.out.cell (World.block_lt_of_cell? w _ hx102_1)).trans hx102_1
                  replace hx102_2 := (HB.out.cell (World.block_lt_of_cell? w _ hx102_2)).trans hx102_2
                  replace p102 := eq_true p102
                  replace q102 := eq_true q102
                  go_upto_region 6 with (first | ((with_reducible refine gate_dst (N := 6) rfl ?_); (try (refine gate_guard (by rfl) ?_; dsimp only)); refine box_event ?hg (N := 6) ?hd (cs := #[.int .i64 0, .int .i64 0, .int .i64 0]) (t := 49) ?hr ?_; (case hd => rfl); (case hg => rfl); (case hr => first | (go_simp; done) | (go_simp; rfl)); intro gb103 hg w12 hbox hb; have n0_ := Aside0.mk (below_step (by repeat (first | (with_reducible first | exact HB.out | apply below_alloc | apply pw_below_drewN | apply below_drew1) | exact HB.out)) hb); have n1_ := Aside0.mk (hbox); have n2_ := Aside0.mk ((by rw [hg]; exact (below_size (by repeat (first | (with_reducible first | exact HB.out | apply below_alloc | apply pw_below_drewN | apply below_drew1) | exact HB.out))) : w.heap.size ≤ gb103)); have n3_ := Aside0.mk ((by rw [hg]; exact (below_size (by repeat (first | (with_reducible first | exact HB.out | apply below_alloc | apply pw_below_drewN | apply below_drew1) | exact HB.out))) : w.heap.size ≤ gb103)); clear HB; have HB := n0_; have BK103 := n1_; have GW103 := n2_; have GE103 := n3_; clear n0_ n1_ n2_ n3_; clear hb hbox hg; have hcz13_0 : w12.cell? ⟨gb103, 0, none⟩ = some (.int .i64 0) := (blk_cell BK103.out 0).trans rfl; have hcz13_1 : w12.cell? ⟨gb103, 1, none⟩ = some (.int .i64 0) := (blk_cell BK103.out 1).trans rfl; have hcz13_2 : w12.cell? ⟨gb103, 2, none⟩ = some (.int .i64 0) := (blk_cell BK103.out 2).trans rfl; have hfz13_0 := blk_frozen BK103.out 0; have hfz13_1 := blk_frozen BK103.out 1; have hfz13_2 := blk_frozen BK103.out 2))
                  (try simp only [Act.put, List.setIfInBounds_toArray, List.set_cons_zero, List.set_cons_succ])
                  go_cut [37] (fun v37 wc => ∃ (kq : Nat) (x37_10 : Bool), v37 = .bool x37_10 ∧ Aside0 (impl_ValueInDiagram.j2 kq l0 a1 x5_2 x37_10 ((rd_T49 l0 x5_2).f0) ((rd_T49 l0 x5_2).f1) ((rd_T49 l0 x5_2).f2) = some r) ∧ Aside0 (kq ≤ k2) ∧ Aside0 (wc.heap[gb103]? = some (.cells #[.int .i64 ((rd_T49 l0 x5_2).f0), .int .i64 ((rd_T49 l0 x5_2).f1), .int .i64 ((rd_T49 l0 x5_2).f2)] 49 (0, 0))) ∧ Aside0 (Below w.heap.size w wc))
                  case first =>
                    have H := HC11.out
                    clear HC11
                    by_cases c14 : ((rd_T49 l0 x5_2).f0) < 0
                    · rw [if_pos c14] at H
                      have c14b0 : decide (((rd_T49 l0 x5_2).f0) < 0) = true := decide_eq_true c14
                      clear c14
                      (first | rw [c14b0] | (simp only [i64_w, i32_w]; rw [c14b0]) | skip)
                      have H' := Aside0.mk H
                      clear H
                      have hcz15_0 : w12.cell? ⟨gb103, 0, none⟩ = some (.int .i64 0) := (blk_cell BK103.out 0).trans rfl
                      have hcz15_1 : w12.cell? ⟨gb103, 1, none⟩ = some (.int .i64 0) := (blk_cell BK103.out 1).trans rfl
                      have hcz15_2 : w12.cell? ⟨gb103, 2, none⟩ = some (.int .i64 0) := (blk_cell BK103.out 2).trans rfl
                      have hfz15_0 := blk_frozen BK103.out 0
                      have hfz15_1 := blk_frozen BK103.out 1
                      have hfz15_2 := blk_frozen BK103.out 2
                      go_wp2
                      go_meet
                      case rel => exact ⟨_, (true), (by first | rfl | (simp; done) | (simp [*]; done)), H', ⟨by have := HJ2.out; have := HK2.out; first | omega | exact Nat.le_refl _⟩, ⟨by (with_reducible repeat (first | refine blk_drewN ?_ _ | refine blk_drew ?_ | refine blk_alloc ?_ _)); refine blk_put (cs := #[.int .i64 ((rd_T49 l0 x5_2).f0), .int .i64 ((rd_T49 l0 x5_2).f1), .int .i64 0]) ?_ 2 _ rfl; (with_reducible repeat (first | refine blk_drewN ?_ _ | refine blk_drew ?_ | refine blk_alloc ?_ _)); refine blk_put (cs := #[.int .i64 ((rd_T49 l0 x5_2).f0), .int .i64 0, .int .i64 0]) ?_ 1 _ rfl; (with_reducible repeat (first | refine blk_drewN ?_ _ | refine blk_drew ?_ | refine blk_alloc ?_ _)); refine blk_put (cs := #[.int .i64 0, .int .i64 0, .int .i64 0]) ?_ 0 _ rfl; (with_reducible repeat (first | refine blk_drewN ?_ _ | refine blk_drew ?_ | refine blk_alloc ?_ _)); exact BK103.out⟩, ⟨by repeat (first | (with_reducible first | exact HB.out | apply below_alloc | apply pw_below_drewN | apply below_drew1 | refine below_set ?_ GE103.out) | exact HB.out)⟩⟩
                    · rw [if_neg c14] at H
                      have c14b0 : decide (((rd_T49 l0 x5_2).f0) < 0) = false := decide_eq_false c14
                      clear c14
                      (first | rw [c14b0] | (simp only [i64_w, i32_w]; rw [c14b0]) | skip)
                      have H' := Aside0.mk H
                      clear H
                      have hcz16_0 : w12.cell? ⟨gb103, 0, none⟩ = some (.int .i64 0) := (blk_cell BK103.out 0).trans rfl
                      have hcz16_1 : w12.cell? ⟨gb103, 1, none⟩ = some (.int .i64 0) := (blk_cell BK103.out 1).trans rfl
                      have hcz16_2 : w12.cell? ⟨gb103, 2, none⟩ = some (.int .i64 0) := (blk_cell BK103.out 2).trans rfl
                      have hfz16_0 := blk_frozen BK103.out 0
                      have hfz16_1 := blk_frozen BK103.out 1
                      have hfz16_2 := blk_frozen BK103.out 2
                      go_wp2
                      go_meet
                      case rel => exact ⟨_, (decide (((rd_T49 l0 x5_2).f0) ≥ 5)), (by first | rfl | (simp; done) | (simp [*]; done)), H', ⟨by have := HJ2.out; have := HK2.out; first | omega | exact Nat.le_refl _⟩, ⟨by (with_reducible repeat (first | refine blk_drewN ?_ _ | refine blk_drew ?_ | refine blk_alloc ?_ _)); refine blk_put (cs := #[.int .i64 ((rd_T49 l0 x5_2).f0), .int .i64 ((rd_T49 l0 x5_2).f1), .int .i64 0]) ?_ 2 _ rfl; (with_reducible repeat (first | refine blk_drewN ?_ _ | refine blk_drew ?_ | refine blk_alloc ?_ _)); refine blk_put (cs := #[.int .i64 ((rd_T49 l0 x5_2).f0), .int .i64 0, .int .i64 0]) ?_ 1 _ rfl; (with_reducible repeat (first | refine blk_drewN ?_ _ | refine blk_drew ?_ | refine blk_alloc ?_ _)); refine blk_put (cs := #[.int .i64 0, .int .i64 0, .int .i64 0]) ?_ 0 _ rfl; (with_reducible repeat (first | refine blk_drewN ?_ _ | refine blk_drew ?_ | refine blk_alloc ?_ _)); exact BK103.out⟩, ⟨by repeat (first | (with_reducible first | exact HB.out | apply below_alloc | apply pw_below_drewN | apply below_drew1 | refine below_set ?_ GE103.out) | exact HB.out)⟩⟩
                  case rest =>
                    clear HC11
                    try clear c1
                    try clear p1
                    try clear q1
                    try clear hx1
                    try clear p2
                    try clear c4
                    try clear c4b0
                    try clear c4b1
                    try clear c5
                    try clear c5b0
                    try clear c5b1
                    try clear p6
                    try clear c7
                    try clear c8
                    try clear c8b0
                    try clear c9
                    try clear c9b0
                    try clear c10
                    try clear c10b0
                    try clear p10
                    try clear q10
                    try clear hx10
                    try clear c12
                    try clear c14
                    try clear c14b0
                    try clear hcz13_0
                    try clear hcz13_1
                    try clear hcz13_2
                    try clear hcz15_0
                    try clear hcz15_1
                    try clear hcz15_2
                    try clear hcz16_0
                    try clear hcz16_1
                    try clear hcz16_2
                    try clear hfz13_0
                    try clear hfz13_1
                    try clear hfz13_2
                    try clear hfz15_0
                    try clear hfz15_1
                    try clear hfz15_2
                    try clear hfz16_0
                    try clear hfz16_1
                    try clear hfz16_2
                    try clear hx102_0
                    try clear hx102_1
                    try clear hx102_2
                    try clear p102
                    try clear p2
                    try clear p6
                    try clear q102
                    obtain ⟨kq, x37_10, rfl, HA, HJ10, BK103, HB⟩ := hcut
                    cases kq with
                    | zero => exact absurd HA.out (by simp [impl_ValueInDiagram.j2])
                    | succ kj10 =>
                      have H := HA.out
                      clear HA
                      simp only [impl_ValueInDiagram.j2] at H
                      by_cases c17 : x37_10 = true
                      · subst c17
                        have H1 : (some (-1)) = some r := by rw [if_pos rfl] at H; exact H
                        clear H
                        have H := H1
                        clear H1
                        obtain rfl := Option.some.inj H
                        go_wp2
                        go_ret
                        exact ⟨by first | rfl | (simp [errW_none, errW_some] <;> rfl) | (simp [*, errW_none, errW_some] <;> rfl), by repeat (first | (with_reducible first | exact HB.out | apply below_alloc | apply pw_below_drewN | apply below_drew1 | refine below_set ?_ GE103.out) | exact HB.out)⟩
                      · replace c17 := Bool.eq_false_iff.mpr c17
                        subst c17
                        have H1 : (if 0 ≤ ((rd_T49 l0 x5_2).f0) then (if (Go.bits .and .i64 (shr .i64 a1 ((rd_T49 l0 x5_2).f0)) 1) = 1 then (if ((rd_T49 l0 x5_2).f2) < (-2) then (some (-1)) else (if ((rd_T49 l0 x5_2).f2) ≥ x5_2 then (some (-1)) else (impl_ValueInDiagram.l0 kj10 l0 a1 ((rd_T49 l0 x5_2).f2)))) else (if ((rd_T49 l0 x5_2).f1) < (-2) then (some (-1)) else (if ((rd_T49 l0 x5_2).f1) ≥ x5_2 then (some (-1)) else (impl_ValueInDiagram.l0 kj10 l0 a1 ((rd_T49 l0 x5_2).f1))))) else (none)) = some r := by rw [if_neg (show ¬ (false = true) by decide)] at H; exact H
                        clear H
                        have H := H1
                        clear H1
                        by_cases c18 : 0 ≤ ((rd_T49 l0 x5_2).f0)
                        · rw [if_pos c18] at H
                          have c18b0 := eq_true c18
                          have c18b1 : decide (0 ≤ ((rd_T49 l0 x5_2).f0)) = true := decide_eq_true c18
                          clear c18
                          obtain ⟨ji19, hji19⟩ : ∃ j_ : Int, (shr .i64 a1 ((rd_T49 l0 x5_2).f0)) = j_ := ⟨_, rfl⟩
                          replace H : (if (Go.bits .and .i64 (ji19) 1) = 1 then (if ((rd_T49 l0 x5_2).f2) < (-2) then (some (-1)) else (if ((rd_T49 l0 x5_2).f2) ≥ x5_2 then (some (-1)) else (impl_ValueInDiagram.l0 kj10 l0 a1 ((rd_T49 l0 x5_2).f2)))) else (if ((rd_T49 l0 x5_2).f1) < (-2) then (some (-1)) else (if ((rd_T49 l0 x5_2).f1) ≥ x5_2 then (some (-1)) else (impl_ValueInDiagram.l0 kj10 l0 a1 ((rd_T49 l0 x5_2).f1))))) = some r := by first | (rw [hji19] at H; exact H) | (simp only [hji19] at H ⊢; exact H)
                          have hji19_ : (a1 / 2 ^ min ((rd_T49 l0 x5_2).f0).toNat 64) = ji19 := hji19
                          have hji19z : ((rd_T49 l0 x5_2).f0) ≤ 64 → (a1 / 2 ^ ((rd_T49 l0 x5_2).f0).toNat) = ji19 := shr_small hji19
                          by_cases c20 : (Go.bits .and .i64 (ji19) 1) = 1
                          · rw [if_pos c20] at H
                            have c20b0 : ((Go.bits .and .i64 (ji19) 1) == 1) = true := beq_iff_eq.mpr c20
                            have c20b1 : ((Go.bits .and .i64 (ji19) 1) != 1) = false := bne_eq_false_iff_eq.mpr c20
                            clear c20
                            by_cases c21 : ((rd_T49 l0 x5_2).f2) < (-2)
                            · rw [if_pos c21] at H
                              have c21b0 : decide (((rd_T49 l0 x5_2).f2) < (-2)) = true := decide_eq_true c21
                              clear c21
                              obtain rfl := Option.some.inj H
                              have hcz22_0 : wc.cell? ⟨gb103, 0, none⟩ = some (.int .i64 ((rd_T49 l0 x5_2).f0)) := (blk_cell BK103.out 0).trans rfl
                              have hcz22_1 : wc.cell? ⟨gb103, 1, none⟩ = some (.int .i64 ((rd_T49 l0 x5_2).f1)) := (blk_cell BK103.out 1).trans rfl
                              have hcz22_2 : wc.cell? ⟨gb103, 2, none⟩ = some (.int .i64 ((rd_T49 l0 x5_2).f2)) := (blk_cell BK103.out 2).trans rfl
                              have hfz22_0 := blk_frozen BK103.out 0
                              have hfz22_1 := blk_frozen BK103.out 1
                              have hfz22_2 := blk_frozen BK103.out 2
                              go_wp2
                              go_ret
                              exact ⟨by first | rfl | (simp [errW_none, errW_some] <;> rfl) | (simp only [← hji19]; first | rfl | (simp [errW_none, errW_some] <;> rfl)) | (simp [*, errW_none, errW_some] <;> rfl), by repeat (first | (with_reducible first | exact HB.out | apply below_alloc | apply pw_below_drewN | apply below_drew1 | refine below_set ?_ GE103.out) | exact HB.out)⟩
                            · rw [if_neg c21] at H
                              have c21b0 : decide (((rd_T49 l0 x5_2).f2) < (-2)) = false := decide_eq_false c21
                              clear c21
                              by_cases c23 : ((rd_T49 l0 x5_2).f2) ≥ x5_2
                              · rw [if_pos c23] at H
                                have c23b0 : decide (x5_2 ≤ ((rd_T49 l0 x5_2).f2)) = true := decide_eq_true c23
                                clear c23
                                obtain rfl := Option.some.inj H
                                have hcz24_0 : wc.cell? ⟨gb103, 0, none⟩ = some (.int .i64 ((rd_T49 l0 x5_2).f0)) := (blk_cell BK103.out 0).trans rfl
                                have hcz24_1 : wc.cell? ⟨gb103, 1, none⟩ = some (.int .i64 ((rd_T49 l0 x5_2).f1)) := (blk_cell BK103.out 1).trans rfl
                                have hcz24_2 : wc.cell? ⟨gb103, 2, none⟩ = some (.int .i64 ((rd_T49 l0 x5_2).f2)) := (blk_cell BK103.out 2).trans rfl
                                have hfz24_0 := blk_frozen BK103.out 0
                                have hfz24_1 := blk_frozen BK103.out 1
                                have hfz24_2 := blk_frozen BK103.out 2
                                go_wp2
                                go_ret
                                exact ⟨by first | rfl | (simp [errW_none, errW_some] <;> rfl) | (simp only [← hji19]; first | rfl | (simp [errW_none, errW_some] <;> rfl)) | (simp [*, errW_none, errW_some] <;> rfl), by repeat (first | (with_reducible first | exact HB.out | apply below_alloc | apply pw_below_drewN | apply below_drew1 | refine below_set ?_ GE103.out) | exact HB.out)⟩
                              · rw [if_neg c23] at H
                                have c23b0 : decide (x5_2 ≤ ((rd_T49 l0 x5_2).f2)) = false := decide_eq_false c23
                                clear c23
                                have H' := Aside0.mk H
                                clear H
                                have hcz25_0 : wc.cell? ⟨gb103, 0, none⟩ = some (.int .i64 ((rd_T49 l0 x5_2).f0)) := (blk_cell BK103.out 0).trans rfl
                                have hcz25_1 : wc.cell? ⟨gb103, 1, none⟩ = some (.int .i64 ((rd_T49 l0 x5_2).f1)) := (blk_cell BK103.out 1).trans rfl
                                have hcz25_2 : wc.cell? ⟨gb103, 2, none⟩ = some (.int .i64 ((rd_T49 l0 x5_2).f2)) := (blk_cell BK103.out 2).trans rfl
                                have hfz25_0 := blk_frozen BK103.out 0
                                have hfz25_1 := blk_frozen BK103.out 1
                                have hfz25_2 := blk_frozen BK103.out 2
                                go_wp2
                                go_roundg kj10
                                case measure => have := HJ2.out; have := HK2.out; have := HJ10.out; omega
                                case rel => exact ⟨(((rd_T49 l0 x5_2).f2)), (by first | rfl | (simp; done) | (simp [*]; done)), H', ⟨by have := HJ2.out; have := HK2.out; have := HJ10.out; omega⟩, ⟨by repeat (first | (with_reducible first | exact HB.out | apply below_alloc | apply pw_below_drewN | apply below_drew1 | refine below_set ?_ GE103.out) | exact HB.out)⟩⟩
                          · rw [if_neg c20] at H
                            have c20b0 : ((Go.bits .and .i64 (ji19) 1) == 1) = false := beq_eq_false_iff_ne.mpr c20
                            have c20b1 : ((Go.bits .and .i64 (ji19) 1) != 1) = true := bne_iff_ne.mpr c20
                            by_cases c26 : ((rd_T49 l0 x5_2).f1) < (-2)
                            · rw [if_pos c26] at H
                              have c26b0 : decide (((rd_T49 l0 x5_2).f1) < (-2)) = true := decide_eq_true c26
                              clear c26
                              obtain rfl := Option.some.inj H
                              have hcz27_0 : wc.cell? ⟨gb103, 0, none⟩ = some (.int .i64 ((rd_T49 l0 x5_2).f0)) := (blk_cell BK103.out 0).trans rfl
                              have hcz27_1 : wc.cell? ⟨gb103, 1, none⟩ = some (.int .i64 ((rd_T49 l0 x5_2).f1)) := (blk_cell BK103.out 1).trans rfl
                              have hcz27_2 : wc.cell? ⟨gb103, 2, none⟩ = some (.int .i64 ((rd_T49 l0 x5_2).f2)) := (blk_cell BK103.out 2).trans rfl
                              have hfz27_0 := blk_frozen BK103.out 0
                              have hfz27_1 := blk_frozen BK103.out 1
                              have hfz27_2 := blk_frozen BK103.out 2
                              go_wp2
                              go_ret
                              exact ⟨by first | rfl | (simp [errW_none, errW_some] <;> rfl) | (simp only [← hji19]; first | rfl | (simp [errW_none, errW_some] <;> rfl)) | (simp [*, errW_none, errW_some] <;> rfl), by repeat (first | (with_reducible first | exact HB.out | apply below_alloc | apply pw_below_drewN | apply below_drew1 | refine below_set ?_ GE103.out) | exact HB.out)⟩
                            · rw [if_neg c26] at H
                              have c26b0 : decide (((rd_T49 l0 x5_2).f1) < (-2)) = false := decide_eq_false c26
                              clear c26
                              by_cases c28 : ((rd_T49 l0 x5_2).f1) ≥ x5_2
                              · rw [if_pos c28] at H
                                have c28b0 : decide (x5_2 ≤ ((rd_T49 l0 x5_2).f1)) = true := decide_eq_true c28
                                clear c28
                                obtain rfl := Option.some.inj H
                                have hcz29_0 : wc.cell? ⟨gb103, 0, none⟩ = some (.int .i64 ((rd_T49 l0 x5_2).f0)) := (blk_cell BK103.out 0).trans rfl
                                have hcz29_1 : wc.cell? ⟨gb103, 1, none⟩ = some (.int .i64 ((rd_T49 l0 x5_2).f1)) := (blk_cell BK103.out 1).trans rfl
                                have hcz29_2 : wc.cell? ⟨gb103, 2, none⟩ = some (.int .i64 ((rd_T49 l0 x5_2).f2)) := (blk_cell BK103.out 2).trans rfl
                                have hfz29_0 := blk_frozen BK103.out 0
                                have hfz29_1 := blk_frozen BK103.out 1
                                have hfz29_2 := blk_frozen BK103.out 2
                                go_wp2
                                go_ret
                                exact ⟨by first | rfl | (simp [errW_none, errW_some] <;> rfl) | (simp only [← hji19]; first | rfl | (simp [errW_none, errW_some] <;> rfl)) | (simp [*, errW_none, errW_some] <;> rfl), by repeat (first | (with_reducible first | exact HB.out | apply below_alloc | apply pw_below_drewN | apply below_drew1 | refine below_set ?_ GE103.out) | exact HB.out)⟩
                              · rw [if_neg c28] at H
                                have c28b0 : decide (x5_2 ≤ ((rd_T49 l0 x5_2).f1)) = false := decide_eq_false c28
                                clear c28
                                have H' := Aside0.mk H
                                clear H
                                have hcz30_0 : wc.cell? ⟨gb103, 0, none⟩ = some (.int .i64 ((rd_T49 l0 x5_2).f0)) := (blk_cell BK103.out 0).trans rfl
                                have hcz30_1 : wc.cell? ⟨gb103, 1, none⟩ = some (.int .i64 ((rd_T49 l0 x5_2).f1)) := (blk_cell BK103.out 1).trans rfl
                                have hcz30_2 : wc.cell? ⟨gb103, 2, none⟩ = some (.int .i64 ((rd_T49 l0 x5_2).f2)) := (blk_cell BK103.out 2).trans rfl
                                have hfz30_0 := blk_frozen BK103.out 0
                                have hfz30_1 := blk_frozen BK103.out 1
                                have hfz30_2 := blk_frozen BK103.out 2
                                go_wp2
                                go_roundg kj10
                                case measure => have := HJ2.out; have := HK2.out; have := HJ10.out; omega
                                case rel => exact ⟨(((rd_T49 l0 x5_2).f1)), (by first | rfl | (simp; done) | (simp [*]; done)), H', ⟨by have := HJ2.out; have := HK2.out; have := HJ10.out; omega⟩, ⟨by repeat (first | (with_reducible first | exact HB.out | apply below_alloc | apply pw_below_drewN | apply below_drew1 | refine below_set ?_ GE103.out) | exact HB.out)⟩⟩
                        · rw [if_neg c18] at H
                          exact absurd H (by simp)
                · rw [if_neg c10] at H
                  exact absurd H (by simp)
              · rw [if_neg c9] at H
                exact absurd H (by simp)
            · rw [if_neg c8] at H
              have c8b0 : decide (0 ≤ x5_2) = false := decide_eq_false c8
              clear c8
              obtain rfl := Option.some.inj H
              go_wp2
              go_ret
              exact ⟨by first | rfl | (simp [errW_none, errW_some] <;> rfl) | (simp [*, errW_none, errW_some] <;> rfl), by repeat (first | (with_reducible first | exact HB.out | apply below_alloc | apply pw_below_drewN | apply below_drew1) | exact HB.out)⟩

end Go.Proofs.Ytpbdjpbkocdidaa.F
