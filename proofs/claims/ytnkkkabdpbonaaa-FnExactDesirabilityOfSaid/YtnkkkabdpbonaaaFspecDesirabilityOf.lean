/- The walk of one Go function: a call of it ends as the Lean function of its name tells; the conditions are those of each theorem. -/
import Derived.Test.YtnkkkabdpbonaaaF0
import Derived.Test.YtnkkkabdpbonaaaFGa
import Derived.Test.YtnkkkabdpbonaaaFGc
namespace Go.Proofs.Ytnkkkabdpbonaaa.F
open Go.RowKit Go.Proofs.YtnkkkabdpbonaaaW.PrintWords Go.Proofs.YtnkkkabdpbonaaaW.PrintLast Go.Proofs.YtnkkkabdpbonaaaW.PrintMore
attribute [local go_sem] max2_int min2_int max_two min_two max_three min_three max_four min_four   -- for this text's walks alone
set_option linter.unusedVariables false
set_option linter.unusedSimpArgs false

/-! ### spec_DesirabilityOf: function 55 -/
mutual
def spec_DesirabilityOf.j0 : Nat → Int → Int → Bool → Int → Int → Option (Int)
  | 0, _, _, _, _, _ => none
  | k + 1, x1, x2, x30, x102000, x102001 => if x30 = true then (some (-2)) else (spec_DesirabilityOf.l0 k x1 x2 true true 0 x102000 x102001)
def spec_DesirabilityOf.l0 : Nat → Int → Int → Bool → Bool → Int → Int → Int → Option (Int)
  | 0, _, _, _, _, _, _, _ => none
  | k + 1, x1, x2, x7, x8, x9, x102000, x102001 => if 0 ≤ x102000 then (if x9 < (shl .i64 1 x102000) then (if 0 ≤ x1 then (if (Go.bits .and .i64 (shr .i64 x9 x1) 1) = 1 then (spec_DesirabilityOf.l0 k x1 x2 x7 x8 (wrap64 (x9 + 1)) x102000 x102001) else (if 0 ≤ x2 then (if (Go.bits .and .i64 (shr .i64 x9 x2) 1) = 1 then (spec_DesirabilityOf.l0 k x1 x2 x7 x8 (wrap64 (x9 + 1)) x102000 x102001) else (if 0 ≤ (Go.bits .or .i64 x9 (shl .i64 1 x1)) then (if 0 ≤ (Go.bits .or .i64 x9 (shl .i64 1 x2)) then (if x7 = true then (if x8 = true then (spec_DesirabilityOf.l0 k x1 x2 (decide ((Go.bits .and .i64 (shr .i64 x102001 (Go.bits .or .i64 x9 (shl .i64 1 x1))) 1) ≥ (Go.bits .and .i64 (shr .i64 x102001 (Go.bits .or .i64 x9 (shl .i64 1 x2))) 1))) (decide ((Go.bits .and .i64 (shr .i64 x102001 (Go.bits .or .i64 x9 (shl .i64 1 x2))) 1) ≥ (Go.bits .and .i64 (shr .i64 x102001 (Go.bits .or .i64 x9 (shl .i64 1 x1))) 1))) (wrap64 (x9 + 1)) x102000 x102001) else (spec_DesirabilityOf.l0 k x1 x2 (decide ((Go.bits .and .i64 (shr .i64 x102001 (Go.bits .or .i64 x9 (shl .i64 1 x1))) 1) ≥ (Go.bits .and .i64 (shr .i64 x102001 (Go.bits .or .i64 x9 (shl .i64 1 x2))) 1))) false (wrap64 (x9 + 1)) x102000 x102001)) else (if x8 = true then (spec_DesirabilityOf.l0 k x1 x2 false (decide ((Go.bits .and .i64 (shr .i64 x102001 (Go.bits .or .i64 x9 (shl .i64 1 x2))) 1) ≥ (Go.bits .and .i64 (shr .i64 x102001 (Go.bits .or .i64 x9 (shl .i64 1 x1))) 1))) (wrap64 (x9 + 1)) x102000 x102001) else (spec_DesirabilityOf.l0 k x1 x2 false false (wrap64 (x9 + 1)) x102000 x102001))) else (none)) else (none))) else (none))) else (none)) else (if x7 = true then (spec_DesirabilityOf.j2 k x7 x8 x8) else (spec_DesirabilityOf.j2 k x7 x8 false))) else (none)
def spec_DesirabilityOf.j2 : Nat → Bool → Bool → Bool → Option (Int)
  | 0, _, _, _ => none
  | k + 1, x7, x8, x78 => if x78 = true then (some 0) else (if x7 = true then (some 1) else (if x8 = true then (some (-1)) else (some 2)))
end
def spec_DesirabilityOf.f (k : Nat) (a0_0 : Int) (a0_1 : Int) (a1 : Int) (a2 : Int) : Option (Int) := (spec_IsSimpleGame.f k a0_0 a0_1).bind fun t102 => (if t102 = true then ((spec_l1In.f a1 0 (wrap64 (a0_0 - 1))).bind fun t103 => (if t103 = true then ((spec_l1In.f a2 0 (wrap64 (a0_0 - 1))).bind fun t104 => (spec_DesirabilityOf.j0 k a1 a2 (!t104) a0_0 a0_1)) else (spec_DesirabilityOf.j0 k a1 a2 true a0_0 a0_1))) else (spec_DesirabilityOf.j0 k a1 a2 true a0_0 a0_1))
theorem spec_DesirabilityOf.mono_l : ∀ k, (∀ y0 y1 y2 y3 y4, LeO (spec_DesirabilityOf.j0 k y0 y1 y2 y3 y4) (spec_DesirabilityOf.j0 (k + 1) y0 y1 y2 y3 y4)) ∧ (∀ y0 y1 y2 y3 y4 y5 y6, LeO (spec_DesirabilityOf.l0 k y0 y1 y2 y3 y4 y5 y6) (spec_DesirabilityOf.l0 (k + 1) y0 y1 y2 y3 y4 y5 y6)) ∧ (∀ y0 y1 y2, LeO (spec_DesirabilityOf.j2 k y0 y1 y2) (spec_DesirabilityOf.j2 (k + 1) y0 y1 y2))
  | 0 => ⟨fun _ _ _ _ _ r h => by simp [spec_DesirabilityOf.j0] at h, fun _ _ _ _ _ _ _ r h => by simp [spec_DesirabilityOf.l0] at h, fun _ _ _ r h => by simp [spec_DesirabilityOf.j2] at h⟩
  | k + 1 => by
    obtain ⟨ih0, ih1, ih2⟩ := spec_DesirabilityOf.mono_l k
    refine ⟨?_, ?_, ?_⟩
    · intro y0 y1 y2 y3 y4
      unfold spec_DesirabilityOf.j0
      repeat' first
      | (with_reducible exact ih0 _ _ _ _ _)
      | (with_reducible exact ih1 _ _ _ _ _ _ _)
      | (with_reducible exact ih2 _ _ _)
      | (with_reducible exact spec_IsSimpleGame.mono _ _ _)
      | (with_reducible exact LeO.refl _)
      | (with_reducible exact LeO.none _)
      | (with_reducible refine LeO.ite ?_ ?_)
      | (with_reducible refine LeO.bind ?_ (fun _ => ?_))
      | exact ih0 _ _ _ _ _
      | exact ih1 _ _ _ _ _ _ _
      | exact ih2 _ _ _
      | exact spec_IsSimpleGame.mono _ _ _
      | exact LeO.none _
      | refine LeO.ite ?_ ?_
      | refine LeO.bind ?_ (fun _ => ?_)
    · intro y0 y1 y2 y3 y4 y5 y6
      unfold spec_DesirabilityOf.l0
      repeat' first
      | (with_reducible exact ih0 _ _ _ _ _)
      | (with_reducible exact ih1 _ _ _ _ _ _ _)
      | (with_reducible exact ih2 _ _ _)
      | (with_reducible exact spec_IsSimpleGame.mono _ _ _)
      | (with_reducible exact LeO.refl _)
      | (with_reducible exact LeO.none _)
      | (with_reducible refine LeO.ite ?_ ?_)
      | (with_reducible refine LeO.bind ?_ (fun _ => ?_))
      | exact ih0 _ _ _ _ _
      | exact ih1 _ _ _ _ _ _ _
      | exact ih2 _ _ _
      | exact spec_IsSimpleGame.mono _ _ _
      | exact LeO.none _
      | refine LeO.ite ?_ ?_
      | refine LeO.bind ?_ (fun _ => ?_)
    · intro y0 y1 y2
      unfold spec_DesirabilityOf.j2
      repeat' first
      | (with_reducible exact ih0 _ _ _ _ _)
      | (with_reducible exact ih1 _ _ _ _ _ _ _)
      | (with_reducible exact ih2 _ _ _)
      | (with_reducible exact spec_IsSimpleGame.mono _ _ _)
      | (with_reducible exact LeO.refl _)
      | (with_reducible exact LeO.none _)
      | (with_reducible refine LeO.ite ?_ ?_)
      | (with_reducible refine LeO.bind ?_ (fun _ => ?_))
      | exact ih0 _ _ _ _ _
      | exact ih1 _ _ _ _ _ _ _
      | exact ih2 _ _ _
      | exact spec_IsSimpleGame.mono _ _ _
      | exact LeO.none _
      | refine LeO.ite ?_ ?_
      | refine LeO.bind ?_ (fun _ => ?_)
theorem spec_DesirabilityOf.mono : ∀ a0 a1 a2 a3 k, LeO (spec_DesirabilityOf.f k a0 a1 a2 a3) (spec_DesirabilityOf.f (k + 1) a0 a1 a2 a3) := by
  intro a0 a1 a2 a3 k
  obtain ⟨ih0, ih1, ih2⟩ := spec_DesirabilityOf.mono_l k
  unfold spec_DesirabilityOf.f
  repeat' first
      | (with_reducible exact ih0 _ _ _ _ _)
      | (with_reducible exact ih1 _ _ _ _ _ _ _)
      | (with_reducible exact ih2 _ _ _)
      | (with_reducible exact spec_IsSimpleGame.mono _ _ _)
      | (with_reducible exact LeO.refl _)
      | (with_reducible exact LeO.none _)
      | (with_reducible refine LeO.ite ?_ ?_)
      | (with_reducible refine LeO.bind ?_ (fun _ => ?_))
      | exact ih0 _ _ _ _ _
      | exact ih1 _ _ _ _ _ _ _
      | exact ih2 _ _ _
      | exact spec_IsSimpleGame.mono _ _ _
      | exact LeO.none _
      | refine LeO.ite ?_ ?_
      | refine LeO.bind ?_ (fun _ => ?_)
set_option maxHeartbeats 8000000 in
set_option maxRecDepth 100000 in
theorem spec_DesirabilityOf.calls (k : Nat) (a0_0 : Int) (a0_1 : Int) (a1 : Int) (a2 : Int) (r : Int) (w : World) (h : spec_DesirabilityOf.f k a0_0 a0_1 a1 a2 = some r) :
    Calls Try.prog 55 #[.agg #[.int .i64 a0_0, .int .i64 a0_1], .int .i64 a1, .int .i64 a2] w fun e w' => e = .returned (.int .i64 r) ∧ Below w.heap.size w w' := by
  have hu25 := Try.underlying25
  have HB := Aside0.mk (Below.refl w.heap.size w)
  have H : ((spec_IsSimpleGame.f k a0_0 a0_1).bind fun t102 => (if t102 = true then ((spec_l1In.f a1 0 (wrap64 (a0_0 - 1))).bind fun t103 => (if t103 = true then ((spec_l1In.f a2 0 (wrap64 (a0_0 - 1))).bind fun t104 => (spec_DesirabilityOf.j0 k a1 a2 (!t104) a0_0 a0_1)) else (spec_DesirabilityOf.j0 k a1 a2 true a0_0 a0_1))) else (spec_DesirabilityOf.j0 k a1 a2 true a0_0 a0_1))) = some r := h
  clear h
  have HC4 := Aside0.mk H
  clear H
  go_enter Try.func55, Try.ntmps55
  go_upto_region 1 with (first | ((with_reducible refine gate_dst (N := 3) rfl ?_); refine box_event ?hg (N := 3) ?hd (cs := #[.int .i64 a0_0, .int .i64 a0_1]) (t := 25) ?hr ?_; (case hd => rfl); (case hg => rfl); (case hr => first | (go_simp; done) | (go_simp; rfl)); intro gb101 hg w5 hbox hb; have n0_ := Aside0.mk (below_step (by repeat (first | (with_reducible first | exact HB.out | apply below_alloc | apply pw_below_drewN | apply below_drew1) | exact HB.out)) hb); have n1_ := Aside0.mk (hbox); have n2_ := Aside0.mk ((by rw [hg]; exact (below_size (by repeat (first | (with_reducible first | exact HB.out | apply below_alloc | apply pw_below_drewN | apply below_drew1) | exact HB.out))) : w.heap.size ≤ gb101)); have n3_ := Aside0.mk ((by rw [hg]; exact (below_size (by repeat (first | (with_reducible first | exact HB.out | apply below_alloc | apply pw_below_drewN | apply below_drew1) | exact HB.out))) : w.heap.size ≤ gb101)); clear HB; have HB := n0_; have BK101 := n1_; have GW101 := n2_; have GE101 := n3_; clear n0_ n1_ n2_ n3_; clear hb hbox hg))
  repeat (go_quiet (first | ((with_reducible refine gate_dst (N := 3) rfl ?_); refine box_event ?hg (N := 3) ?hd (cs := #[.int .i64 a0_0, .int .i64 a0_1]) (t := 25) ?hr ?_; (case hd => rfl); (case hg => rfl); (case hr => first | (go_simp; done) | (go_simp; rfl)); intro gb101 hg w5 hbox hb; have n0_ := Aside0.mk (below_step (by repeat (first | (with_reducible first | exact HB.out | apply below_alloc | apply pw_below_drewN | apply below_drew1) | exact HB.out)) hb); have n1_ := Aside0.mk (hbox); have n2_ := Aside0.mk ((by rw [hg]; exact (below_size (by repeat (first | (with_reducible first | exact HB.out | apply below_alloc | apply pw_below_drewN | apply below_drew1) | exact HB.out))) : w.heap.size ≤ gb101)); have n3_ := Aside0.mk ((by rw [hg]; exact (below_size (by repeat (first | (with_reducible first | exact HB.out | apply below_alloc | apply pw_below_drewN | apply below_drew1) | exact HB.out))) : w.heap.size ≤ gb101)); clear HB; have HB := n0_; have BK101 := n1_; have GW101 := n2_; have GE101 := n3_; clear n0_ n1_ n2_ n3_; clear hb hbox hg)); go_upto_region 1 with (first | ((with_reducible refine gate_dst (N := 3) rfl ?_); refine box_event ?hg (N := 3) ?hd (cs := #[.int .i64 a0_0, .int .i64 a0_1]) (t := 25) ?hr ?_; (case hd => rfl); (case hg => rfl); (case hr => first | (go_simp; done) | (go_simp; rfl)); intro gb101 hg w5 hbox hb; have n0_ := Aside0.mk (below_step (by repeat (first | (with_reducible first | exact HB.out | apply below_alloc | apply pw_below_drewN | apply below_drew1) | exact HB.out)) hb); have n1_ := Aside0.mk (hbox); have n2_ := Aside0.mk ((by rw [hg]; exact (below_size (by repeat (first | (with_reducible first | exact HB.out | apply below_alloc | apply pw_below_drewN | apply below_drew1) | exact HB.out))) : w.heap.size ≤ gb101)); have n3_ := Aside0.mk ((by rw [hg]; exact (below_size (by repeat (first | (with_reducible first | exact HB.out | apply below_alloc | apply pw_below_drewN | apply below_drew1) | exact HB.out))) : w.heap.size ≤ gb101)); clear HB; have HB := n0_; have BK101 := n1_; have GW101 := n2_; have GE101 := n3_; clear n0_ n1_ n2_ n3_; clear hb hbox hg)))
  (try simp only [Act.put, List.setIfInBounds_toArray, List.set_cons_zero, List.set_cons_succ])
  go_cut [30] (fun v30 wc => ∃ (kq : Nat) (x30_3 : Bool), v30 = .bool x30_3 ∧ Aside0 (spec_DesirabilityOf.j0 kq a1 a2 x30_3 a0_0 a0_1 = some r) ∧ Aside0 (kq ≤ k) ∧ Aside0 (wc.heap[gb101]? = some (.cells #[.int .i64 a0_0, .int .i64 a0_1] 25 (0, 0))) ∧ Aside0 (Below w.heap.size w wc))
  case first =>
    have H := HC4.out
    clear HC4
    replace H := Option.bind_eq_some_iff.mp H
    obtain ⟨t102, A60, H⟩ := H
    replace H : (if t102 = true then ((spec_l1In.f a1 0 (wrap64 (a0_0 - 1))).bind fun t103 => (if t103 = true then ((spec_l1In.f a2 0 (wrap64 (a0_0 - 1))).bind fun t104 => (spec_DesirabilityOf.j0 k a1 a2 (!t104) a0_0 a0_1)) else (spec_DesirabilityOf.j0 k a1 a2 true a0_0 a0_1))) else (spec_DesirabilityOf.j0 k a1 a2 true a0_0 a0_1)) = some r := H
    have A6 := Aside0.mk A60
    clear A60
    by_cases c7 : t102 = true
    · subst c7
      have H1 : ((spec_l1In.f a1 0 (wrap64 (a0_0 - 1))).bind fun t103 => (if t103 = true then ((spec_l1In.f a2 0 (wrap64 (a0_0 - 1))).bind fun t104 => (spec_DesirabilityOf.j0 k a1 a2 (!t104) a0_0 a0_1)) else (spec_DesirabilityOf.j0 k a1 a2 true a0_0 a0_1))) = some r := by rw [if_pos rfl] at H; exact H
      clear H
      have H := H1
      clear H1
      replace H := Option.bind_eq_some_iff.mp H
      obtain ⟨t103, A80, H⟩ := H
      replace H : (if t103 = true then ((spec_l1In.f a2 0 (wrap64 (a0_0 - 1))).bind fun t104 => (spec_DesirabilityOf.j0 k a1 a2 (!t104) a0_0 a0_1)) else (spec_DesirabilityOf.j0 k a1 a2 true a0_0 a0_1)) = some r := H
      have A8 := Aside0.mk A80
      clear A80
      by_cases c9 : t103 = true
      · subst c9
        have H1 : ((spec_l1In.f a2 0 (wrap64 (a0_0 - 1))).bind fun t104 => (spec_DesirabilityOf.j0 k a1 a2 (!t104) a0_0 a0_1)) = some r := by rw [if_pos rfl] at H; exact H
        clear H
        have H := H1
        clear H1
        replace H := Option.bind_eq_some_iff.mp H
        obtain ⟨t104, A100, H⟩ := H
        replace H : (spec_DesirabilityOf.j0 k a1 a2 (!t104) a0_0 a0_1) = some r := H
        have A10 := Aside0.mk A100
        clear A100
        have H' := Aside0.mk H
        clear H
        have hcz11_0 : w5.cell? ⟨gb101, 0, none⟩ = some (.int .i64 a0_0) := (blk_cell BK101.out 0).trans rfl
        have hcz11_1 : w5.cell? ⟨gb101, 1, none⟩ = some (.int .i64 a0_1) := (blk_cell BK101.out 1).trans rfl
        have hfz11_0 := blk_frozen BK101.out 0
        have hfz11_1 := blk_frozen BK101.out 1
        go_wp2_with (first | (go_at_call 35; (with_reducible refine (spec_IsSimpleGame.calls k a0_0 a0_1 true _ A6.out).mono ?_); rintro e w12 ⟨rfl, hb⟩; have n0_ := Aside0.mk (blk_below (g := gb101) (o := .cells #[.int .i64 a0_0, .int .i64 a0_1] 25 (0, 0)) (by (with_reducible repeat (first | refine blk_drewN ?_ _ | refine blk_drew ?_ | refine blk_alloc ?_ _)); exact BK101.out) hb); have n1_ := Aside0.mk (below_step (by repeat (first | (with_reducible first | exact HB.out | apply below_alloc | apply pw_below_drewN | apply below_drew1 | refine below_set ?_ GE101.out) | exact HB.out)) hb); clear BK101; clear HB; have BK101 := n0_; have HB := n1_; clear n0_ n1_; (try clear hb); (try clear hb2); (try clear hk); (try clear hi); have hcz13_0 : w12.cell? ⟨gb101, 0, none⟩ = some (.int .i64 a0_0) := (blk_cell BK101.out 0).trans rfl; have hcz13_1 : w12.cell? ⟨gb101, 1, none⟩ = some (.int .i64 a0_1) := (blk_cell BK101.out 1).trans rfl; have hfz13_0 := blk_frozen BK101.out 0; have hfz13_1 := blk_frozen BK101.out 1) | (go_at_call 75; (with_reducible refine (spec_l1In.calls a1 0 (wrap64 (a0_0 - 1)) true _ A8.out).mono ?_); rintro e w' ⟨rfl, ⟨nd, rfl⟩⟩; (try first | exact ⟨rfl, _, World.drewN_drewN _ _ _⟩ | exact ⟨rfl, _, Eq.trans (World.drewN_drewN _ _ _) (congrArg (World.drewN _) (Nat.add_assoc _ _ _))⟩)) | (go_at_call 75; (with_reducible refine (spec_l1In.calls a2 0 (wrap64 (a0_0 - 1)) t104 _ A10.out).mono ?_); rintro e w' ⟨rfl, ⟨nd, rfl⟩⟩; (try first | exact ⟨rfl, _, World.drewN_drewN _ _ _⟩ | exact ⟨rfl, _, Eq.trans (World.drewN_drewN _ _ _) (congrArg (World.drewN _) (Nat.add_assoc _ _ _))⟩)))
        repeat (go_quiet (first | (go_at_call 35; (with_reducible refine (spec_IsSimpleGame.calls k a0_0 a0_1 true _ A6.out).mono ?_); rintro e w12 ⟨rfl, hb⟩; have n0_ := Aside0.mk (blk_below (g := gb101) (o := .cells #[.int .i64 a0_0, .int .i64 a0_1] 25 (0, 0)) (by (with_reducible repeat (first | refine blk_drewN ?_ _ | refine blk_drew ?_ | refine blk_alloc ?_ _)); exact BK101.out) hb); have n1_ := Aside0.mk (below_step (by repeat (first | (with_reducible first | exact HB.out | apply below_alloc | apply pw_below_drewN | apply below_drew1 | refine below_set ?_ GE101.out) | exact HB.out)) hb); clear BK101; clear HB; have BK101 := n0_; have HB := n1_; clear n0_ n1_; (try clear hb); (try clear hb2); (try clear hk); (try clear hi); have hcz13_0 : w12.cell? ⟨gb101, 0, none⟩ = some (.int .i64 a0_0) := (blk_cell BK101.out 0).trans rfl; have hcz13_1 : w12.cell? ⟨gb101, 1, none⟩ = some (.int .i64 a0_1) := (blk_cell BK101.out 1).trans rfl; have hfz13_0 := blk_frozen BK101.out 0; have hfz13_1 := blk_frozen BK101.out 1) | (go_at_call 75; (with_reducible refine (spec_l1In.calls a1 0 (wrap64 (a0_0 - 1)) true _ A8.out).mono ?_); rintro e w' ⟨rfl, ⟨nd, rfl⟩⟩; (try first | exact ⟨rfl, _, World.drewN_drewN _ _ _⟩ | exact ⟨rfl, _, Eq.trans (World.drewN_drewN _ _ _) (congrArg (World.drewN _) (Nat.add_assoc _ _ _))⟩)) | (go_at_call 75; (with_reducible refine (spec_l1In.calls a2 0 (wrap64 (a0_0 - 1)) t104 _ A10.out).mono ?_); rintro e w' ⟨rfl, ⟨nd, rfl⟩⟩; (try first | exact ⟨rfl, _, World.drewN_drewN _ _ _⟩ | exact ⟨rfl, _, Eq.trans (World.drewN_drewN _ _ _) (congrArg (World.drewN _) (Nat.add_assoc _ _ _))⟩))); try go_wp2_with (first | (go_at_call 35; (with_reducible refine (spec_IsSimpleGame.calls k a0_0 a0_1 true _ A6.out).mono ?_); rintro e w12 ⟨rfl, hb⟩; have n0_ := Aside0.mk (blk_below (g := gb101) (o := .cells #[.int .i64 a0_0, .int .i64 a0_1] 25 (0, 0)) (by (with_reducible repeat (first | refine blk_drewN ?_ _ | refine blk_drew ?_ | refine blk_alloc ?_ _)); exact BK101.out) hb); have n1_ := Aside0.mk (below_step (by repeat (first | (with_reducible first | exact HB.out | apply below_alloc | apply pw_below_drewN | apply below_drew1 | refine below_set ?_ GE101.out) | exact HB.out)) hb); clear BK101; clear HB; have BK101 := n0_; have HB := n1_; clear n0_ n1_; (try clear hb); (try clear hb2); (try clear hk); (try clear hi); have hcz13_0 : w12.cell? ⟨gb101, 0, none⟩ = some (.int .i64 a0_0) := (blk_cell BK101.out 0).trans rfl; have hcz13_1 : w12.cell? ⟨gb101, 1, none⟩ = some (.int .i64 a0_1) := (blk_cell BK101.out 1).trans rfl; have hfz13_0 := blk_frozen BK101.out 0; have hfz13_1 := blk_frozen BK101.out 1) | (go_at_call 75; (with_reducible refine (spec_l1In.calls a1 0 (wrap64 (a0_0 - 1)) true _ A8.out).mono ?_); rintro e w' ⟨rfl, ⟨nd, rfl⟩⟩; (try first | exact ⟨rfl, _, World.drewN_drewN _ _ _⟩ | exact ⟨rfl, _, Eq.trans (World.drewN_drewN _ _ _) (congrArg (World.drewN _) (Nat.add_assoc _ _ _))⟩)) | (go_at_call 75; (with_reducible refine (spec_l1In.calls a2 0 (wrap64 (a0_0 - 1)) t104 _ A10.out).mono ?_); rintro e w' ⟨rfl, ⟨nd, rfl⟩⟩; (try first | exact ⟨rfl, _, World.drewN_drewN _ _ _⟩ | exact ⟨rfl, _, Eq.trans (World.drewN_drewN _ _ _) (congrArg (World.drewN _) (Nat.add_assoc _ _ _))⟩))))
        go_meet
        case rel => exact ⟨_, (!t104), (by first | rfl | (simp; done) | (simp [*]; done)), H', ⟨by first | omega | exact Nat.le_refl _⟩, ⟨by (with_reducible repeat (first | refine blk_drewN ?_ _ | refine blk_drew ?_ | refine blk_alloc ?_ _)); exact BK101.out⟩, ⟨by repeat (first | (with_reducible first | exact HB.out | apply below_alloc | apply pw_below_drewN | apply below_drew1 | refine below_set ?_ GE101.out) | exact HB.out)⟩⟩
      · replace c9 := Bool.eq_false_iff.mpr c9
        subst c9
        have H1 : (spec_DesirabilityOf.j0 k a1 a2 true a0_0 a0_1) = some r := by rw [if_neg (show ¬ (false = true) by decide)] at H; exact H
        clear H
        have H := H1
        clear H1
        have H' := Aside0.mk H
        clear H
        have hcz14_0 : w5.cell? ⟨gb101, 0, none⟩ = some (.int .i64 a0_0) := (blk_cell BK101.out 0).trans rfl
        have hcz14_1 : w5.cell? ⟨gb101, 1, none⟩ = some (.int .i64 a0_1) := (blk_cell BK101.out 1).trans rfl
        have hfz14_0 := blk_frozen BK101.out 0
        have hfz14_1 := blk_frozen BK101.out 1
        go_wp2_with (first | (go_at_call 35; (with_reducible refine (spec_IsSimpleGame.calls k a0_0 a0_1 true _ A6.out).mono ?_); rintro e w15 ⟨rfl, hb⟩; have n0_ := Aside0.mk (blk_below (g := gb101) (o := .cells #[.int .i64 a0_0, .int .i64 a0_1] 25 (0, 0)) (by (with_reducible repeat (first | refine blk_drewN ?_ _ | refine blk_drew ?_ | refine blk_alloc ?_ _)); exact BK101.out) hb); have n1_ := Aside0.mk (below_step (by repeat (first | (with_reducible first | exact HB.out | apply below_alloc | apply pw_below_drewN | apply below_drew1 | refine below_set ?_ GE101.out) | exact HB.out)) hb); clear BK101; clear HB; have BK101 := n0_; have HB := n1_; clear n0_ n1_; (try clear hb); (try clear hb2); (try clear hk); (try clear hi); have hcz16_0 : w15.cell? ⟨gb101, 0, none⟩ = some (.int .i64 a0_0) := (blk_cell BK101.out 0).trans rfl; have hcz16_1 : w15.cell? ⟨gb101, 1, none⟩ = some (.int .i64 a0_1) := (blk_cell BK101.out 1).trans rfl; have hfz16_0 := blk_frozen BK101.out 0; have hfz16_1 := blk_frozen BK101.out 1) | (go_at_call 75; (with_reducible refine (spec_l1In.calls a1 0 (wrap64 (a0_0 - 1)) false _ A8.out).mono ?_); rintro e w' ⟨rfl, ⟨nd, rfl⟩⟩; (try first | exact ⟨rfl, _, World.drewN_drewN _ _ _⟩ | exact ⟨rfl, _, Eq.trans (World.drewN_drewN _ _ _) (congrArg (World.drewN _) (Nat.add_assoc _ _ _))⟩)))
        repeat (go_quiet (first | (go_at_call 35; (with_reducible refine (spec_IsSimpleGame.calls k a0_0 a0_1 true _ A6.out).mono ?_); rintro e w15 ⟨rfl, hb⟩; have n0_ := Aside0.mk (blk_below (g := gb101) (o := .cells #[.int .i64 a0_0, .int .i64 a0_1] 25 (0, 0)) (by (with_reducible repeat (first | refine blk_drewN ?_ _ | refine blk_drew ?_ | refine blk_alloc ?_ _)); exact BK101.out) hb); have n1_ := Aside0.mk (below_step (by repeat (first | (with_reducible first | exact HB.out | apply below_alloc | apply pw_below_drewN | apply below_drew1 | refine below_set ?_ GE101.out) | exact HB.out)) hb); clear BK101; clear HB; have BK101 := n0_; have HB := n1_; clear n0_ n1_; (try clear hb); (try clear hb2); (try clear hk); (try clear hi); have hcz16_0 : w15.cell? ⟨gb101, 0, none⟩ = some (.int .i64 a0_0) := (blk_cell BK101.out 0).trans rfl; have hcz16_1 : w15.cell? ⟨gb101, 1, none⟩ = some (.int .i64 a0_1) := (blk_cell BK101.out 1).trans rfl; have hfz16_0 := blk_frozen BK101.out 0; have hfz16_1 := blk_frozen BK101.out 1) | (go_at_call 75; (with_reducible refine (spec_l1In.calls a1 0 (wrap64 (a0_0 - 1)) false _ A8.out).mono ?_); rintro e w' ⟨rfl, ⟨nd, rfl⟩⟩; (try first | exact ⟨rfl, _, World.drewN_drewN _ _ _⟩ | exact ⟨rfl, _, Eq.trans (World.drewN_drewN _ _ _) (congrArg (World.drewN _) (Nat.add_assoc _ _ _))⟩))); try go_wp2_with (first | (go_at_call 35; (with_reducible refine (spec_IsSimpleGame.calls k a0_0 a0_1 true _ A6.out).mono ?_); rintro e w15 ⟨rfl, hb⟩; have n0_ := Aside0.mk (blk_below (g := gb101) (o := .cells #[.int .i64 a0_0, .int .i64 a0_1] 25 (0, 0)) (by (with_reducible repeat (first | refine blk_drewN ?_ _ | refine blk_drew ?_ | refine blk_alloc ?_ _)); exact BK101.out) hb); have n1_ := Aside0.mk (below_step (by repeat (first | (with_reducible first | exact HB.out | apply below_alloc | apply pw_below_drewN | apply below_drew1 | refine below_set ?_ GE101.out) | exact HB.out)) hb); clear BK101; clear HB; have BK101 := n0_; have HB := n1_; clear n0_ n1_; (try clear hb); (try clear hb2); (try clear hk); (try clear hi); have hcz16_0 : w15.cell? ⟨gb101, 0, none⟩ = some (.int .i64 a0_0) := (blk_cell BK101.out 0).trans rfl; have hcz16_1 : w15.cell? ⟨gb101, 1, none⟩ = some (.int .i64 a0_1) := (blk_cell BK101.out 1).trans rfl; have hfz16_0 := blk_frozen BK101.out 0; have hfz16_1 := blk_frozen BK101.out 1) | (go_at_call 75; (with_reducible refine (spec_l1In.calls a1 0 (wrap64 (a0_0 - 1)) false _ A8.out).mono ?_); rintro e w' ⟨rfl, ⟨nd, rfl⟩⟩; (try first | exact ⟨rfl, _, World.drewN_drewN _ _ _⟩ | exact ⟨rfl, _, Eq.trans (World.drewN_drewN _ _ _) (congrArg (World.drewN _) (Nat.add_assoc _ _ _))⟩))))
        go_meet
        case rel => exact ⟨_, (true), (by first | rfl | (simp; done) | (simp [*]; done)), H', ⟨by first | omega | exact Nat.le_refl _⟩, ⟨by (with_reducible repeat (first | refine blk_drewN ?_ _ | refine blk_drew ?_ | refine blk_alloc ?_ _)); exact BK101.out⟩, ⟨by repeat (first | (with_reducible first | exact HB.out | apply below_alloc | apply pw_below_drewN | apply below_drew1 | refine below_set ?_ GE101.out) | exact HB.out)⟩⟩
    · replace c7 := Bool.eq_false_iff.mpr c7
      subst c7
      have H1 : (spec_DesirabilityOf.j0 k a1 a2 true a0_0 a0_1) = some r := by rw [if_neg (show ¬ (false = true) by decide)] at H; exact H
      clear H
      have H := H1
      clear H1
      have H' := Aside0.mk H
      clear H
      have hcz17_0 : w5.cell? ⟨gb101, 0, none⟩ = some (.int .i64 a0_0) := (blk_cell BK101.out 0).trans rfl
      have hcz17_1 : w5.cell? ⟨gb101, 1, none⟩ = some (.int .i64 a0_1) := (blk_cell BK101.out 1).trans rfl
      have hfz17_0 := blk_frozen BK101.out 0
      have hfz17_1 := blk_frozen BK101.out 1
      go_wp2_with (first | (go_at_call 35; (with_reducible refine (spec_IsSimpleGame.calls k a0_0 a0_1 false _ A6.out).mono ?_); rintro e w18 ⟨rfl, hb⟩; have n0_ := Aside0.mk (blk_below (g := gb101) (o := .cells #[.int .i64 a0_0, .int .i64 a0_1] 25 (0, 0)) (by (with_reducible repeat (first | refine blk_drewN ?_ _ | refine blk_drew ?_ | refine blk_alloc ?_ _)); exact BK101.out) hb); have n1_ := Aside0.mk (below_step (by repeat (first | (with_reducible first | exact HB.out | apply below_alloc | apply pw_below_drewN | apply below_drew1 | refine below_set ?_ GE101.out) | exact HB.out)) hb); clear BK101; clear HB; have BK101 := n0_; have HB := n1_; clear n0_ n1_; (try clear hb); (try clear hb2); (try clear hk); (try clear hi)))
      repeat (go_quiet (first | (go_at_call 35; (with_reducible refine (spec_IsSimpleGame.calls k a0_0 a0_1 false _ A6.out).mono ?_); rintro e w18 ⟨rfl, hb⟩; have n0_ := Aside0.mk (blk_below (g := gb101) (o := .cells #[.int .i64 a0_0, .int .i64 a0_1] 25 (0, 0)) (by (with_reducible repeat (first | refine blk_drewN ?_ _ | refine blk_drew ?_ | refine blk_alloc ?_ _)); exact BK101.out) hb); have n1_ := Aside0.mk (below_step (by repeat (first | (with_reducible first | exact HB.out | apply below_alloc | apply pw_below_drewN | apply below_drew1 | refine below_set ?_ GE101.out) | exact HB.out)) hb); clear BK101; clear HB; have BK101 := n0_; have HB := n1_; clear n0_ n1_; (try clear hb); (try clear hb2); (try clear hk); (try clear hi))); try go_wp2_with (first | (go_at_call 35; (with_reducible refine (spec_IsSimpleGame.calls k a0_0 a0_1 false _ A6.out).mono ?_); rintro e w18 ⟨rfl, hb⟩; have n0_ := Aside0.mk (blk_below (g := gb101) (o := .cells #[.int .i64 a0_0, .int .i64 a0_1] 25 (0, 0)) (by (with_reducible repeat (first | refine blk_drewN ?_ _ | refine blk_drew ?_ | refine blk_alloc ?_ _)); exact BK101.out) hb); have n1_ := Aside0.mk (below_step (by repeat (first | (with_reducible first | exact HB.out | apply below_alloc | apply pw_below_drewN | apply below_drew1 | refine below_set ?_ GE101.out) | exact HB.out)) hb); clear BK101; clear HB; have BK101 := n0_; have HB := n1_; clear n0_ n1_; (try clear hb); (try clear hb2); (try clear hk); (try clear hi))))
      go_meet
      case rel => exact ⟨_, (true), (by first | rfl | (simp; done) | (simp [*]; done)), H', ⟨by first | omega | exact Nat.le_refl _⟩, ⟨by (with_reducible repeat (first | refine blk_drewN ?_ _ | refine blk_drew ?_ | refine blk_alloc ?_ _)); exact BK101.out⟩, ⟨by repeat (first | (with_reducible first | exact HB.out | apply below_alloc | apply pw_below_drewN | apply below_drew1 | refine below_set ?_ GE101.out) | exact HB.out)⟩⟩
  case rest =>
    clear HC4
    try clear p2
    try clear c5
    try clear p6
    try clear c7
    try clear c9
    try clear hcz11_0
    try clear hcz11_1
    try clear hcz13_0
    try clear hcz13_1
    try clear hcz14_0
    try clear hcz14_1
    try clear hcz16_0
    try clear hcz16_1
    try clear hcz17_0
    try clear hcz17_1
    try clear hfz11_0
    try clear hfz11_1
    try clear hfz13_0
    try clear hfz13_1
    try clear hfz14_0
    try clear hfz14_1
    try clear hfz16_0
    try clear hfz16_1
    try clear hfz17_0
    try clear hfz17_1
    obtain ⟨kq, x30_3, rfl, HA, HJ3, BK101, HB⟩ := hcut
    cases kq with
    | zero => exact absurd HA.out (by simp [spec_DesirabilityOf.j0])
    | succ kj3 =>
      have H := HA.out
      clear HA
      simp only [spec_DesirabilityOf.j0] at H
      by_cases c19 : x30_3 = true
      · subst c19
        have H1 : (some (-2)) = some r := by rw [if_pos rfl] at H; exact H
        clear H
        have H := H1
        clear H1
        obtain rfl := Option.some.inj H
        go_wp2
        repeat (go_quiet (fail); try go_wp2)
        go_ret
        exact ⟨by first | rfl | (simp [errW_none, errW_some] <;> rfl) | (simp [*, errW_none, errW_some] <;> rfl), by repeat (first | (with_reducible first | exact HB.out | apply below_alloc | apply pw_below_drewN | apply below_drew1 | refine below_set ?_ GE101.out) | exact HB.out)⟩
      · replace c19 := Bool.eq_false_iff.mpr c19
        subst c19
        have H1 : (spec_DesirabilityOf.l0 kj3 a1 a2 true true 0 a0_0 a0_1) = some r := by rw [if_neg (show ¬ (false = true) by decide)] at H; exact H
        clear H
        have H := H1
        clear H1
        have H' := Aside0.mk H
        clear H
        go_wp2
        repeat (go_quiet (fail); try go_wp2)
        go_loopg [7, 8, 9] kj3 (fun kq v7 v8 v9 w' => ∃ (x7_2 : Bool) (x8_2 : Bool) (x9_2 : Int), v7 = .bool x7_2 ∧ v8 = .bool x8_2 ∧ v9 = .int .i64 x9_2 ∧ Aside0 (spec_DesirabilityOf.l0 kq a1 a2 x7_2 x8_2 x9_2 a0_0 a0_1 = some r) ∧ Aside0 (kq ≤ kj3) ∧ Aside0 (w'.heap[gb101]? = some (.cells #[.int .i64 a0_0, .int .i64 a0_1] 25 (0, 0))) ∧ Aside0 (Below w.heap.size w w'))
        case atStart => exact ⟨(true), (true), (0), (by first | rfl | (simp; done) | (simp [*]; done)), (by first | rfl | (simp; done) | (simp [*]; done)), (by first | rfl | (simp; done) | (simp [*]; done)), H', ⟨Nat.le_refl _⟩, ⟨by (with_reducible repeat (first | refine blk_drewN ?_ _ | refine blk_drew ?_ | refine blk_alloc ?_ _)); exact BK101.out⟩, ⟨by repeat (first | (with_reducible first | exact HB.out | apply below_alloc | apply pw_below_drewN | apply below_drew1 | refine below_set ?_ GE101.out) | exact HB.out)⟩⟩
        case round =>
          clear H'
          try clear c1
          try clear p2
          try clear c5
          try clear p6
          try clear c7
          try clear c9
          try clear c19
          try clear hcz11_0
          try clear hcz11_1
          try clear hcz13_0
          try clear hcz13_1
          try clear hcz14_0
          try clear hcz14_1
          try clear hcz16_0
          try clear hcz16_1
          try clear hcz17_0
          try clear hcz17_1
          try clear hfz11_0
          try clear hfz11_1
          try clear hfz13_0
          try clear hfz13_1
          try clear hfz14_0
          try clear hfz14_1
          try clear hfz16_0
          try clear hfz16_1
          try clear hfz17_0
          try clear hfz17_1
          try clear p2
          try clear p6
          obtain ⟨x7_2, x8_2, x9_2, rfl, rfl, rfl, HA, HK2, BK101, HB⟩ := hrel
          cases gk with
          | zero => exact absurd HA.out (by simp [spec_DesirabilityOf.l0])
          | succ k2 =>
            have H := HA.out
            clear HA
            simp only [spec_DesirabilityOf.l0] at H
            by_cases c20 : 0 ≤ a0_0
            · rw [if_pos c20] at H
              have c20b0 := eq_true c20
              have c20b1 : decide (0 ≤ a0_0) = true := decide_eq_true c20
              clear c20
              obtain ⟨ji21, hji21⟩ : ∃ j_ : Int, (shl .i64 1 a0_0) = j_ := ⟨_, rfl⟩
              replace H : (if x9_2 < (ji21) then (if 0 ≤ a1 then (if (Go.bits .and .i64 (shr .i64 x9_2 a1) 1) = 1 then (spec_DesirabilityOf.l0 k2 a1 a2 x7_2 x8_2 (wrap64 (x9_2 + 1)) a0_0 a0_1) else (if 0 ≤ a2 then (if (Go.bits .and .i64 (shr .i64 x9_2 a2) 1) = 1 then (spec_DesirabilityOf.l0 k2 a1 a2 x7_2 x8_2 (wrap64 (x9_2 + 1)) a0_0 a0_1) else (if 0 ≤ (Go.bits .or .i64 x9_2 (shl .i64 1 a1)) then (if 0 ≤ (Go.bits .or .i64 x9_2 (shl .i64 1 a2)) then (if x7_2 = true then (if x8_2 = true then (spec_DesirabilityOf.l0 k2 a1 a2 (decide ((Go.bits .and .i64 (shr .i64 a0_1 (Go.bits .or .i64 x9_2 (shl .i64 1 a1))) 1) ≥ (Go.bits .and .i64 (shr .i64 a0_1 (Go.bits .or .i64 x9_2 (shl .i64 1 a2))) 1))) (decide ((Go.bits .and .i64 (shr .i64 a0_1 (Go.bits .or .i64 x9_2 (shl .i64 1 a2))) 1) ≥ (Go.bits .and .i64 (shr .i64 a0_1 (Go.bits .or .i64 x9_2 (shl .i64 1 a1))) 1))) (wrap64 (x9_2 + 1)) a0_0 a0_1) else (spec_DesirabilityOf.l0 k2 a1 a2 (decide ((Go.bits .and .i64 (shr .i64 a0_1 (Go.bits .or .i64 x9_2 (shl .i64 1 a1))) 1) ≥ (Go.bits .and .i64 (shr .i64 a0_1 (Go.bits .or .i64 x9_2 (shl .i64 1 a2))) 1))) false (wrap64 (x9_2 + 1)) a0_0 a0_1)) else (if x8_2 = true then (spec_DesirabilityOf.l0 k2 a1 a2 false (decide ((Go.bits .and .i64 (shr .i64 a0_1 (Go.bits .or .i64 x9_2 (shl .i64 1 a2))) 1) ≥ (Go.bits .and .i64 (shr .i64 a0_1 (Go.bits .or .i64 x9_2 (shl .i64 1 a1))) 1))) (wrap64 (x9_2 + 1)) a0_0 a0_1) else (spec_DesirabilityOf.l0 k2 a1 a2 false false (wrap64 (x9_2 + 1)) a0_0 a0_1))) else (none)) else (none))) else (none))) else (none)) else (if x7_2 = true then (spec_DesirabilityOf.j2 k2 x7_2 x8_2 x8_2) else (spec_DesirabilityOf.j2 k2 x7_2 x8_2 false))) = some r := by first | (rw [hji21] at H; exact H) | (simp only [hji21] at H ⊢; exact H)
              have hji21_ : (IntKind.i64.wrap (1 * 2 ^ min a0_0.toNat 64)) = ji21 := hji21
              have hji21z : a0_0 ≤ 64 → (IntKind.i64.wrap (1 * 2 ^ a0_0.toNat)) = ji21 := shl_small hji21
              have hji21u : (IntKind.i64.wrap (2 ^ min a0_0.toNat 64)) = ji21 := by have h_ := hji21_; rw [Int.one_mul] at h_; exact h_
              have hji21v : a0_0 ≤ 64 → (IntKind.i64.wrap (2 ^ a0_0.toNat)) = ji21 := fun hle_ => by have h_ := hji21z hle_; rw [Int.one_mul] at h_; exact h_
              have hji21y : (wrap64 (1 * 2 ^ min a0_0.toNat 64)) = ji21 := (i64_w _).symm.trans hji21_
              have hji21x : a0_0 ≤ 64 → (wrap64 (1 * 2 ^ a0_0.toNat)) = ji21 := fun h_ => (i64_w _).symm.trans (hji21z h_)
              by_cases c22 : x9_2 < (ji21)
              · rw [if_pos c22] at H
                have c22b0 : decide (x9_2 < (ji21)) = true := decide_eq_true c22
                clear c22
                by_cases c23 : 0 ≤ a1
                · rw [if_pos c23] at H
                  have c23b0 := eq_true c23
                  have c23b1 : decide (0 ≤ a1) = true := decide_eq_true c23
                  clear c23
                  obtain ⟨ji24, hji24⟩ : ∃ j_ : Int, (shr .i64 x9_2 a1) = j_ := ⟨_, rfl⟩
                  replace H : (if (Go.bits .and .i64 (ji24) 1) = 1 then (spec_DesirabilityOf.l0 k2 a1 a2 x7_2 x8_2 (wrap64 (x9_2 + 1)) a0_0 a0_1) else (if 0 ≤ a2 then (if (Go.bits .and .i64 (shr .i64 x9_2 a2) 1) = 1 then (spec_DesirabilityOf.l0 k2 a1 a2 x7_2 x8_2 (wrap64 (x9_2 + 1)) a0_0 a0_1) else (if 0 ≤ (Go.bits .or .i64 x9_2 (shl .i64 1 a1)) then (if 0 ≤ (Go.bits .or .i64 x9_2 (shl .i64 1 a2)) then (if x7_2 = true then (if x8_2 = true then (spec_DesirabilityOf.l0 k2 a1 a2 (decide ((Go.bits .and .i64 (shr .i64 a0_1 (Go.bits .or .i64 x9_2 (shl .i64 1 a1))) 1) ≥ (Go.bits .and .i64 (shr .i64 a0_1 (Go.bits .or .i64 x9_2 (shl .i64 1 a2))) 1))) (decide ((Go.bits .and .i64 (shr .i64 a0_1 (Go.bits .or .i64 x9_2 (shl .i64 1 a2))) 1) ≥ (Go.bits .and .i64 (shr .i64 a0_1 (Go.bits .or .i64 x9_2 (shl .i64 1 a1))) 1))) (wrap64 (x9_2 + 1)) a0_0 a0_1) else (spec_DesirabilityOf.l0 k2 a1 a2 (decide ((Go.bits .and .i64 (shr .i64 a0_1 (Go.bits .or .i64 x9_2 (shl .i64 1 a1))) 1) ≥ (Go.bits .and .i64 (shr .i64 a0_1 (Go.bits .or .i64 x9_2 (shl .i64 1 a2))) 1))) false (wrap64 (x9_2 + 1)) a0_0 a0_1)) else (if x8_2 = true then (spec_DesirabilityOf.l0 k2 a1 a2 false (decide ((Go.bits .and .i64 (shr .i64 a0_1 (Go.bits .or .i64 x9_2 (shl .i64 1 a2))) 1) ≥ (Go.bits .and .i64 (shr .i64 a0_1 (Go.bits .or .i64 x9_2 (shl .i64 1 a1))) 1))) (wrap64 (x9_2 + 1)) a0_0 a0_1) else (spec_DesirabilityOf.l0 k2 a1 a2 false false (wrap64 (x9_2 + 1)) a0_0 a0_1))) else (none)) else (none))) else (none))) = some r := by first | (rw [hji24] at H; exact H) | (simp only [hji24] at H ⊢; exact H)
                  have hji24_ : (x9_2 / 2 ^ min a1.toNat 64) = ji24 := hji24
                  have hji24z : a1 ≤ 64 → (x9_2 / 2 ^ a1.toNat) = ji24 := shr_small hji24
                  by_cases c25 : (Go.bits .and .i64 (ji24) 1) = 1
                  · rw [if_pos c25] at H
                    have c25b0 : ((Go.bits .and .i64 (ji24) 1) == 1) = true := beq_iff_eq.mpr c25
                    have c25b1 : ((Go.bits .and .i64 (ji24) 1) != 1) = false := bne_eq_false_iff_eq.mpr c25
                    clear c25
                    have H' := Aside0.mk H
                    clear H
                    have hcz26_0 : wr.cell? ⟨gb101, 0, none⟩ = some (.int .i64 a0_0) := (blk_cell BK101.out 0).trans rfl
                    have hcz26_1 : wr.cell? ⟨gb101, 1, none⟩ = some (.int .i64 a0_1) := (blk_cell BK101.out 1).trans rfl
                    have hfz26_0 := blk_frozen BK101.out 0
                    have hfz26_1 := blk_frozen BK101.out 1
                    go_wp2
                    repeat (go_quiet (fail); try go_wp2)
                    go_roundg k2
                    case measure => have := HJ3.out; have := HK2.out; omega
                    case rel => exact ⟨(x7_2), (x8_2), (wrap64 (x9_2 + 1)), (by first | rfl | (simp; done) | (simp [*]; done)), (by first | rfl | (simp; done) | (simp [*]; done)), (by first | rfl | (simp; done) | (simp [*]; done)), H', ⟨by have := HJ3.out; have := HK2.out; omega⟩, ⟨by (with_reducible repeat (first | refine blk_drewN ?_ _ | refine blk_drew ?_ | refine blk_alloc ?_ _)); exact BK101.out⟩, ⟨by repeat (first | (with_reducible first | exact HB.out | apply below_alloc | apply pw_below_drewN | apply below_drew1 | refine below_set ?_ GE101.out) | exact HB.out)⟩⟩
                  · rw [if_neg c25] at H
                    have c25b0 : ((Go.bits .and .i64 (ji24) 1) == 1) = false := beq_eq_false_iff_ne.mpr c25
                    have c25b1 : ((Go.bits .and .i64 (ji24) 1) != 1) = true := bne_iff_ne.mpr c25
                    by_cases c27 : 0 ≤ a2
                    · rw [if_pos c27] at H
                      have c27b0 := eq_true c27
                      have c27b1 : decide (0 ≤ a2) = true := decide_eq_true c27
                      clear c27
                      obtain ⟨ji28, hji28⟩ : ∃ j_ : Int, (shr .i64 x9_2 a2) = j_ := ⟨_, rfl⟩
                      replace H : (if (Go.bits .and .i64 (ji28) 1) = 1 then (spec_DesirabilityOf.l0 k2 a1 a2 x7_2 x8_2 (wrap64 (x9_2 + 1)) a0_0 a0_1) else (if 0 ≤ (Go.bits .or .i64 x9_2 (shl .i64 1 a1)) then (if 0 ≤ (Go.bits .or .i64 x9_2 (shl .i64 1 a2)) then (if x7_2 = true then (if x8_2 = true then (spec_DesirabilityOf.l0 k2 a1 a2 (decide ((Go.bits .and .i64 (shr .i64 a0_1 (Go.bits .or .i64 x9_2 (shl .i64 1 a1))) 1) ≥ (Go.bits .and .i64 (shr .i64 a0_1 (Go.bits .or .i64 x9_2 (shl .i64 1 a2))) 1))) (decide ((Go.bits .and .i64 (shr .i64 a0_1 (Go.bits .or .i64 x9_2 (shl .i64 1 a2))) 1) ≥ (Go.bits .and .i64 (shr .i64 a0_1 (Go.bits .or .i64 x9_2 (shl .i64 1 a1))) 1))) (wrap64 (x9_2 + 1)) a0_0 a0_1) else (spec_DesirabilityOf.l0 k2 a1 a2 (decide ((Go.bits .and .i64 (shr .i64 a0_1 (Go.bits .or .i64 x9_2 (shl .i64 1 a1))) 1) ≥ (Go.bits .and .i64 (shr .i64 a0_1 (Go.bits .or .i64 x9_2 (shl .i64 1 a2))) 1))) false (wrap64 (x9_2 + 1)) a0_0 a0_1)) else (if x8_2 = true then (spec_DesirabilityOf.l0 k2 a1 a2 false (decide ((Go.bits .and .i64 (shr .i64 a0_1 (Go.bits .or .i64 x9_2 (shl .i64 1 a2))) 1) ≥ (Go.bits .and .i64 (shr .i64 a0_1 (Go.bits .or .i64 x9_2 (shl .i64 1 a1))) 1))) (wrap64 (x9_2 + 1)) a0_0 a0_1) else (spec_DesirabilityOf.l0 k2 a1 a2 false false (wrap64 (x9_2 + 1)) a0_0 a0_1))) else (none)) else (none))) = some r := by first | (rw [hji28] at H; exact H) | (simp only [hji28] at H ⊢; exact H)
                      have hji28_ : (x9_2 / 2 ^ min a2.toNat 64) = ji28 := hji28
                      have hji28z : a2 ≤ 64 → (x9_2 / 2 ^ a2.toNat) = ji28 := shr_small hji28
                      by_cases c29 : (Go.bits .and .i64 (ji28) 1) = 1
                      · rw [if_pos c29] at H
                        have c29b0 : ((Go.bits .and .i64 (ji28) 1) == 1) = true := beq_iff_eq.mpr c29
                        have c29b1 : ((Go.bits .and .i64 (ji28) 1) != 1) = false := bne_eq_false_iff_eq.mpr c29
                        clear c29
                        have H' := Aside0.mk H
                        clear H
                        have hcz30_0 : wr.cell? ⟨gb101, 0, none⟩ = some (.int .i64 a0_0) := (blk_cell BK101.out 0).trans rfl
                        have hcz30_1 : wr.cell? ⟨gb101, 1, none⟩ = some (.int .i64 a0_1) := (blk_cell BK101.out 1).trans rfl
                        have hfz30_0 := blk_frozen BK101.out 0
                        have hfz30_1 := blk_frozen BK101.out 1
                        go_wp2
                        repeat (go_quiet (fail); try go_wp2)
                        go_roundg k2
                        case measure => have := HJ3.out; have := HK2.out; omega
                        case rel => exact ⟨(x7_2), (x8_2), (wrap64 (x9_2 + 1)), (by first | rfl | (simp; done) | (simp [*]; done)), (by first | rfl | (simp; done) | (simp [*]; done)), (by first | rfl | (simp; done) | (simp [*]; done)), H', ⟨by have := HJ3.out; have := HK2.out; omega⟩, ⟨by (with_reducible repeat (first | refine blk_drewN ?_ _ | refine blk_drew ?_ | refine blk_alloc ?_ _)); exact BK101.out⟩, ⟨by repeat (first | (with_reducible first | exact HB.out | apply below_alloc | apply pw_below_drewN | apply below_drew1 | refine below_set ?_ GE101.out) | exact HB.out)⟩⟩
                      · rw [if_neg c29] at H
                        have c29b0 : ((Go.bits .and .i64 (ji28) 1) == 1) = false := beq_eq_false_iff_ne.mpr c29
                        have c29b1 : ((Go.bits .and .i64 (ji28) 1) != 1) = true := bne_iff_ne.mpr c29
                        have c31b0 := eq_true (of_decide_eq_true (by first | (with_reducible assumption) | assumption) : 0 ≤ a1)
                        obtain ⟨ji32, hji32⟩ : ∃ j_ : Int, (shl .i64 1 a1) = j_ := ⟨_, rfl⟩
                        replace H : (if 0 ≤ (Go.bits .or .i64 x9_2 (ji32)) then (if 0 ≤ (Go.bits .or .i64 x9_2 (shl .i64 1 a2)) then (if x7_2 = true then (if x8_2 = true then (spec_DesirabilityOf.l0 k2 a1 a2 (decide ((Go.bits .and .i64 (shr .i64 a0_1 (Go.bits .or .i64 x9_2 (ji32))) 1) ≥ (Go.bits .and .i64 (shr .i64 a0_1 (Go.bits .or .i64 x9_2 (shl .i64 1 a2))) 1))) (decide ((Go.bits .and .i64 (shr .i64 a0_1 (Go.bits .or .i64 x9_2 (shl .i64 1 a2))) 1) ≥ (Go.bits .and .i64 (shr .i64 a0_1 (Go.bits .or .i64 x9_2 (ji32))) 1))) (wrap64 (x9_2 + 1)) a0_0 a0_1) else (spec_DesirabilityOf.l0 k2 a1 a2 (decide ((Go.bits .and .i64 (shr .i64 a0_1 (Go.bits .or .i64 x9_2 (ji32))) 1) ≥ (Go.bits .and .i64 (shr .i64 a0_1 (Go.bits .or .i64 x9_2 (shl .i64 1 a2))) 1))) false (wrap64 (x9_2 + 1)) a0_0 a0_1)) else (if x8_2 = true then (spec_DesirabilityOf.l0 k2 a1 a2 false (decide ((Go.bits .and .i64 (shr .i64 a0_1 (Go.bits .or .i64 x9_2 (shl .i64 1 a2))) 1) ≥ (Go.bits .and .i64 (shr .i64 a0_1 (Go.bits .or .i64 x9_2 (ji32))) 1))) (wrap64 (x9_2 + 1)) a0_0 a0_1) else (spec_DesirabilityOf.l0 k2 a1 a2 false false (wrap64 (x9_2 + 1)) a0_0 a0_1))) else (none)) else (none)) = some r := by first | (rw [hji32] at H; exact H) | (simp only [hji32] at H ⊢; exact H)
                        have hji32_ : (IntKind.i64.wrap (1 * 2 ^ min a1.toNat 64)) = ji32 := hji32
                        have hji32z : a1 ≤ 64 → (IntKind.i64.wrap (1 * 2 ^ a1.toNat)) = ji32 := shl_small hji32
                        have hji32u : (IntKind.i64.wrap (2 ^ min a1.toNat 64)) = ji32 := by have h_ := hji32_; rw [Int.one_mul] at h_; exact h_
                        have hji32v : a1 ≤ 64 → (IntKind.i64.wrap (2 ^ a1.toNat)) = ji32 := fun hle_ => by have h_ := hji32z hle_; rw [Int.one_mul] at h_; exact h_
                        have hji32y : (wrap64 (1 * 2 ^ min a1.toNat 64)) = ji32 := (i64_w _).symm.trans hji32_
                        have hji32x : a1 ≤ 64 → (wrap64 (1 * 2 ^ a1.toNat)) = ji32 := fun h_ => (i64_w _).symm.trans (hji32z h_)
                        by_cases c33 : 0 ≤ (Go.bits .or .i64 x9_2 (ji32))
                        · rw [if_pos c33] at H
                          have c33b0 := eq_true c33
                          have c33b1 : decide (0 ≤ (Go.bits .or .i64 x9_2 (ji32))) = true := decide_eq_true c33
                          clear c33
                          obtain ⟨ji34, hji34⟩ : ∃ j_ : Int, (shr .i64 a0_1 (Go.bits .or .i64 x9_2 (ji32))) = j_ := ⟨_, rfl⟩
                          replace H : (if 0 ≤ (Go.bits .or .i64 x9_2 (shl .i64 1 a2)) then (if x7_2 = true then (if x8_2 = true then (spec_DesirabilityOf.l0 k2 a1 a2 (decide ((Go.bits .and .i64 (ji34) 1) ≥ (Go.bits .and .i64 (shr .i64 a0_1 (Go.bits .or .i64 x9_2 (shl .i64 1 a2))) 1))) (decide ((Go.bits .and .i64 (shr .i64 a0_1 (Go.bits .or .i64 x9_2 (shl .i64 1 a2))) 1) ≥ (Go.bits .and .i64 (ji34) 1))) (wrap64 (x9_2 + 1)) a0_0 a0_1) else (spec_DesirabilityOf.l0 k2 a1 a2 (decide ((Go.bits .and .i64 (ji34) 1) ≥ (Go.bits .and .i64 (shr .i64 a0_1 (Go.bits .or .i64 x9_2 (shl .i64 1 a2))) 1))) false (wrap64 (x9_2 + 1)) a0_0 a0_1)) else (if x8_2 = true then (spec_DesirabilityOf.l0 k2 a1 a2 false (decide ((Go.bits .and .i64 (shr .i64 a0_1 (Go.bits .or .i64 x9_2 (shl .i64 1 a2))) 1) ≥ (Go.bits .and .i64 (ji34) 1))) (wrap64 (x9_2 + 1)) a0_0 a0_1) else (spec_DesirabilityOf.l0 k2 a1 a2 false false (wrap64 (x9_2 + 1)) a0_0 a0_1))) else (none)) = some r := by first | (rw [hji34] at H; exact H) | (simp only [hji34] at H ⊢; exact H)
                          have hji34_ : (a0_1 / 2 ^ min (Go.bits .or .i64 x9_2 (ji32)).toNat 64) = ji34 := hji34
                          have hji34z : (Go.bits .or .i64 x9_2 (ji32)) ≤ 64 → (a0_1 / 2 ^ (Go.bits .or .i64 x9_2 (ji32)).toNat) = ji34 := shr_small hji34
                          have c35b0 := eq_true (of_decide_eq_true (by first | (with_reducible assumption) | assumption) : 0 ≤ a2)
                          obtain ⟨ji36, hji36⟩ : ∃ j_ : Int, (shl .i64 1 a2) = j_ := ⟨_, rfl⟩
                          replace H : (if 0 ≤ (Go.bits .or .i64 x9_2 (ji36)) then (if x7_2 = true then (if x8_2 = true then (spec_DesirabilityOf.l0 k2 a1 a2 (decide ((Go.bits .and .i64 (ji34) 1) ≥ (Go.bits .and .i64 (shr .i64 a0_1 (Go.bits .or .i64 x9_2 (ji36))) 1))) (decide ((Go.bits .and .i64 (shr .i64 a0_1 (Go.bits .or .i64 x9_2 (ji36))) 1) ≥ (Go.bits .and .i64 (ji34) 1))) (wrap64 (x9_2 + 1)) a0_0 a0_1) else (spec_DesirabilityOf.l0 k2 a1 a2 (decide ((Go.bits .and .i64 (ji34) 1) ≥ (Go.bits .and .i64 (shr .i64 a0_1 (Go.bits .or .i64 x9_2 (ji36))) 1))) false (wrap64 (x9_2 + 1)) a0_0 a0_1)) else (if x8_2 = true then (spec_DesirabilityOf.l0 k2 a1 a2 false (decide ((Go.bits .and .i64 (shr .i64 a0_1 (Go.bits .or .i64 x9_2 (ji36))) 1) ≥ (Go.bits .and .i64 (ji34) 1))) (wrap64 (x9_2 + 1)) a0_0 a0_1) else (spec_DesirabilityOf.l0 k2 a1 a2 false false (wrap64 (x9_2 + 1)) a0_0 a0_1))) else (none)) = some r := by first | (rw [hji36] at H; exact H) | (simp only [hji36] at H ⊢; exact H)
                          have hji36_ : (IntKind.i64.wrap (1 * 2 ^ min a2.toNat 64)) = ji36 := hji36
                          have hji36z : a2 ≤ 64 → (IntKind.i64.wrap (1 * 2 ^ a2.toNat)) = ji36 := shl_small hji36
                          have hji36u : (IntKind.i64.wrap (2 ^ min a2.toNat 64)) = ji36 := by have h_ := hji36_; rw [Int.one_mul] at h_; exact h_
                          have hji36v : a2 ≤ 64 → (IntKind.i64.wrap (2 ^ a2.toNat)) = ji36 := fun hle_ => by have h_ := hji36z hle_; rw [Int.one_mul] at h_; exact h_
                          have hji36y : (wrap64 (1 * 2 ^ min a2.toNat 64)) = ji36 := (i64_w _).symm.trans hji36_
                          have hji36x : a2 ≤ 64 → (wrap64 (1 * 2 ^ a2.toNat)) = ji36 := fun h_ => (i64_w _).symm.trans (hji36z h_)
                          by_cases c37 : 0 ≤ (Go.bits .or .i64 x9_2 (ji36))
                          · rw [if_pos c37] at H
                            have c37b0 := eq_true c37
                            have c37b1 : decide (0 ≤ (Go.bits .or .i64 x9_2 (ji36))) = true := decide_eq_true c37
                            clear c37
                            obtain ⟨ji38, hji38⟩ : ∃ j_ : Int, (shr .i64 a0_1 (Go.bits .or .i64 x9_2 (ji36))) = j_ := ⟨_, rfl⟩
                            replace H : (if x7_2 = true then (if x8_2 = true then (spec_DesirabilityOf.l0 k2 a1 a2 (decide ((Go.bits .and .i64 (ji34) 1) ≥ (Go.bits .and .i64 (ji38) 1))) (decide ((Go.bits .and .i64 (ji38) 1) ≥ (Go.bits .and .i64 (ji34) 1))) (wrap64 (x9_2 + 1)) a0_0 a0_1) else (spec_DesirabilityOf.l0 k2 a1 a2 (decide ((Go.bits .and .i64 (ji34) 1) ≥ (Go.bits .and .i64 (ji38) 1))) false (wrap64 (x9_2 + 1)) a0_0 a0_1)) else (if x8_2 = true then (spec_DesirabilityOf.l0 k2 a1 a2 false (decide ((Go.bits .and .i64 (ji38) 1) ≥ (Go.bits .and .i64 (ji34) 1))) (wrap64 (x9_2 + 1)) a0_0 a0_1) else (spec_DesirabilityOf.l0 k2 a1 a2 false false (wrap64 (x9_2 + 1)) a0_0 a0_1))) = some r := by first | (rw [hji38] at H; exact H) | (simp only [hji38] at H ⊢; exact H)
                            have hji38_ : (a0_1 / 2 ^ min (Go.bits .or .i64 x9_2 (ji36)).toNat 64) = ji38 := hji38
                            have hji38z : (Go.bits .or .i64 x9_2 (ji36)) ≤ 64 → (a0_1 / 2 ^ (Go.bits .or .i64 x9_2 (ji36)).toNat) = ji38 := shr_small hji38
                            by_cases c39 : x7_2 = true
                            · subst c39
                              have H1 : (if x8_2 = true then (spec_DesirabilityOf.l0 k2 a1 a2 (decide ((Go.bits .and .i64 (ji34) 1) ≥ (Go.bits .and .i64 (ji38) 1))) (decide ((Go.bits .and .i64 (ji38) 1) ≥ (Go.bits .and .i64 (ji34) 1))) (wrap64 (x9_2 + 1)) a0_0 a0_1) else (spec_DesirabilityOf.l0 k2 a1 a2 (decide ((Go.bits .and .i64 (ji34) 1) ≥ (Go.bits .and .i64 (ji38) 1))) false (wrap64 (x9_2 + 1)) a0_0 a0_1)) = some r := by rw [if_pos rfl] at H; exact H
                              clear H
                              have H := H1
                              clear H1
                              by_cases c40 : x8_2 = true
                              · subst c40
                                have H1 : (spec_DesirabilityOf.l0 k2 a1 a2 (decide ((Go.bits .and .i64 (ji34) 1) ≥ (Go.bits .and .i64 (ji38) 1))) (decide ((Go.bits .and .i64 (ji38) 1) ≥ (Go.bits .and .i64 (ji34) 1))) (wrap64 (x9_2 + 1)) a0_0 a0_1) = some r := by rw [if_pos rfl] at H; exact H
                                clear H
                                have H := H1
                                clear H1
                                have H' := Aside0.mk H
                                clear H
                                have hcz41_0 : wr.cell? ⟨gb101, 0, none⟩ = some (.int .i64 a0_0) := (blk_cell BK101.out 0).trans rfl
                                have hcz41_1 : wr.cell? ⟨gb101, 1, none⟩ = some (.int .i64 a0_1) := (blk_cell BK101.out 1).trans rfl
                                have hfz41_0 := blk_frozen BK101.out 0
                                have hfz41_1 := blk_frozen BK101.out 1
                                go_wp2
                                repeat (go_quiet (fail); try go_wp2)
                                go_roundg k2
                                case measure => have := HJ3.out; have := HK2.out; omega
                                case rel => exact ⟨(decide ((Go.bits .and .i64 (ji34) 1) ≥ (Go.bits .and .i64 (ji38) 1))), (decide ((Go.bits .and .i64 (ji38) 1) ≥ (Go.bits .and .i64 (ji34) 1))), (wrap64 (x9_2 + 1)), (by first | rfl | (simp; done) | (simp only [← hji34, ← hji38] <;> (first | rfl | simp)) | (simp [*]; done)), (by first | rfl | (simp; done) | (simp only [← hji34, ← hji38] <;> (first | rfl | simp)) | (simp [*]; done)), (by first | rfl | (simp; done) | (simp [*]; done)), H', ⟨by have := HJ3.out; have := HK2.out; omega⟩, ⟨by (with_reducible repeat (first | refine blk_drewN ?_ _ | refine blk_drew ?_ | refine blk_alloc ?_ _)); exact BK101.out⟩, ⟨by repeat (first | (with_reducible first | exact HB.out | apply below_alloc | apply pw_below_drewN | apply below_drew1 | refine below_set ?_ GE101.out) | exact HB.out)⟩⟩
                              · replace c40 := Bool.eq_false_iff.mpr c40
                                subst c40
                                have H1 : (spec_DesirabilityOf.l0 k2 a1 a2 (decide ((Go.bits .and .i64 (ji34) 1) ≥ (Go.bits .and .i64 (ji38) 1))) false (wrap64 (x9_2 + 1)) a0_0 a0_1) = some r := by rw [if_neg (show ¬ (false = true) by decide)] at H; exact H
                                clear H
                                have H := H1
                                clear H1
                                have H' := Aside0.mk H
                                clear H
                                have hcz42_0 : wr.cell? ⟨gb101, 0, none⟩ = some (.int .i64 a0_0) := (blk_cell BK101.out 0).trans rfl
                                have hcz42_1 : wr.cell? ⟨gb101, 1, none⟩ = some (.int .i64 a0_1) := (blk_cell BK101.out 1).trans rfl
                                have hfz42_0 := blk_frozen BK101.out 0
                                have hfz42_1 := blk_frozen BK101.out 1
                                go_wp2
                                repeat (go_quiet (fail); try go_wp2)
                                go_roundg k2
                                case measure => have := HJ3.out; have := HK2.out; omega
                                case rel => exact ⟨(decide ((Go.bits .and .i64 (ji34) 1) ≥ (Go.bits .and .i64 (ji38) 1))), (false), (wrap64 (x9_2 + 1)), (by first | rfl | (simp; done) | (simp only [← hji34, ← hji38] <;> (first | rfl | simp)) | (simp [*]; done)), (by first | rfl | (simp; done) | (simp [*]; done)), (by first | rfl | (simp; done) | (simp [*]; done)), H', ⟨by have := HJ3.out; have := HK2.out; omega⟩, ⟨by (with_reducible repeat (first | refine blk_drewN ?_ _ | refine blk_drew ?_ | refine blk_alloc ?_ _)); exact BK101.out⟩, ⟨by repeat (first | (with_reducible first | exact HB.out | apply below_alloc | apply pw_below_drewN | apply below_drew1 | refine below_set ?_ GE101.out) | exact HB.out)⟩⟩
                            · replace c39 := Bool.eq_false_iff.mpr c39
                              subst c39
                              have H1 : (if x8_2 = true then (spec_DesirabilityOf.l0 k2 a1 a2 false (decide ((Go.bits .and .i64 (ji38) 1) ≥ (Go.bits .and .i64 (ji34) 1))) (wrap64 (x9_2 + 1)) a0_0 a0_1) else (spec_DesirabilityOf.l0 k2 a1 a2 false false (wrap64 (x9_2 + 1)) a0_0 a0_1)) = some r := by rw [if_neg (show ¬ (false = true) by decide)] at H; exact H
                              clear H
                              have H := H1
                              clear H1
                              by_cases c43 : x8_2 = true
                              · subst c43
                                have H1 : (spec_DesirabilityOf.l0 k2 a1 a2 false (decide ((Go.bits .and .i64 (ji38) 1) ≥ (Go.bits .and .i64 (ji34) 1))) (wrap64 (x9_2 + 1)) a0_0 a0_1) = some r := by rw [if_pos rfl] at H; exact H
                                clear H
                                have H := H1
                                clear H1
                                have H' := Aside0.mk H
                                clear H
                                have hcz44_0 : wr.cell? ⟨gb101, 0, none⟩ = some (.int .i64 a0_0) := (blk_cell BK101.out 0).trans rfl
                                have hcz44_1 : wr.cell? ⟨gb101, 1, none⟩ = some (.int .i64 a0_1) := (blk_cell BK101.out 1).trans rfl
                                have hfz44_0 := blk_frozen BK101.out 0
                                have hfz44_1 := blk_frozen BK101.out 1
                                go_wp2
                                repeat (go_quiet (fail); try go_wp2)
                                go_roundg k2
                                case measure => have := HJ3.out; have := HK2.out; omega
                                case rel => exact ⟨(false), (decide ((Go.bits .and .i64 (ji38) 1) ≥ (Go.bits .and .i64 (ji34) 1))), (wrap64 (x9_2 + 1)), (by first | rfl | (simp; done) | (simp [*]; done)), (by first | rfl | (simp; done) | (simp only [← hji34, ← hji38] <;> (first | rfl | simp)) | (simp [*]; done)), (by first | rfl | (simp; done) | (simp [*]; done)), H', ⟨by have := HJ3.out; have := HK2.out; omega⟩, ⟨by (with_reducible repeat (first | refine blk_drewN ?_ _ | refine blk_drew ?_ | refine blk_alloc ?_ _)); exact BK101.out⟩, ⟨by repeat (first | (with_reducible first | exact HB.out | apply below_alloc | apply pw_below_drewN | apply below_drew1 | refine below_set ?_ GE101.out) | exact HB.out)⟩⟩
                              · replace c43 := Bool.eq_false_iff.mpr c43
                                subst c43
                                have H1 : (spec_DesirabilityOf.l0 k2 a1 a2 false false (wrap64 (x9_2 + 1)) a0_0 a0_1) = some r := by rw [if_neg (show ¬ (false = true) by decide)] at H; exact H
                                clear H
                                have H := H1
                                clear H1
                                have H' := Aside0.mk H
                                clear H
                                have hcz45_0 : wr.cell? ⟨gb101, 0, none⟩ = some (.int .i64 a0_0) := (blk_cell BK101.out 0).trans rfl
                                have hcz45_1 : wr.cell? ⟨gb101, 1, none⟩ = some (.int .i64 a0_1) := (blk_cell BK101.out 1).trans rfl
                                have hfz45_0 := blk_frozen BK101.out 0
                                have hfz45_1 := blk_frozen BK101.out 1
                                go_wp2
                                repeat (go_quiet (fail); try go_wp2)
                                go_roundg k2
                                case measure => have := HJ3.out; have := HK2.out; omega
                                case rel => exact ⟨(false), (false), (wrap64 (x9_2 + 1)), (by first | rfl | (simp; done) | (simp [*]; done)), (by first | rfl | (simp; done) | (simp [*]; done)), (by first | rfl | (simp; done) | (simp [*]; done)), H', ⟨by have := HJ3.out; have := HK2.out; omega⟩, ⟨by (with_reducible repeat (first | refine blk_drewN ?_ _ | refine blk_drew ?_ | refine blk_alloc ?_ _)); exact BK101.out⟩, ⟨by repeat (first | (with_reducible first | exact HB.out | apply below_alloc | apply pw_below_drewN | apply below_drew1 | refine below_set ?_ GE101.out) | exact HB.out)⟩⟩
                          · rw [if_neg c37] at H
                            exact absurd H (by simp)
                        · rw [if_neg c33] at H
                          exact absurd H (by simp)
                    · rw [if_neg c27] at H
                      exact absurd H (by simp)
                · rw [if_neg c23] at H
                  exact absurd H (by simp)
              · rw [if_neg c22] at H
                have c22b0 : decide (x9_2 < (ji21)) = false := decide_eq_false c22
                clear c22
                have HC46 := Aside0.mk H
                clear H
                have hcz47_0 : wr.cell? ⟨gb101, 0, none⟩ = some (.int .i64 a0_0) := (blk_cell BK101.out 0).trans rfl
                have hcz47_1 : wr.cell? ⟨gb101, 1, none⟩ = some (.int .i64 a0_1) := (blk_cell BK101.out 1).trans rfl
                have hfz47_0 := blk_frozen BK101.out 0
                have hfz47_1 := blk_frozen BK101.out 1
                go_upto_region 13 with (fail)
                repeat (go_quiet (fail); go_upto_region 13 with (fail))
                go_cut [78] (fun v78 wc => ∃ (kq : Nat) (x78_45 : Bool), v78 = .bool x78_45 ∧ Aside0 (spec_DesirabilityOf.j2 kq x7_2 x8_2 x78_45 = some r) ∧ Aside0 (kq ≤ k2) ∧ Aside0 (wc.heap[gb101]? = some (.cells #[.int .i64 a0_0, .int .i64 a0_1] 25 (0, 0))) ∧ Aside0 (Below w.heap.size w wc))
                case first =>
                  have H := HC46.out
                  clear HC46
                  by_cases c48 : x7_2 = true
                  · subst c48
                    have H1 : (spec_DesirabilityOf.j2 k2 true x8_2 x8_2) = some r := by rw [if_pos rfl] at H; exact H
                    clear H
                    have H := H1
                    clear H1
                    have H' := Aside0.mk H
                    clear H
                    go_wp2
                    repeat (go_quiet (fail); try go_wp2)
                    go_meet
                    case rel => exact ⟨_, (x8_2), (by first | rfl | (simp; done) | (simp [*]; done)), H', ⟨by have := HJ3.out; have := HK2.out; first | omega | exact Nat.le_refl _⟩, ⟨by (with_reducible repeat (first | refine blk_drewN ?_ _ | refine blk_drew ?_ | refine blk_alloc ?_ _)); exact BK101.out⟩, ⟨by repeat (first | (with_reducible first | exact HB.out | apply below_alloc | apply pw_below_drewN | apply below_drew1 | refine below_set ?_ GE101.out) | exact HB.out)⟩⟩
                  · replace c48 := Bool.eq_false_iff.mpr c48
                    subst c48
                    have H1 : (spec_DesirabilityOf.j2 k2 false x8_2 false) = some r := by rw [if_neg (show ¬ (false = true) by decide)] at H; exact H
                    clear H
                    have H := H1
                    clear H1
                    have H' := Aside0.mk H
                    clear H
                    go_wp2
                    repeat (go_quiet (fail); try go_wp2)
                    go_meet
                    case rel => exact ⟨_, (false), (by first | rfl | (simp; done) | (simp [*]; done)), H', ⟨by have := HJ3.out; have := HK2.out; first | omega | exact Nat.le_refl _⟩, ⟨by (with_reducible repeat (first | refine blk_drewN ?_ _ | refine blk_drew ?_ | refine blk_alloc ?_ _)); exact BK101.out⟩, ⟨by repeat (first | (with_reducible first | exact HB.out | apply below_alloc | apply pw_below_drewN | apply below_drew1 | refine below_set ?_ GE101.out) | exact HB.out)⟩⟩
                case rest =>
                  clear HC46
                  try clear c1
                  try clear c2
                  try clear p2
                  try clear c3
                  try clear c4
                  try clear c5
                  try clear p6
                  try clear c7
                  try clear c9
                  try clear c19
                  try clear c20
                  try clear c20b0
                  try clear c20b1
                  try clear c22
                  try clear c22b0
                  try clear c23
                  try clear c23b0
                  try clear c23b1
                  try clear c25
                  try clear c25b0
                  try clear c25b1
                  try clear c27
                  try clear c27b0
                  try clear c27b1
                  try clear c29
                  try clear c29b0
                  try clear c29b1
                  try clear c31
                  try clear c31b0
                  try clear c33
                  try clear c33b0
                  try clear c33b1
                  try clear c35
                  try clear c35b0
                  try clear c37
                  try clear c37b0
                  try clear c37b1
                  try clear c39
                  try clear c40
                  try clear c43
                  try clear c48
                  try clear hcz11_0
                  try clear hcz11_1
                  try clear hcz13_0
                  try clear hcz13_1
                  try clear hcz14_0
                  try clear hcz14_1
                  try clear hcz16_0
                  try clear hcz16_1
                  try clear hcz17_0
                  try clear hcz17_1
                  try clear hcz26_0
                  try clear hcz26_1
                  try clear hcz30_0
                  try clear hcz30_1
                  try clear hcz41_0
                  try clear hcz41_1
                  try clear hcz42_0
                  try clear hcz42_1
                  try clear hcz44_0
                  try clear hcz44_1
                  try clear hcz45_0
                  try clear hcz45_1
                  try clear hcz47_0
                  try clear hcz47_1
                  try clear hfz11_0
                  try clear hfz11_1
                  try clear hfz13_0
                  try clear hfz13_1
                  try clear hfz14_0
                  try clear hfz14_1
                  try clear hfz16_0
                  try clear hfz16_1
                  try clear hfz17_0
                  try clear hfz17_1
                  try clear hfz26_0
                  try clear hfz26_1
                  try clear hfz30_0
                  try clear hfz30_1
                  try clear hfz41_0
                  try clear hfz41_1
                  try clear hfz42_0
                  try clear hfz42_1
                  try clear hfz44_0
                  try clear hfz44_1
                  try clear hfz45_0
                  try clear hfz45_1
                  try clear hfz47_0
                  try clear hfz47_1
                  try clear p2
                  try clear p6
                  obtain ⟨kq, x78_45, rfl, HA, HJ45, BK101, HB⟩ := hcut
                  cases kq with
                  | zero => exact absurd HA.out (by simp [spec_DesirabilityOf.j2])
                  | succ kj45 =>
                    have H := HA.out
                    clear HA
                    simp only [spec_DesirabilityOf.j2] at H
                    by_cases c49 : x78_45 = true
                    · subst c49
                      have H1 : (some 0) = some r := by rw [if_pos rfl] at H; exact H
                      clear H
                      have H := H1
                      clear H1
                      obtain rfl := Option.some.inj H
                      go_wp2
                      repeat (go_quiet (fail); try go_wp2)
                      go_ret
                      exact ⟨by first | rfl | (simp [errW_none, errW_some] <;> rfl) | (simp only [← hji21]; first | rfl | (simp [errW_none, errW_some] <;> rfl)) | (simp [*, errW_none, errW_some] <;> rfl), by repeat (first | (with_reducible first | exact HB.out | apply below_alloc | apply pw_below_drewN | apply below_drew1 | refine below_set ?_ GE101.out) | exact HB.out)⟩
                    · replace c49 := Bool.eq_false_iff.mpr c49
                      subst c49
                      have H1 : (if x7_2 = true then (some 1) else (if x8_2 = true then (some (-1)) else (some 2))) = some r := by rw [if_neg (show ¬ (false = true) by decide)] at H; exact H
                      clear H
                      have H := H1
                      clear H1
                      by_cases c50 : x7_2 = true
                      · subst c50
                        have H1 : (some 1) = some r := by rw [if_pos rfl] at H; exact H
                        clear H
                        have H := H1
                        clear H1
                        obtain rfl := Option.some.inj H
                        go_wp2
                        repeat (go_quiet (fail); try go_wp2)
                        go_ret
                        exact ⟨by first | rfl | (simp [errW_none, errW_some] <;> rfl) | (simp only [← hji21]; first | rfl | (simp [errW_none, errW_some] <;> rfl)) | (simp [*, errW_none, errW_some] <;> rfl), by repeat (first | (with_reducible first | exact HB.out | apply below_alloc | apply pw_below_drewN | apply below_drew1 | refine below_set ?_ GE101.out) | exact HB.out)⟩
                      · replace c50 := Bool.eq_false_iff.mpr c50
                        subst c50
                        have H1 : (if x8_2 = true then (some (-1)) else (some 2)) = some r := by rw [if_neg (show ¬ (false = true) by decide)] at H; exact H
                        clear H
                        have H := H1
                        clear H1
                        by_cases c51 : x8_2 = true
                        · subst c51
                          have H1 : (some (-1)) = some r := by rw [if_pos rfl] at H; exact H
                          clear H
                          have H := H1
                          clear H1
                          obtain rfl := Option.some.inj H
                          go_wp2
                          repeat (go_quiet (fail); try go_wp2)
                          go_ret
                          exact ⟨by first | rfl | (simp [errW_none, errW_some] <;> rfl) | (simp only [← hji21]; first | rfl | (simp [errW_none, errW_some] <;> rfl)) | (simp [*, errW_none, errW_some] <;> rfl), by repeat (first | (with_reducible first | exact HB.out | apply below_alloc | apply pw_below_drewN | apply below_drew1 | refine below_set ?_ GE101.out) | exact HB.out)⟩
                        · replace c51 := Bool.eq_false_iff.mpr c51
                          subst c51
                          have H1 : (some 2) = some r := by rw [if_neg (show ¬ (false = true) by decide)] at H; exact H
                          clear H
                          have H := H1
                          clear H1
                          obtain rfl := Option.some.inj H
                          go_wp2
                          repeat (go_quiet (fail); try go_wp2)
                          go_ret
                          exact ⟨by first | rfl | (simp [errW_none, errW_some] <;> rfl) | (simp only [← hji21]; first | rfl | (simp [errW_none, errW_some] <;> rfl)) | (simp [*, errW_none, errW_some] <;> rfl), by repeat (first | (with_reducible first | exact HB.out | apply below_alloc | apply pw_below_drewN | apply below_drew1 | refine below_set ?_ GE101.out) | exact HB.out)⟩
            · rw [if_neg c20] at H
              exact absurd H (by simp)

end Go.Proofs.Ytnkkkabdpbonaaa.F
