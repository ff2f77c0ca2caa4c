/- The walk of one Go function: a call of it ends as the Lean function of its name tells; the conditions are those of each theorem. -/
import Derived.Test.YtcgjlmgfmiacgaaF0
import Derived.Test.YtcgjlmgfmiacgaaFGa
import Derived.Test.YtcgjlmgfmiacgaaFspecMatrixOf
import Derived.Test.YtcgjlmgfmiacgaaBase
namespace Go.Proofs.Ytcgjlmgfmiacgaa.F
open Go.RowKit Go.Proofs.YtcgjlmgfmiacgaaW.PrintWords Go.Proofs.YtcgjlmgfmiacgaaW.PrintLast Go.Proofs.YtcgjlmgfmiacgaaW.PrintMore
attribute [local go_sem] max2_int min2_int max_two min_two max_three min_three max_four min_four   -- for this text's walks alone
set_option linter.unusedVariables false
set_option linter.unusedSimpArgs false

/-! ### spec_IsRectangle: function 11 -/
mutual
def spec_IsRectangle.j0 : Nat → Int → Int → Int → List Int → Bool → Int → Int → Option (Bool)
  | 0, _, _, _, _, _, _, _ => none
  | k + 1, x1, x2, x3, x9, x43, x102000, x102001 => if x43 = true then (some false) else (spec_IsRectangle.l0 k x1 x2 x3 x9 (-1) 0 x102000 x102001)
def spec_IsRectangle.l0 : Nat → Int → Int → Int → List Int → Int → Int → Int → Int → Option (Bool)
  | 0, _, _, _, _, _, _, _, _ => none
  | k + 1, x1, x2, x3, x9, x11, x12, x102000, x102001 => if x12 < (x9.length : Int) then (spec_IsRectangle.l1 k x1 x2 x3 x9 x11 x12 0 x102000 x102001) else (some true)
def spec_IsRectangle.l1 : Nat → Int → Int → Int → List Int → Int → Int → Int → Int → Int → Option (Bool)
  | 0, _, _, _, _, _, _, _, _, _ => none
  | k + 1, x1, x2, x3, x9, x11, x12, x13, x102000, x102001 => if 0 ≤ (wrap64 (x102000 - x1)) then (if x13 < (shl .i64 1 (wrap64 (x102000 - x1))) then (if 0 ≤ x12 then (if (Go.bits .and .i64 (shr .i64 x2 x12) 1) = 0 then (spec_IsRectangle.j3 k x1 x2 x3 x9 x11 x12 x13 true x102000 x102001) else (if 0 ≤ x13 then (spec_IsRectangle.j3 k x1 x2 x3 x9 x11 x12 x13 ((Go.bits .and .i64 (shr .i64 x3 x13) 1) == 0) x102000 x102001) else (none))) else (none)) else (spec_IsRectangle.l0 k x1 x2 x3 x9 x11 (wrap64 (x12 + 1)) x102000 x102001)) else (none)
def spec_IsRectangle.j3 : Nat → Int → Int → Int → List Int → Int → Int → Int → Bool → Int → Int → Option (Bool)
  | 0, _, _, _, _, _, _, _, _, _, _ => none
  | k + 1, x1, x2, x3, x9, x11, x12, x13, x70, x102000, x102001 => if x70 = true then (spec_IsRectangle.l1 k x1 x2 x3 x9 x11 x12 (wrap64 (x13 + 1)) x102000 x102001) else (if 0 ≤ x12 then (if x12 < (x9.length : Int) then (if 0 ≤ x13 then (if x11 ≥ 0 then (if (Go.bits .and .i64 (shr .i64 (rd x9 x12) x13) 1) = x11 then (spec_IsRectangle.l1 k x1 x2 x3 x9 (Go.bits .and .i64 (shr .i64 (rd x9 x12) x13) 1) x12 (wrap64 (x13 + 1)) x102000 x102001) else (some false)) else (spec_IsRectangle.l1 k x1 x2 x3 x9 (Go.bits .and .i64 (shr .i64 (rd x9 x12) x13) 1) x12 (wrap64 (x13 + 1)) x102000 x102001)) else (none)) else (none)) else (none))
end
def spec_IsRectangle.f (k : Nat) (a0_0 : Int) (a0_1 : Int) (a1 : Int) (a2 : Int) (a3 : Int) : Option (Bool) := (spec_MatrixOf.f k a0_0 a0_1 a1).bind fun bt102 => (if bt102.2 = true then ((spec_l1In.f a2 1 (wrap64 ((shl .i64 1 (bt102.1.length : Int)) - 1))).bind fun t106 => (if t106 = true then (if 0 ≤ (wrap64 (a0_0 - a1)) then ((spec_l1In.f a3 1 (wrap64 ((shl .i64 1 (shl .u64 1 (wrap64 (a0_0 - a1)))) - 1))).bind fun t107 => (spec_IsRectangle.j0 k a1 a2 a3 bt102.1 (!t107) a0_0 a0_1)) else (none)) else (spec_IsRectangle.j0 k a1 a2 a3 bt102.1 true a0_0 a0_1))) else (spec_IsRectangle.j0 k a1 a2 a3 bt102.1 true a0_0 a0_1))
theorem spec_IsRectangle.mono_l : ∀ k, (∀ y0 y1 y2 y3 y4 y5 y6, LeO (spec_IsRectangle.j0 k y0 y1 y2 y3 y4 y5 y6) (spec_IsRectangle.j0 (k + 1) y0 y1 y2 y3 y4 y5 y6)) ∧ (∀ y0 y1 y2 y3 y4 y5 y6 y7, LeO (spec_IsRectangle.l0 k y0 y1 y2 y3 y4 y5 y6 y7) (spec_IsRectangle.l0 (k + 1) y0 y1 y2 y3 y4 y5 y6 y7)) ∧ (∀ y0 y1 y2 y3 y4 y5 y6 y7 y8, LeO (spec_IsRectangle.l1 k y0 y1 y2 y3 y4 y5 y6 y7 y8) (spec_IsRectangle.l1 (k + 1) y0 y1 y2 y3 y4 y5 y6 y7 y8)) ∧ (∀ y0 y1 y2 y3 y4 y5 y6 y7 y8 y9, LeO (spec_IsRectangle.j3 k y0 y1 y2 y3 y4 y5 y6 y7 y8 y9) (spec_IsRectangle.j3 (k + 1) y0 y1 y2 y3 y4 y5 y6 y7 y8 y9))
  | 0 => ⟨fun _ _ _ _ _ _ _ r h => by simp [spec_IsRectangle.j0] at h, fun _ _ _ _ _ _ _ _ r h => by simp [spec_IsRectangle.l0] at h, fun _ _ _ _ _ _ _ _ _ r h => by simp [spec_IsRectangle.l1] at h, fun _ _ _ _ _ _ _ _ _ _ r h => by simp [spec_IsRectangle.j3] at h⟩
  | k + 1 => by
    obtain ⟨ih0, ih1, ih2, ih3⟩ := spec_IsRectangle.mono_l k
    refine ⟨?_, ?_, ?_, ?_⟩
    · intro y0 y1 y2 y3 y4 y5 y6
      unfold spec_IsRectangle.j0
      repeat' first
      | (with_reducible exact ih0 _ _ _ _ _ _ _)
      | (with_reducible exact ih1 _ _ _ _ _ _ _ _)
      | (with_reducible exact ih2 _ _ _ _ _ _ _ _ _)
      | (with_reducible exact ih3 _ _ _ _ _ _ _ _ _ _)
      | (with_reducible exact spec_MatrixOf.mono _ _ _ _)
      | (with_reducible exact LeO.refl _)
      | (with_reducible exact LeO.none _)
      | (with_reducible refine LeO.ite ?_ ?_)
      | (with_reducible refine LeO.bind ?_ (fun _ => ?_))
      | exact ih0 _ _ _ _ _ _ _
      | exact ih1 _ _ _ _ _ _ _ _
      | exact ih2 _ _ _ _ _ _ _ _ _
      | exact ih3 _ _ _ _ _ _ _ _ _ _
      | exact spec_MatrixOf.mono _ _ _ _
      | exact LeO.none _
      | refine LeO.ite ?_ ?_
      | refine LeO.bind ?_ (fun _ => ?_)
    · intro y0 y1 y2 y3 y4 y5 y6 y7
      unfold spec_IsRectangle.l0
      repeat' first
      | (with_reducible exact ih0 _ _ _ _ _ _ _)
      | (with_reducible exact ih1 _ _ _ _ _ _ _ _)
      | (with_reducible exact ih2 _ _ _ _ _ _ _ _ _)
      | (with_reducible exact ih3 _ _ _ _ _ _ _ _ _ _)
      | (with_reducible exact spec_MatrixOf.mono _ _ _ _)
      | (with_reducible exact LeO.refl _)
      | (with_reducible exact LeO.none _)
      | (with_reducible refine LeO.ite ?_ ?_)
      | (with_reducible refine LeO.bind ?_ (fun _ => ?_))
      | exact ih0 _ _ _ _ _ _ _
      | exact ih1 _ _ _ _ _ _ _ _
      | exact ih2 _ _ _ _ _ _ _ _ _
      | exact ih3 _ _ _ _ _ _ _ _ _ _
      | exact spec_MatrixOf.mono _ _ _ _
      | exact LeO.none _
      | refine LeO.ite ?_ ?_
      | refine LeO.bind ?_ (fun _ => ?_)
    · intro y0 y1 y2 y3 y4 y5 y6 y7 y8
      unfold spec_IsRectangle.l1
      repeat' first
      | (with_reducible exact ih0 _ _ _ _ _ _ _)
      | (with_reducible exact ih1 _ _ _ _ _ _ _ _)
      | (with_reducible exact ih2 _ _ _ _ _ _ _ _ _)
      | (with_reducible exact ih3 _ _ _ _ _ _ _ _ _ _)
      | (with_reducible exact spec_MatrixOf.mono _ _ _ _)
      | (with_reducible exact LeO.refl _)
      | (with_reducible exact LeO.none _)
      | (with_reducible refine LeO.ite ?_ ?_)
      | (with_reducible refine LeO.bind ?_ (fun _ => ?_))
      | exact ih0 _ _ _ _ _ _ _
      | exact ih1 _ _ _ _ _ _ _ _
      | exact ih2 _ _ _ _ _ _ _ _ _
      | exact ih3 _ _ _ _ _ _ _ _ _ _
      | exact spec_MatrixOf.mono _ _ _ _
      | exact LeO.none _
      | refine LeO.ite ?_ ?_
      | refine LeO.bind ?_ (fun _ => ?_)
    · intro y0 y1 y2 y3 y4 y5 y6 y7 y8 y9
      unfold spec_IsRectangle.j3
      repeat' first
      | (with_reducible exact ih0 _ _ _ _ _ _ _)
      | (with_reducible exact ih1 _ _ _ _ _ _ _ _)
      | (with_reducible exact ih2 _ _ _ _ _ _ _ _ _)
      | (with_reducible exact ih3 _ _ _ _ _ _ _ _ _ _)
      | (with_reducible exact spec_MatrixOf.mono _ _ _ _)
      | (with_reducible exact LeO.refl _)
      | (with_reducible exact LeO.none _)
      | (with_reducible refine LeO.ite ?_ ?_)
      | (with_reducible refine LeO.bind ?_ (fun _ => ?_))
      | exact ih0 _ _ _ _ _ _ _
      | exact ih1 _ _ _ _ _ _ _ _
      | exact ih2 _ _ _ _ _ _ _ _ _
      | exact ih3 _ _ _ _ _ _ _ _ _ _
      | exact spec_MatrixOf.mono _ _ _ _
      | exact LeO.none _
      | refine LeO.ite ?_ ?_
      | refine LeO.bind ?_ (fun _ => ?_)
theorem spec_IsRectangle.mono : ∀ a0 a1 a2 a3 a4 k, LeO (spec_IsRectangle.f k a0 a1 a2 a3 a4) (spec_IsRectangle.f (k + 1) a0 a1 a2 a3 a4) := by
  intro a0 a1 a2 a3 a4 k
  obtain ⟨ih0, ih1, ih2, ih3⟩ := spec_IsRectangle.mono_l k
  unfold spec_IsRectangle.f
  repeat' first
      | (with_reducible exact ih0 _ _ _ _ _ _ _)
      | (with_reducible exact ih1 _ _ _ _ _ _ _ _)
      | (with_reducible exact ih2 _ _ _ _ _ _ _ _ _)
      | (with_reducible exact ih3 _ _ _ _ _ _ _ _ _ _)
      | (with_reducible exact spec_MatrixOf.mono _ _ _ _)
      | (with_reducible exact LeO.refl _)
      | (with_reducible exact LeO.none _)
      | (with_reducible refine LeO.ite ?_ ?_)
      | (with_reducible refine LeO.bind ?_ (fun _ => ?_))
      | exact ih0 _ _ _ _ _ _ _
      | exact ih1 _ _ _ _ _ _ _ _
      | exact ih2 _ _ _ _ _ _ _ _ _
      | exact ih3 _ _ _ _ _ _ _ _ _ _
      | exact spec_MatrixOf.mono _ _ _ _
      | exact LeO.none _
      | refine LeO.ite ?_ ?_
      | refine LeO.bind ?_ (fun _ => ?_)
set_option maxHeartbeats 8000000 in
set_option maxRecDepth 100000 in
theorem spec_IsRectangle.calls (k : Nat) (a0_0 : Int) (a0_1 : Int) (a1 : Int) (a2 : Int) (a3 : Int) (r : Bool) (w : World) (h : spec_IsRectangle.f k a0_0 a0_1 a1 a2 a3 = some r) :
    Calls Try.prog 11 #[.agg #[.int .i64 a0_0, .int .i64 a0_1], .int .i64 a1, .int .i64 a2, .int .i64 a3] w fun e w' => e = .returned (.bool r) ∧ Below w.heap.size w w' := by
  have hu25 := Try.underlying25
  have HB := Aside0.mk (Below.refl w.heap.size w)
  have H : ((spec_MatrixOf.f k a0_0 a0_1 a1).bind fun bt102 => (if bt102.2 = true then ((spec_l1In.f a2 1 (wrap64 ((shl .i64 1 (bt102.1.length : Int)) - 1))).bind fun t106 => (if t106 = true then (if 0 ≤ (wrap64 (a0_0 - a1)) then ((spec_l1In.f a3 1 (wrap64 ((shl .i64 1 (shl .u64 1 (wrap64 (a0_0 - a1)))) - 1))).bind fun t107 => (spec_IsRectangle.j0 k a1 a2 a3 bt102.1 (!t107) a0_0 a0_1)) else (none)) else (spec_IsRectangle.j0 k a1 a2 a3 bt102.1 true a0_0 a0_1))) else (spec_IsRectangle.j0 k a1 a2 a3 bt102.1 true a0_0 a0_1))) = some r := h
  clear h
  replace H := Option.bind_eq_some_iff.mp H
  obtain ⟨⟨t102, t105⟩, A50, H⟩ := H
  replace H : (if t105 = true then ((spec_l1In.f a2 1 (wrap64 ((shl .i64 1 (t102.length : Int)) - 1))).bind fun t106 => (if t106 = true then (if 0 ≤ (wrap64 (a0_0 - a1)) then ((spec_l1In.f a3 1 (wrap64 ((shl .i64 1 (shl .u64 1 (wrap64 (a0_0 - a1)))) - 1))).bind fun t107 => (spec_IsRectangle.j0 k a1 a2 a3 t102 (!t107) a0_0 a0_1)) else (none)) else (spec_IsRectangle.j0 k a1 a2 a3 t102 true a0_0 a0_1))) else (spec_IsRectangle.j0 k a1 a2 a3 t102 true a0_0 a0_1)) = some r := H
  have A5 := Aside0.mk A50
  clear A50
  have HC6 := Aside0.mk H
  clear H
  go_enter Try.func11, Try.ntmps11
  go_upto_region 2 with (first | ((with_reducible refine gate_dst (N := 4) rfl ?_); (try (refine gate_guard (by rfl) ?_; dsimp only)); refine box_event ?hg (N := 4) ?hd (cs := #[.int .i64 a0_0, .int .i64 a0_1]) (t := 25) ?hr ?_; (case hd => rfl); (case hg => rfl); (case hr => first | (go_simp; done) | (go_simp; rfl)); intro gb101 hg w7 hbox hb; have n0_ := Aside0.mk (below_step (by repeat (first | (with_reducible first | exact HB.out | apply below_alloc | apply pw_below_drewN | apply below_drew1) | exact HB.out)) hb); have n1_ := Aside0.mk (hbox); have n2_ := Aside0.mk ((by rw [hg]; exact (below_size (by repeat (first | (with_reducible first | exact HB.out | apply below_alloc | apply pw_below_drewN | apply below_drew1) | exact HB.out))) : w.heap.size ≤ gb101)); have n3_ := Aside0.mk ((by rw [hg]; exact (below_size (by repeat (first | (with_reducible first | exact HB.out | apply below_alloc | apply pw_below_drewN | apply below_drew1) | exact HB.out))) : w.heap.size ≤ gb101)); clear HB; have HB := n0_; have BK101 := n1_; have GW101 := n2_; have GE101 := n3_; clear n0_ n1_ n2_ n3_; clear hb hbox hg; have hcz8_0 : w7.cell? ⟨gb101, 0, none⟩ = some (.int .i64 a0_0) := (blk_cell BK101.out 0).trans rfl; have hcz8_1 : w7.cell? ⟨gb101, 1, none⟩ = some (.int .i64 a0_1) := (blk_cell BK101.out 1).trans rfl; have hfz8_0 := blk_frozen BK101.out 0; have hfz8_1 := blk_frozen BK101.out 1) | ((with_reducible refine gate_callee (f := 21) rfl ?_); refine goesL_ (some 18) rfl rfl Try.func21 (by kernel_rfl) rfl #[.agg #[.int .i64 a0_0, .int .i64 a0_1], .int .i64 a1] rfl (by (try simp only [List.map_toArray, List.map_cons, List.map_nil]); first | done | rfl | (simp only [List.length_drop, List.length_take]; rfl)) ?_; (with_reducible refine (spec_MatrixOf.calls k a0_0 a0_1 a1 t102 t105 _ A5.out).mono ?_); rintro e w9 ⟨v103, rfl, ho0, hb⟩; refine ⟨_, rfl, ?_⟩; have n0_ := Aside0.mk (Kd.R_lower ho0 (below_size (by repeat (first | (with_reducible first | exact HB.out | apply below_alloc | apply pw_below_drewN | apply below_drew1 | refine below_set ?_ GE101.out) | exact HB.out)))); have n1_ := Aside0.mk (blk_below (g := gb101) (o := .cells #[.int .i64 a0_0, .int .i64 a0_1] 25 (0, 0)) (by (with_reducible repeat (first | refine blk_drewN ?_ _ | refine blk_drew ?_ | refine blk_alloc ?_ _)); exact BK101.out) hb); have n2_ := Aside0.mk (below_step (by repeat (first | (with_reducible first | exact HB.out | apply below_alloc | apply pw_below_drewN | apply below_drew1 | refine below_set ?_ GE101.out) | exact HB.out)) hb); clear BK101; clear HB; have HO104 := n0_; have BK101 := n1_; have HB := n2_; clear n0_ n1_ n2_; (try clear hb); (try clear hb2); (try clear hk); (try clear hi); (try clear ho0)))
  (try simp only [Act.put, List.setIfInBounds_toArray, List.set_cons_zero, List.set_cons_succ])
  go_cut [43] (fun v43 wc => ∃ (kq : Nat) (x43_5 : Bool), v43 = .bool x43_5 ∧ Aside0 (spec_IsRectangle.j0 kq a1 a2 a3 t102 x43_5 a0_0 a0_1 = some r) ∧ Aside0 (kq ≤ k) ∧ Aside0 (Kd.R (Kd.int .i64) 3 wc w.heap.size (fun _ => True) v103 t102) ∧ Aside0 (wc.heap[gb101]? = some (.cells #[.int .i64 a0_0, .int .i64 a0_1] 25 (0, 0))) ∧ Aside0 (Below w.heap.size w wc))
  case first =>
    have H := HC6.out
    clear HC6
    by_cases c10 : t105 = true
    · subst c10
      have H1 : ((spec_l1In.f a2 1 (wrap64 ((shl .i64 1 (t102.length : Int)) - 1))).bind fun t106 => (if t106 = true then (if 0 ≤ (wrap64 (a0_0 - a1)) then ((spec_l1In.f a3 1 (wrap64 ((shl .i64 1 (shl .u64 1 (wrap64 (a0_0 - a1)))) - 1))).bind fun t107 => (spec_IsRectangle.j0 k a1 a2 a3 t102 (!t107) a0_0 a0_1)) else (none)) else (spec_IsRectangle.j0 k a1 a2 a3 t102 true a0_0 a0_1))) = some r := by rw [if_pos rfl] at H; exact H
      clear H
      have H := H1
      clear H1
      obtain ⟨ji11, hji11⟩ : ∃ j_ : Int, (shl .i64 1 (t102.length : Int)) = j_ := ⟨_, rfl⟩
      replace H : ((spec_l1In.f a2 1 (wrap64 ((ji11) - 1))).bind fun t106 => (if t106 = true then (if 0 ≤ (wrap64 (a0_0 - a1)) then ((spec_l1In.f a3 1 (wrap64 ((shl .i64 1 (shl .u64 1 (wrap64 (a0_0 - a1)))) - 1))).bind fun t107 => (spec_IsRectangle.j0 k a1 a2 a3 t102 (!t107) a0_0 a0_1)) else (none)) else (spec_IsRectangle.j0 k a1 a2 a3 t102 true a0_0 a0_1))) = some r := by first | (rw [hji11] at H; exact H) | (simp only [hji11] at H ⊢; exact H)
      have hji11_ : (IntKind.i64.wrap (1 * 2 ^ min (t102.length : Int).toNat 64)) = ji11 := hji11
      have hji11z : (t102.length : Int) ≤ 64 → (IntKind.i64.wrap (1 * 2 ^ (t102.length : Int).toNat)) = ji11 := shl_small hji11
      have hji11p : (IntKind.i64.wrap (1 * 2 ^ min t102.length 64)) = ji11 := hji11_
      have hji11q : (t102.length : Int) ≤ 64 → (IntKind.i64.wrap (1 * 2 ^ t102.length)) = ji11 := hji11z
      have hji11r : (IntKind.i64.wrap (2 ^ min t102.length 64)) = ji11 := by have h_ := hji11p; rw [Int.one_mul] at h_; exact h_
      have hji11s : (t102.length : Int) ≤ 64 → (IntKind.i64.wrap (2 ^ t102.length)) = ji11 := fun hle_ => by have h_ := hji11q hle_; rw [Int.one_mul] at h_; exact h_
      have hji11u : (IntKind.i64.wrap (2 ^ min (t102.length : Int).toNat 64)) = ji11 := by have h_ := hji11_; rw [Int.one_mul] at h_; exact h_
      have hji11v : (t102.length : Int) ≤ 64 → (IntKind.i64.wrap (2 ^ (t102.length : Int).toNat)) = ji11 := fun hle_ => by have h_ := hji11z hle_; rw [Int.one_mul] at h_; exact h_
      have hji11y : (wrap64 (1 * 2 ^ min (t102.length : Int).toNat 64)) = ji11 := (i64_w _).symm.trans hji11_
      have hji11x : (t102.length : Int) ≤ 64 → (wrap64 (1 * 2 ^ (t102.length : Int).toNat)) = ji11 := fun h_ => (i64_w _).symm.trans (hji11z h_)
      replace H := Option.bind_eq_some_iff.mp H
      obtain ⟨t106, A120, H⟩ := H
      replace H : (if t106 = true then (if 0 ≤ (wrap64 (a0_0 - a1)) then ((spec_l1In.f a3 1 (wrap64 ((shl .i64 1 (shl .u64 1 (wrap64 (a0_0 - a1)))) - 1))).bind fun t107 => (spec_IsRectangle.j0 k a1 a2 a3 t102 (!t107) a0_0 a0_1)) else (none)) else (spec_IsRectangle.j0 k a1 a2 a3 t102 true a0_0 a0_1)) = some r := H
      have A12 := Aside0.mk A120
      clear A120
      by_cases c13 : t106 = true
      · subst c13
        have H1 : (if 0 ≤ (wrap64 (a0_0 - a1)) then ((spec_l1In.f a3 1 (wrap64 ((shl .i64 1 (shl .u64 1 (wrap64 (a0_0 - a1)))) - 1))).bind fun t107 => (spec_IsRectangle.j0 k a1 a2 a3 t102 (!t107) a0_0 a0_1)) else (none)) = some r := by rw [if_pos rfl] at H; exact H
        clear H
        have H := H1
        clear H1
        obtain ⟨ji14, hji14⟩ : ∃ j_ : Int, (wrap64 (a0_0 - a1)) = j_ := ⟨_, rfl⟩
        replace H : (if 0 ≤ (ji14) then ((spec_l1In.f a3 1 (wrap64 ((shl .i64 1 (shl .u64 1 (ji14))) - 1))).bind fun t107 => (spec_IsRectangle.j0 k a1 a2 a3 t102 (!t107) a0_0 a0_1)) else (none)) = some r := by first | (rw [hji14] at H; exact H) | (simp only [hji14] at H ⊢; exact H)
        (try rw [hji14] at A12)
        have hji14w : (IntKind.i64.wrap (a0_0 - a1)) = ji14 := (i64_w _).trans hji14
        by_cases c15 : 0 ≤ (ji14)
        · rw [if_pos c15] at H
          have c15b0 := eq_true c15
          have c15b1 : decide (0 ≤ (ji14)) = true := decide_eq_true c15
          clear c15
          obtain ⟨ji16, hji16⟩ : ∃ j_ : Int, (shl .u64 1 (ji14)) = j_ := ⟨_, rfl⟩
          have hji16n := eq_true (show 0 ≤ ji16 by rw [← hji16]; exact B.shlu_nonneg _ _)
          replace H : ((spec_l1In.f a3 1 (wrap64 ((shl .i64 1 (ji16)) - 1))).bind fun t107 => (spec_IsRectangle.j0 k a1 a2 a3 t102 (!t107) a0_0 a0_1)) = some r := by first | (rw [hji16] at H; exact H) | (simp only [hji16] at H ⊢; exact H)
          (try rw [hji16] at A12)
          have hji16_ : (IntKind.u64.wrap (1 * 2 ^ min (ji14).toNat 64)) = ji16 := hji16
          have hji16z : (ji14) ≤ 64 → (IntKind.u64.wrap (1 * 2 ^ (ji14).toNat)) = ji16 := shl_small hji16
          have hji16u : (IntKind.u64.wrap (2 ^ min (ji14).toNat 64)) = ji16 := by have h_ := hji16_; rw [Int.one_mul] at h_; exact h_
          have hji16v : (ji14) ≤ 64 → (IntKind.u64.wrap (2 ^ (ji14).toNat)) = ji16 := fun hle_ => by have h_ := hji16z hle_; rw [Int.one_mul] at h_; exact h_
          obtain ⟨ji17, hji17⟩ : ∃ j_ : Int, (shl .i64 1 (ji16)) = j_ := ⟨_, rfl⟩
          replace H : ((spec_l1In.f a3 1 (wrap64 ((ji17) - 1))).bind fun t107 => (spec_IsRectangle.j0 k a1 a2 a3 t102 (!t107) a0_0 a0_1)) = some r := by first | (rw [hji17] at H; exact H) | (simp only [hji17] at H ⊢; exact H)
          (try rw [hji17] at A12)
          have hji17_ : (IntKind.i64.wrap (1 * 2 ^ min (ji16).toNat 64)) = ji17 := hji17
          have hji17z : (ji16) ≤ 64 → (IntKind.i64.wrap (1 * 2 ^ (ji16).toNat)) = ji17 := shl_small hji17
          have hji17u : (IntKind.i64.wrap (2 ^ min (ji16).toNat 64)) = ji17 := by have h_ := hji17_; rw [Int.one_mul] at h_; exact h_
          have hji17v : (ji16) ≤ 64 → (IntKind.i64.wrap (2 ^ (ji16).toNat)) = ji17 := fun hle_ => by have h_ := hji17z hle_; rw [Int.one_mul] at h_; exact h_
          have hji17y : (wrap64 (1 * 2 ^ min (ji16).toNat 64)) = ji17 := (i64_w _).symm.trans hji17_
          have hji17x : (ji16) ≤ 64 → (wrap64 (1 * 2 ^ (ji16).toNat)) = ji17 := fun h_ => (i64_w _).symm.trans (hji17z h_)
          replace H := Option.bind_eq_some_iff.mp H
          obtain ⟨t107, A180, H⟩ := H
          replace H : (spec_IsRectangle.j0 k a1 a2 a3 t102 (!t107) a0_0 a0_1) = some r := H
          have A18 := Aside0.mk A180
          clear A180
          have H' := Aside0.mk H
          clear H
          obtain ⟨Ao19, co19, eo19⟩ := Kd.R_slice HO104.out
          subst eo19
          go_wp2_with (first | (go_at_call 33; (with_reducible refine (spec_l1In.calls a2 1 (wrap64 ((ji11) - 1)) true _ A12.out).mono ?_); rintro e w' ⟨rfl, ⟨nd, rfl⟩⟩; have hcz20_0 : w9.cell? ⟨gb101, 0, none⟩ = some (.int .i64 a0_0) := (blk_cell BK101.out 0).trans rfl; have hcz20_1 : w9.cell? ⟨gb101, 1, none⟩ = some (.int .i64 a0_1) := (blk_cell BK101.out 1).trans rfl; have hfz20_0 := blk_frozen BK101.out 0; have hfz20_1 := blk_frozen BK101.out 1) | (go_at_call 33; (with_reducible refine (spec_l1In.calls a3 1 (wrap64 ((ji17) - 1)) t107 _ A18.out).mono ?_); rintro e w' ⟨rfl, ⟨nd, rfl⟩⟩))
          go_meet
          case rel => exact ⟨_, (!t107), (by first | rfl | (simp; done) | (simp [*]; done)), H', ⟨by first | omega | exact Nat.le_refl _⟩, ⟨by (with_reducible repeat (first | apply Kd.R_alloc | apply Kd.R_drewN | apply Kd.R_drew)); exact HO104.out⟩, ⟨by (with_reducible repeat (first | refine blk_drewN ?_ _ | refine blk_drew ?_ | refine blk_alloc ?_ _)); exact BK101.out⟩, ⟨by repeat (first | (with_reducible first | exact HB.out | apply below_alloc | apply pw_below_drewN | apply below_drew1 | refine below_set ?_ GE101.out) | exact HB.out)⟩⟩
        · rw [if_neg c15] at H
          exact absurd H (by simp)
      · replace c13 := Bool.eq_false_iff.mpr c13
        subst c13
        have H1 : (spec_IsRectangle.j0 k a1 a2 a3 t102 true a0_0 a0_1) = some r := by rw [if_neg (show ¬ (false = true) by decide)] at H; exact H
        clear H
        have H := H1
        clear H1
        have H' := Aside0.mk H
        clear H
        obtain ⟨Ao21, co21, eo21⟩ := Kd.R_slice HO104.out
        subst eo21
        go_wp2_with (first | (go_at_call 33; (with_reducible refine (spec_l1In.calls a2 1 (wrap64 ((ji11) - 1)) false _ A12.out).mono ?_); rintro e w' ⟨rfl, ⟨nd, rfl⟩⟩))
        go_meet
        case rel => exact ⟨_, (true), (by first | rfl | (simp; done) | (simp [*]; done)), H', ⟨by first | omega | exact Nat.le_refl _⟩, ⟨by (with_reducible repeat (first | apply Kd.R_alloc | apply Kd.R_drewN | apply Kd.R_drew)); exact HO104.out⟩, ⟨by (with_reducible repeat (first | refine blk_drewN ?_ _ | refine blk_drew ?_ | refine blk_alloc ?_ _)); exact BK101.out⟩, ⟨by repeat (first | (with_reducible first | exact HB.out | apply below_alloc | apply pw_below_drewN | apply below_drew1 | refine below_set ?_ GE101.out) | exact HB.out)⟩⟩
    · replace c10 := Bool.eq_false_iff.mpr c10
      subst c10
      have H1 : (spec_IsRectangle.j0 k a1 a2 a3 t102 true a0_0 a0_1) = some r := by rw [if_neg (show ¬ (false = true) by decide)] at H; exact H
      clear H
      have H := H1
      clear H1
      have H' := Aside0.mk H
      clear H
      go_wp2
      go_meet
      case rel => exact ⟨_, (true), (by first | rfl | (simp; done) | (simp [*]; done)), H', ⟨by first | omega | exact Nat.le_refl _⟩, ⟨by (with_reducible repeat (first | apply Kd.R_alloc | apply Kd.R_drewN | apply Kd.R_drew)); exact HO104.out⟩, ⟨by (with_reducible repeat (first | refine blk_drewN ?_ _ | refine blk_drew ?_ | refine blk_alloc ?_ _)); exact BK101.out⟩, ⟨by repeat (first | (with_reducible first | exact HB.out | apply below_alloc | apply pw_below_drewN | apply below_drew1 | refine below_set ?_ GE101.out) | exact HB.out)⟩⟩
  case rest =>
    clear HC6
    try clear c1
    try clear c2
    try clear p2
    try clear p6
    try clear c10
    try clear c11
    try clear c13
    try clear c15
    try clear c15b0
    try clear c15b1
    try clear c21
    try clear hcz20_0
    try clear hcz20_1
    try clear hcz8_0
    try clear hcz8_1
    try clear hfz20_0
    try clear hfz20_1
    try clear hfz8_0
    try clear hfz8_1
    obtain ⟨kq, x43_5, rfl, HA, HJ5, HO_9, BK101, HB⟩ := hcut
    cases kq with
    | zero => exact absurd HA.out (by simp [spec_IsRectangle.j0])
    | succ kj5 =>
      have H := HA.out
      clear HA
      simp only [spec_IsRectangle.j0] at H
      by_cases c22 : x43_5 = true
      · subst c22
        have H1 : (some false) = some r := by rw [if_pos rfl] at H; exact H
        clear H
        have H := H1
        clear H1
        obtain rfl := Option.some.inj H
        go_wp2
        go_ret
        exact ⟨by first | rfl | (simp [errW_none, errW_some] <;> rfl) | (simp [*, errW_none, errW_some] <;> rfl), by repeat (first | (with_reducible first | exact HB.out | apply below_alloc | apply pw_below_drewN | apply below_drew1 | refine below_set ?_ GE101.out) | exact HB.out)⟩
      · replace c22 := Bool.eq_false_iff.mpr c22
        subst c22
        have H1 : (spec_IsRectangle.l0 kj5 a1 a2 a3 t102 (-1) 0 a0_0 a0_1) = some r := by rw [if_neg (show ¬ (false = true) by decide)] at H; exact H
        clear H
        have H := H1
        clear H1
        have H' := Aside0.mk H
        clear H
        go_wp2
        go_loopg [11, 12] kj5 (fun kq v11 v12 w' => ∃ (x11_2 : Int) (x12_2 : Int), v11 = .int .i64 x11_2 ∧ v12 = .int .i64 x12_2 ∧ Aside0 (spec_IsRectangle.l0 kq a1 a2 a3 t102 x11_2 x12_2 a0_0 a0_1 = some r) ∧ Aside0 (kq ≤ kj5) ∧ Aside0 (Kd.R (Kd.int .i64) 3 w' w.heap.size (fun _ => True) v103 t102) ∧ Aside0 (w'.heap[gb101]? = some (.cells #[.int .i64 a0_0, .int .i64 a0_1] 25 (0, 0))) ∧ Aside0 (Below w.heap.size w w'))
        case atStart => exact ⟨((-1)), (0), (by first | rfl | (simp; done) | (simp [*]; done)), (by first | rfl | (simp; done) | (simp [*]; done)), H', ⟨Nat.le_refl _⟩, ⟨by (with_reducible repeat (first | apply Kd.R_alloc | apply Kd.R_drewN | apply Kd.R_drew)); exact HO_9.out⟩, ⟨by (with_reducible repeat (first | refine blk_drewN ?_ _ | refine blk_drew ?_ | refine blk_alloc ?_ _)); exact BK101.out⟩, ⟨by repeat (first | (with_reducible first | exact HB.out | apply below_alloc | apply pw_below_drewN | apply below_drew1 | refine below_set ?_ GE101.out) | exact HB.out)⟩⟩
        case round =>
          clear H'
          try clear c1
          try clear c2
          try clear p2
          try clear p6
          try clear c10
          try clear c11
          try clear c13
          try clear c15
          try clear c15b0
          try clear c15b1
          try clear c21
          try clear c22
          try clear hcz20_0
          try clear hcz20_1
          try clear hcz8_0
          try clear hcz8_1
          try clear hfz20_0
          try clear hfz20_1
          try clear hfz8_0
          try clear hfz8_1
          try clear p2
          try clear p6
          obtain ⟨x11_2, x12_2, rfl, rfl, HA, HK2, HO_9, BK101, HB⟩ := hrel
          cases gk with
          | zero => exact absurd HA.out (by simp [spec_IsRectangle.l0])
          | succ k2 =>
            have H := HA.out
            clear HA
            simp only [spec_IsRectangle.l0] at H
            by_cases c23 : x12_2 < (t102.length : Int)
            · rw [if_pos c23] at H
              have c23b0 : decide (x12_2 < (t102.length : Int)) = true := decide_eq_true c23
              clear c23
              have H' := Aside0.mk H
              clear H
              obtain ⟨Ao24, co24, eo24⟩ := Kd.R_slice HO_9.out
              subst eo24
              go_wp2
              go_loopg [11, 13] k2 (fun kq v11 v13 w' => ∃ (x11_3 : Int) (x13_3 : Int), v11 = .int .i64 x11_3 ∧ v13 = .int .i64 x13_3 ∧ Aside0 (spec_IsRectangle.l1 kq a1 a2 a3 t102 x11_3 x12_2 x13_3 a0_0 a0_1 = some r) ∧ Aside0 (kq ≤ k2) ∧ Aside0 (Kd.R (Kd.int .i64) 3 w' w.heap.size (fun _ => True) (.slice Ao24 t102.length co24) t102) ∧ Aside0 (w'.heap[gb101]? = some (.cells #[.int .i64 a0_0, .int .i64 a0_1] 25 (0, 0))) ∧ Aside0 (Below w.heap.size w w'))
              case atStart => exact ⟨(x11_2), (0), (by first | rfl | (simp; done) | (simp [*]; done)), (by first | rfl | (simp; done) | (simp [*]; done)), H', ⟨Nat.le_refl _⟩, ⟨by (with_reducible repeat (first | apply Kd.R_alloc | apply Kd.R_drewN | apply Kd.R_drew)); exact HO_9.out⟩, ⟨by (with_reducible repeat (first | refine blk_drewN ?_ _ | refine blk_drew ?_ | refine blk_alloc ?_ _)); exact BK101.out⟩, ⟨by repeat (first | (with_reducible first | exact HB.out | apply below_alloc | apply pw_below_drewN | apply below_drew1 | refine below_set ?_ GE101.out) | exact HB.out)⟩⟩
              case round =>
                clear H'
                try clear c1
                try clear c2
                try clear p2
                try clear p6
                try clear c10
                try clear c11
                try clear c13
                try clear c15
                try clear c15b0
                try clear c15b1
                try clear c21
                try clear c22
                try clear c23
                try clear c23b0
                try clear hcz20_0
                try clear hcz20_1
                try clear hcz8_0
                try clear hcz8_1
                try clear hfz20_0
                try clear hfz20_1
                try clear hfz8_0
                try clear hfz8_1
                try clear p2
                try clear p6
                obtain ⟨x11_3, x13_3, rfl, rfl, HA, HK3, HO_9, BK101, HB⟩ := hrel
                cases gk with
                | zero => exact absurd HA.out (by simp [spec_IsRectangle.l1])
                | succ k3 =>
                  have H := HA.out
                  clear HA
                  simp only [spec_IsRectangle.l1] at H
                  obtain ⟨ji25, hji25⟩ : ∃ j_ : Int, (wrap64 (a0_0 - a1)) = j_ := ⟨_, rfl⟩
                  replace H : (if 0 ≤ (ji25) then (if x13_3 < (shl .i64 1 (ji25)) then (if 0 ≤ x12_2 then (if (Go.bits .and .i64 (shr .i64 a2 x12_2) 1) = 0 then (spec_IsRectangle.j3 k3 a1 a2 a3 t102 x11_3 x12_2 x13_3 true a0_0 a0_1) else (if 0 ≤ x13_3 then (spec_IsRectangle.j3 k3 a1 a2 a3 t102 x11_3 x12_2 x13_3 ((Go.bits .and .i64 (shr .i64 a3 x13_3) 1) == 0) a0_0 a0_1) else (none))) else (none)) else (spec_IsRectangle.l0 k3 a1 a2 a3 t102 x11_3 (wrap64 (x12_2 + 1)) a0_0 a0_1)) else (none)) = some r := by first | (rw [hji25] at H; exact H) | (simp only [hji25] at H ⊢; exact H)
                  have hji25w : (IntKind.i64.wrap (a0_0 - a1)) = ji25 := (i64_w _).trans hji25
                  by_cases c26 : 0 ≤ (ji25)
                  · rw [if_pos c26] at H
                    have c26b0 := eq_true c26
                    have c26b1 : decide (0 ≤ (ji25)) = true := decide_eq_true c26
                    clear c26
                    obtain ⟨ji27, hji27⟩ : ∃ j_ : Int, (shl .i64 1 (ji25)) = j_ := ⟨_, rfl⟩
                    replace H : (if x13_3 < (ji27) then (if 0 ≤ x12_2 then (if (Go.bits .and .i64 (shr .i64 a2 x12_2) 1) = 0 then (spec_IsRectangle.j3 k3 a1 a2 a3 t102 x11_3 x12_2 x13_3 true a0_0 a0_1) else (if 0 ≤ x13_3 then (spec_IsRectangle.j3 k3 a1 a2 a3 t102 x11_3 x12_2 x13_3 ((Go.bits .and .i64 (shr .i64 a3 x13_3) 1) == 0) a0_0 a0_1) else (none))) else (none)) else (spec_IsRectangle.l0 k3 a1 a2 a3 t102 x11_3 (wrap64 (x12_2 + 1)) a0_0 a0_1)) = some r := by first | (rw [hji27] at H; exact H) | (simp only [hji27] at H ⊢; exact H)
                    have hji27_ : (IntKind.i64.wrap (1 * 2 ^ min (ji25).toNat 64)) = ji27 := hji27
                    have hji27z : (ji25) ≤ 64 → (IntKind.i64.wrap (1 * 2 ^ (ji25).toNat)) = ji27 := shl_small hji27
                    have hji27u : (IntKind.i64.wrap (2 ^ min (ji25).toNat 64)) = ji27 := by have h_ := hji27_; rw [Int.one_mul] at h_; exact h_
                    have hji27v : (ji25) ≤ 64 → (IntKind.i64.wrap (2 ^ (ji25).toNat)) = ji27 := fun hle_ => by have h_ := hji27z hle_; rw [Int.one_mul] at h_; exact h_
                    have hji27y : (wrap64 (1 * 2 ^ min (ji25).toNat 64)) = ji27 := (i64_w _).symm.trans hji27_
                    have hji27x : (ji25) ≤ 64 → (wrap64 (1 * 2 ^ (ji25).toNat)) = ji27 := fun h_ => (i64_w _).symm.trans (hji27z h_)
                    by_cases c28 : x13_3 < (ji27)
                    · rw [if_pos c28] at H
                      have c28b0 : decide (x13_3 < (ji27)) = true := decide_eq_true c28
                      clear c28
                      have HC29 := Aside0.mk H
                      clear H
                      have hcz30_0 : wr.cell? ⟨gb101, 0, none⟩ = some (.int .i64 a0_0) := (blk_cell BK101.out 0).trans rfl
                      have hcz30_1 : wr.cell? ⟨gb101, 1, none⟩ = some (.int .i64 a0_1) := (blk_cell BK101.out 1).trans rfl
                      have hfz30_0 := blk_frozen BK101.out 0
                      have hfz30_1 := blk_frozen BK101.out 1
                      go_upto_region 11 with (fail)
                      go_cut [70] (fun v70 wc => ∃ (kq : Nat) (x70_28 : Bool), v70 = .bool x70_28 ∧ Aside0 (spec_IsRectangle.j3 kq a1 a2 a3 t102 x11_3 x12_2 x13_3 x70_28 a0_0 a0_1 = some r) ∧ Aside0 (kq ≤ k3) ∧ Aside0 (Kd.R (Kd.int .i64) 3 wc w.heap.size (fun _ => True) (.slice Ao24 t102.length co24) t102) ∧ Aside0 (wc.heap[gb101]? = some (.cells #[.int .i64 a0_0, .int .i64 a0_1] 25 (0, 0))) ∧ Aside0 (Below w.heap.size w wc))
                      case first =>
                        have H := HC29.out
                        clear HC29
                        by_cases c31 : 0 ≤ x12_2
                        · rw [if_pos c31] at H
                          have c31b0 := eq_true c31
                          have c31b1 : decide (0 ≤ x12_2) = true := decide_eq_true c31
                          clear c31
                          obtain ⟨ji32, hji32⟩ : ∃ j_ : Int, (shr .i64 a2 x12_2) = j_ := ⟨_, rfl⟩
                          replace H : (if (Go.bits .and .i64 (ji32) 1) = 0 then (spec_IsRectangle.j3 k3 a1 a2 a3 t102 x11_3 x12_2 x13_3 true a0_0 a0_1) else (if 0 ≤ x13_3 then (spec_IsRectangle.j3 k3 a1 a2 a3 t102 x11_3 x12_2 x13_3 ((Go.bits .and .i64 (shr .i64 a3 x13_3) 1) == 0) a0_0 a0_1) else (none))) = some r := by first | (rw [hji32] at H; exact H) | (simp only [hji32] at H ⊢; exact H)
                          have hji32_ : (a2 / 2 ^ min x12_2.toNat 64) = ji32 := hji32
                          have hji32z : x12_2 ≤ 64 → (a2 / 2 ^ x12_2.toNat) = ji32 := shr_small hji32
                          by_cases c33 : (Go.bits .and .i64 (ji32) 1) = 0
                          · rw [if_pos c33] at H
                            have c33b0 : ((Go.bits .and .i64 (ji32) 1) == 0) = true := beq_iff_eq.mpr c33
                            have c33b1 : ((Go.bits .and .i64 (ji32) 1) != 0) = false := bne_eq_false_iff_eq.mpr c33
                            clear c33
                            (first | rw [c33b0] | (simp only [i64_w, i32_w]; rw [c33b0]) | skip)
                            have H' := Aside0.mk H
                            clear H
                            go_wp2
                            go_meet
                            case rel => exact ⟨_, (true), (by first | rfl | (simp; done) | (simp [*]; done)), H', ⟨by have := HJ5.out; have := HK2.out; have := HK3.out; first | omega | exact Nat.le_refl _⟩, ⟨by (with_reducible repeat (first | apply Kd.R_alloc | apply Kd.R_drewN | apply Kd.R_drew)); exact HO_9.out⟩, ⟨by (with_reducible repeat (first | refine blk_drewN ?_ _ | refine blk_drew ?_ | refine blk_alloc ?_ _)); exact BK101.out⟩, ⟨by repeat (first | (with_reducible first | exact HB.out | apply below_alloc | apply pw_below_drewN | apply below_drew1 | refine below_set ?_ GE101.out) | exact HB.out)⟩⟩
                          · rw [if_neg c33] at H
                            have c33b0 : ((Go.bits .and .i64 (ji32) 1) == 0) = false := beq_eq_false_iff_ne.mpr c33
                            have c33b1 : ((Go.bits .and .i64 (ji32) 1) != 0) = true := bne_iff_ne.mpr c33
                            (first | rw [c33b0] | (simp only [i64_w, i32_w]; rw [c33b0]) | skip)
                            by_cases c34 : 0 ≤ x13_3
                            · rw [if_pos c34] at H
                              have c34b0 := eq_true c34
                              have c34b1 : decide (0 ≤ x13_3) = true := decide_eq_true c34
                              clear c34
                              obtain ⟨ji35, hji35⟩ : ∃ j_ : Int, (shr .i64 a3 x13_3) = j_ := ⟨_, rfl⟩
                              replace H : (spec_IsRectangle.j3 k3 a1 a2 a3 t102 x11_3 x12_2 x13_3 ((Go.bits .and .i64 (ji35) 1) == 0) a0_0 a0_1) = some r := by first | (rw [hji35] at H; exact H) | (simp only [hji35] at H ⊢; exact H)
                              have hji35_ : (a3 / 2 ^ min x13_3.toNat 64) = ji35 := hji35
                              have hji35z : x13_3 ≤ 64 → (a3 / 2 ^ x13_3.toNat) = ji35 := shr_small hji35
                              have H' := Aside0.mk H
                              clear H
                              go_wp2
                              go_meet
                              case rel => exact ⟨_, (((Go.bits .and .i64 (ji35) 1) == 0)), (by first | rfl | (simp; done) | (simp only [← hji35] <;> (first | rfl | simp)) | (simp [*]; done)), H', ⟨by have := HJ5.out; have := HK2.out; have := HK3.out; first | omega | exact Nat.le_refl _⟩, ⟨by (with_reducible repeat (first | apply Kd.R_alloc | apply Kd.R_drewN | apply Kd.R_drew)); exact HO_9.out⟩, ⟨by (with_reducible repeat (first | refine blk_drewN ?_ _ | refine blk_drew ?_ | refine blk_alloc ?_ _)); exact BK101.out⟩, ⟨by repeat (first | (with_reducible first | exact HB.out | apply below_alloc | apply pw_below_drewN | apply below_drew1 | refine below_set ?_ GE101.out) | exact HB.out)⟩⟩
                            · rw [if_neg c34] at H
                              exact absurd H (by simp)
                        · rw [if_neg c31] at H
                          exact absurd H (by simp)
                      case rest =>
                        clear HC29
                        try clear c1
                        try clear c2
                        try clear p2
                        try clear c3
                        try clear p6
                        try clear c10
                        try clear c11
                        try clear c13
                        try clear c15
                        try clear c15b0
                        try clear c15b1
                        try clear c21
                        try clear c22
                        try clear c23
                        try clear c23b0
                        try clear c26
                        try clear c26b0
                        try clear c26b1
                        try clear c28
                        try clear c28b0
                        try clear c31
                        try clear c31b0
                        try clear c31b1
                        try clear c33
                        try clear c33b0
                        try clear c33b1
                        try clear c34
                        try clear c34b0
                        try clear c34b1
                        try clear hcz20_0
                        try clear hcz20_1
                        try clear hcz30_0
                        try clear hcz30_1
                        try clear hcz8_0
                        try clear hcz8_1
                        try clear hfz20_0
                        try clear hfz20_1
                        try clear hfz30_0
                        try clear hfz30_1
                        try clear hfz8_0
                        try clear hfz8_1
                        try clear p2
                        try clear p6
                        obtain ⟨kq, x70_28, rfl, HA, HJ28, HO_9, BK101, HB⟩ := hcut
                        cases kq with
                        | zero => exact absurd HA.out (by simp [spec_IsRectangle.j3])
                        | succ kj28 =>
                          have H := HA.out
                          clear HA
                          simp only [spec_IsRectangle.j3] at H
                          by_cases c36 : x70_28 = true
                          · subst c36
                            have H1 : (spec_IsRectangle.l1 kj28 a1 a2 a3 t102 x11_3 x12_2 (wrap64 (x13_3 + 1)) a0_0 a0_1) = some r := by rw [if_pos rfl] at H; exact H
                            clear H
                            have H := H1
                            clear H1
                            have H' := Aside0.mk H
                            clear H
                            go_wp2
                            go_roundg kj28
                            case measure => have := HJ5.out; have := HK2.out; have := HK3.out; have := HJ28.out; omega
                            case rel => exact ⟨(x11_3), (wrap64 (x13_3 + 1)), (by first | rfl | (simp; done) | (simp [*]; done)), (by first | rfl | (simp; done) | (simp [*]; done)), H', ⟨by have := HJ5.out; have := HK2.out; have := HK3.out; have := HJ28.out; omega⟩, ⟨by (with_reducible repeat (first | apply Kd.R_alloc | apply Kd.R_drewN | apply Kd.R_drew)); exact HO_9.out⟩, ⟨by (with_reducible repeat (first | refine blk_drewN ?_ _ | refine blk_drew ?_ | refine blk_alloc ?_ _)); exact BK101.out⟩, ⟨by repeat (first | (with_reducible first | exact HB.out | apply below_alloc | apply pw_below_drewN | apply below_drew1 | refine below_set ?_ GE101.out) | exact HB.out)⟩⟩
                          · replace c36 := Bool.eq_false_iff.mpr c36
                            subst c36
                            have H1 : (if 0 ≤ x12_2 then (if x12_2 < (t102.length : Int) then (if 0 ≤ x13_3 then (if x11_3 ≥ 0 then (if (Go.bits .and .i64 (shr .i64 (rd t102 x12_2) x13_3) 1) = x11_3 then (spec_IsRectangle.l1 kj28 a1 a2 a3 t102 (Go.bits .and .i64 (shr .i64 (rd t102 x12_2) x13_3) 1) x12_2 (wrap64 (x13_3 + 1)) a0_0 a0_1) else (some false)) else (spec_IsRectangle.l1 kj28 a1 a2 a3 t102 (Go.bits .and .i64 (shr .i64 (rd t102 x12_2) x13_3) 1) x12_2 (wrap64 (x13_3 + 1)) a0_0 a0_1)) else (none)) else (none)) else (none)) = some r := by rw [if_neg (show ¬ (false = true) by decide)] at H; exact H
                            clear H
                            have H := H1
                            clear H1
                            by_cases c37 : 0 ≤ x12_2
                            · rw [if_pos c37] at H
                              have c37b0 : decide (0 ≤ x12_2) = true := decide_eq_true c37
                              clear c37
                              by_cases c38 : x12_2 < (t102.length : Int)
                              · rw [if_pos c38] at H
                                have c38b0 : decide (x12_2 < (t102.length : Int)) = true := decide_eq_true c38
                                clear c38
                                by_cases c39 : 0 ≤ x13_3
                                · rw [if_pos c39] at H
                                  have c39b0 := eq_true c39
                                  have c39b1 : decide (0 ≤ x13_3) = true := decide_eq_true c39
                                  clear c39
                                  obtain ⟨ji40, hji40⟩ : ∃ j_ : Int, (shr .i64 (rd t102 x12_2) x13_3) = j_ := ⟨_, rfl⟩
                                  replace H : (if x11_3 ≥ 0 then (if (Go.bits .and .i64 (ji40) 1) = x11_3 then (spec_IsRectangle.l1 kj28 a1 a2 a3 t102 (Go.bits .and .i64 (ji40) 1) x12_2 (wrap64 (x13_3 + 1)) a0_0 a0_1) else (some false)) else (spec_IsRectangle.l1 kj28 a1 a2 a3 t102 (Go.bits .and .i64 (ji40) 1) x12_2 (wrap64 (x13_3 + 1)) a0_0 a0_1)) = some r := by first | (rw [hji40] at H; exact H) | (simp only [hji40] at H ⊢; exact H)
                                  have hji40_ : ((rd t102 x12_2) / 2 ^ min x13_3.toNat 64) = ji40 := hji40
                                  have hji40z : x13_3 ≤ 64 → ((rd t102 x12_2) / 2 ^ x13_3.toNat) = ji40 := shr_small hji40
                                  by_cases c41 : x11_3 ≥ 0
                                  · rw [if_pos c41] at H
                                    have c41b0 : decide (0 ≤ x11_3) = true := decide_eq_true c41
                                    clear c41
                                    by_cases c42 : (Go.bits .and .i64 (ji40) 1) = x11_3
                                    · rw [if_pos c42] at H
                                      have c42b0 : ((Go.bits .and .i64 (ji40) 1) == x11_3) = true := beq_iff_eq.mpr c42
                                      have c42b1 : ((Go.bits .and .i64 (ji40) 1) != x11_3) = false := bne_eq_false_iff_eq.mpr c42
                                      clear c42
                                      have H' := Aside0.mk H
                                      clear H
                                      have p108 : 0 ≤ (x12_2 : Int) := of_decide_eq_true (by first | (with_reducible assumption) | assumption)
                                      have q108 : x12_2 < (t102.length : Int) := of_decide_eq_true (by first | (with_reducible assumption) | assumption)
                                      obtain ⟨ad108, e108, hx108_0⟩ := Kd.at_int (Kd.R_reads' HO_9.out).2.2 x12_2 p108 q108
                                      cases e108
                                      replace p108 := eq_true p108
                                      replace q108 := eq_true q108
                                      go_wp2
                                      go_roundg kj28
                                      case measure => have := HJ5.out; have := HK2.out; have := HK3.out; have := HJ28.out; omega
                                      case rel => exact ⟨(Go.bits .and .i64 (ji40) 1), (wrap64 (x13_3 + 1)), (by first | rfl | (simp; done) | (simp only [← hji40] <;> (first | rfl | simp)) | (simp [*]; done)), (by first | rfl | (simp; done) | (simp [*]; done)), H', ⟨by have := HJ5.out; have := HK2.out; have := HK3.out; have := HJ28.out; omega⟩, ⟨by (with_reducible repeat (first | apply Kd.R_alloc | apply Kd.R_drewN | apply Kd.R_drew)); exact HO_9.out⟩, ⟨by (with_reducible repeat (first | refine blk_drewN ?_ _ | refine blk_drew ?_ | refine blk_alloc ?_ _)); exact BK101.out⟩, ⟨by repeat (first | (with_reducible first | exact HB.out | apply below_alloc | apply pw_below_drewN | apply below_drew1 | refine below_set ?_ GE101.out) | exact HB.out)⟩⟩
                                    · rw [if_neg c42] at H
                                      have c42b0 : ((Go.bits .and .i64 (ji40) 1) == x11_3) = false := beq_eq_false_iff_ne.mpr c42
                                      have c42b1 : ((Go.bits .and .i64 (ji40) 1) != x11_3) = true := bne_iff_ne.mpr c42
                                      obtain rfl := Option.some.inj H
                                      have p108 : 0 ≤ (x12_2 : Int) := of_decide_eq_true (by first | (with_reducible assumption) | assumption)
                                      have q108 : x12_2 < (t102.length : Int) := of_decide_eq_true (by first | (with_reducible assumption) | assumption)
                                      obtain ⟨ad108, e108, hx108_0⟩ := Kd.at_int (Kd.R_reads' HO_9.out).2.2 x12_2 p108 q108
                                      cases e108
                                      replace p108 := eq_true p108
                                      replace q108 := eq_true q108
                                      go_wp2
                                      go_ret
                                      exact ⟨by first | rfl | (simp [errW_none, errW_some] <;> rfl) | (simp only [← hji25, ← hji27, ← hji40]; first | rfl | (simp [errW_none, errW_some] <;> rfl)) | (simp [*, errW_none, errW_some] <;> rfl), by repeat (first | (with_reducible first | exact HB.out | apply below_alloc | apply pw_below_drewN | apply below_drew1 | refine below_set ?_ GE101.out) | exact HB.out)⟩
                                  · rw [if_neg c41] at H
                                    have c41b0 : decide (0 ≤ x11_3) = false := decide_eq_false c41
                                    clear c41
                                    have H' := Aside0.mk H
                                    clear H
                                    have p108 : 0 ≤ (x12_2 : Int) := of_decide_eq_true (by first | (with_reducible assumption) | assumption)
                                    have q108 : x12_2 < (t102.length : Int) := of_decide_eq_true (by first | (with_reducible assumption) | assumption)
                                    obtain ⟨ad108, e108, hx108_0⟩ := Kd.at_int (Kd.R_reads' HO_9.out).2.2 x12_2 p108 q108
                                    cases e108
                                    replace p108 := eq_true p108
                                    replace q108 := eq_true q108
                                    go_wp2
                                    go_roundg kj28
                                    case measure => have := HJ5.out; have := HK2.out; have := HK3.out; have := HJ28.out; omega
                                    case rel => exact ⟨(Go.bits .and .i64 (ji40) 1), (wrap64 (x13_3 + 1)), (by first | rfl | (simp; done) | (simp only [← hji40] <;> (first | rfl | simp)) | (simp [*]; done)), (by first | rfl | (simp; done) | (simp [*]; done)), H', ⟨by have := HJ5.out; have := HK2.out; have := HK3.out; have := HJ28.out; omega⟩, ⟨by (with_reducible repeat (first | apply Kd.R_alloc | apply Kd.R_drewN | apply Kd.R_drew)); exact HO_9.out⟩, ⟨by (with_reducible repeat (first | refine blk_drewN ?_ _ | refine blk_drew ?_ | refine blk_alloc ?_ _)); exact BK101.out⟩, ⟨by repeat (first | (with_reducible first | exact HB.out | apply below_alloc | apply pw_below_drewN | apply below_drew1 | refine below_set ?_ GE101.out) | exact HB.out)⟩⟩
                                · rw [if_neg c39] at H
                                  exact absurd H (by simp)
                              · rw [if_neg c38] at H
                                exact absurd H (by simp)
                            · rw [if_neg c37] at H
                              exact absurd H (by simp)
                    · rw [if_neg c28] at H
                      have c28b0 : decide (x13_3 < (ji27)) = false := decide_eq_false c28
                      clear c28
                      have H' := Aside0.mk H
                      clear H
                      have hcz43_0 : wr.cell? ⟨gb101, 0, none⟩ = some (.int .i64 a0_0) := (blk_cell BK101.out 0).trans rfl
                      have hcz43_1 : wr.cell? ⟨gb101, 1, none⟩ = some (.int .i64 a0_1) := (blk_cell BK101.out 1).trans rfl
                      have hfz43_0 := blk_frozen BK101.out 0
                      have hfz43_1 := blk_frozen BK101.out 1
                      go_wp2
                      go_roundg k3
                      case measure => have := HJ5.out; have := HK2.out; have := HK3.out; omega
                      case rel => exact ⟨(x11_3), (wrap64 (x12_2 + 1)), (by first | rfl | (simp; done) | (simp [*]; done)), (by first | rfl | (simp; done) | (simp [*]; done)), H', ⟨by have := HJ5.out; have := HK2.out; have := HK3.out; omega⟩, ⟨by (with_reducible repeat (first | apply Kd.R_alloc | apply Kd.R_drewN | apply Kd.R_drew)); exact HO_9.out⟩, ⟨by (with_reducible repeat (first | refine blk_drewN ?_ _ | refine blk_drew ?_ | refine blk_alloc ?_ _)); exact BK101.out⟩, ⟨by repeat (first | (with_reducible first | exact HB.out | apply below_alloc | apply pw_below_drewN | apply below_drew1 | refine below_set ?_ GE101.out) | exact HB.out)⟩⟩
                  · rw [if_neg c26] at H
                    exact absurd H (by simp)
            · rw [if_neg c23] at H
              have c23b0 : decide (x12_2 < (t102.length : Int)) = false := decide_eq_false c23
              clear c23
              obtain rfl := Option.some.inj H
              obtain ⟨Ao44, co44, eo44⟩ := Kd.R_slice HO_9.out
              subst eo44
              go_wp2
              go_ret
              exact ⟨by first | rfl | (simp [errW_none, errW_some] <;> rfl) | (simp [*, errW_none, errW_some] <;> rfl), by repeat (first | (with_reducible first | exact HB.out | apply below_alloc | apply pw_below_drewN | apply below_drew1 | refine below_set ?_ GE101.out) | exact HB.out)⟩

end Go.Proofs.Ytcgjlmgfmiacgaa.F
