/- Walks of Go functions and lemmas on what they compute, for the row of FnMatrices (a part of several): each call ends as the Lean function of its name tells; the conditions are those of each theorem. -/
import Derived.Test.YthlajlhjofjmcaaM1FnMatrices
import Derived.Test.YthlajlhjofjmcaaM2FnMatrices
import Derived.Test.YthlajlhjofjmcaaM3FnMatrices
import Derived.Test.YthlajlhjofjmcaaM4FnMatrices
import Derived.Test.YthlajlhjofjmcaaM6FnMatrices
import Derived.Test.YthlajlhjofjmcaaM7FnMatrices
import Derived.Test.YthlajlhjofjmcaaM8FnMatrices
import Derived.Test.YthlajlhjofjmcaaM9FnMatrices
import Derived.Test.YthlajlhjofjmcaaM10FnMatrices
import Derived.Test.YthlajlhjofjmcaaM11FnMatrices
import Derived.Test.YthlajlhjofjmcaaM12FnMatrices
import Derived.Test.YthlajlhjofjmcaaM13FnMatrices
namespace Go.Proofs.Ythlajlhjofjmcaa.F
open Go.RowKit Go.Proofs.YthlajlhjofjmcaaW.PrintWords Go.Proofs.YthlajlhjofjmcaaW.PrintLast Go.Proofs.YthlajlhjofjmcaaW.PrintMore
attribute [local go_sem] max2_int min2_int max_two min_two max_three min_three max_four min_four 
set_option linter.unusedVariables false
set_option linter.unusedSimpArgs false
mutual
def spec_IsRectangle.j0 : Nat → Int → Int → Int → List Int → Bool → Int → Int → Option (Bool)
 | 0,_,_,_,_,_,_,_ => none
 | k + 1,x1,x2,x3,x9,x43,x102000,x102001 => if x43 = true then (some false) else (spec_IsRectangle.l0 k x1 x2 x3 x9 (-1) 0 x102000 x102001)
def spec_IsRectangle.l0 : Nat → Int → Int → Int → List Int → Int → Int → Int → Int → Option (Bool)
 | 0,_,_,_,_,_,_,_,_ => none
 | k + 1,x1,x2,x3,x9,x11,x12,x102000,x102001 => if x12 < (x9.length : Int) then (spec_IsRectangle.l1 k x1 x2 x3 x9 x11 x12 0 x102000 x102001) else (some true)
def spec_IsRectangle.l1 : Nat → Int → Int → Int → List Int → Int → Int → Int → Int → Int → Option (Bool)
 | 0,_,_,_,_,_,_,_,_,_ => none
 | k + 1,x1,x2,x3,x9,x11,x12,x13,x102000,x102001 => if 0 ≤ (wrap64 (x102000 - x1)) then (if x13 < (shl .i64 1 (wrap64 (x102000 - x1))) then (if 0 ≤ x12 then (if (Go.bits .and .i64 (shr .i64 x2 x12) 1) = 0 then (spec_IsRectangle.j3 k x1 x2 x3 x9 x11 x12 x13 true x102000 x102001) else (if 0 ≤ x13 then (spec_IsRectangle.j3 k x1 x2 x3 x9 x11 x12 x13 ((Go.bits .and .i64 (shr .i64 x3 x13) 1) == 0) x102000 x102001) else (none))) else (none)) else (spec_IsRectangle.l0 k x1 x2 x3 x9 x11 (wrap64 (x12 + 1)) x102000 x102001)) else (none)
def spec_IsRectangle.j3 : Nat → Int → Int → Int → List Int → Int → Int → Int → Bool → Int → Int → Option (Bool)
 | 0,_,_,_,_,_,_,_,_,_,_ => none
 | k + 1,x1,x2,x3,x9,x11,x12,x13,x70,x102000,x102001 => if x70 = true then (spec_IsRectangle.l1 k x1 x2 x3 x9 x11 x12 (wrap64 (x13 + 1)) x102000 x102001) else (if 0 ≤ x12 then (if x12 < (x9.length : Int) then (if 0 ≤ x13 then (if x11 ≥ 0 then (if (Go.bits .and .i64 (shr .i64 (rd x9 x12) x13) 1) = x11 then (spec_IsRectangle.l1 k x1 x2 x3 x9 (Go.bits .and .i64 (shr .i64 (rd x9 x12) x13) 1) x12 (wrap64 (x13 + 1)) x102000 x102001) else (some false)) else (spec_IsRectangle.l1 k x1 x2 x3 x9 (Go.bits .and .i64 (shr .i64 (rd x9 x12) x13) 1) x12 (wrap64 (x13 + 1)) x102000 x102001)) else (none)) else (none)) else (none))
end
def spec_IsRectangle.f (k : Nat) (a0_0 : Int) (a0_1 : Int) (a1 : Int) (a2 : Int) (a3 : Int) : Option (Bool) := (spec_MatrixOf.f k a0_0 a0_1 a1).bind fun bt102 => (if bt102.2 = true then ((spec_l1In.f a2 1 (wrap64 ((shl .i64 1 (bt102.1.length : Int)) - 1))).bind fun t106 => (if t106 = true then (if 0 ≤ (wrap64 (a0_0 - a1)) then ((spec_l1In.f a3 1 (wrap64 ((shl .i64 1 (shl .u64 1 (wrap64 (a0_0 - a1)))) - 1))).bind fun t107 => (spec_IsRectangle.j0 k a1 a2 a3 bt102.1 (!t107) a0_0 a0_1)) else (none)) else (spec_IsRectangle.j0 k a1 a2 a3 bt102.1 true a0_0 a0_1))) else (spec_IsRectangle.j0 k a1 a2 a3 bt102.1 true a0_0 a0_1))
set_option maxHeartbeats 8000000 in
set_option maxRecDepth 100000 in
theorem spec_IsRectangle.calls (k : Nat) (a0_0 : Int) (a0_1 : Int) (a1 : Int) (a2 : Int) (a3 : Int) (r : Bool) (w : World) (h : spec_IsRectangle.f k a0_0 a0_1 a1 a2 a3 = some r) :
  Calls Try.prog 44 #[.agg #[.int .i64 a0_0,.int .i64 a0_1],.int .i64 a1,.int .i64 a2,.int .i64 a3] w fun e w' => e = .returned (.bool r) ∧ Below w.heap.size w w' := by
 have hu25 := Try.underlying25
 have HB := aZ_ (Below.refl w.heap.size w)
 have H : ((spec_MatrixOf.f k a0_0 a0_1 a1).bind fun bt102 => (if bt102.2 = true then ((spec_l1In.f a2 1 (wrap64 ((shl .i64 1 (bt102.1.length : Int)) - 1))).bind fun t106 => (if t106 = true then (if 0 ≤ (wrap64 (a0_0 - a1)) then ((spec_l1In.f a3 1 (wrap64 ((shl .i64 1 (shl .u64 1 (wrap64 (a0_0 - a1)))) - 1))).bind fun t107 => (spec_IsRectangle.j0 k a1 a2 a3 bt102.1 (!t107) a0_0 a0_1)) else (none)) else (spec_IsRectangle.j0 k a1 a2 a3 bt102.1 true a0_0 a0_1))) else (spec_IsRectangle.j0 k a1 a2 a3 bt102.1 true a0_0 a0_1))) = some r := h
 clear h
 replace H := Option.bind_eq_some_iff.mp H
 obtain ⟨⟨t102,t105⟩,A50,H⟩ := H
 replace H : (if t105 = true then ((spec_l1In.f a2 1 (wrap64 ((shl .i64 1 (t102.length : Int)) - 1))).bind fun t106 => (if t106 = true then (if 0 ≤ (wrap64 (a0_0 - a1)) then ((spec_l1In.f a3 1 (wrap64 ((shl .i64 1 (shl .u64 1 (wrap64 (a0_0 - a1)))) - 1))).bind fun t107 => (spec_IsRectangle.j0 k a1 a2 a3 t102 (!t107) a0_0 a0_1)) else (none)) else (spec_IsRectangle.j0 k a1 a2 a3 t102 true a0_0 a0_1))) else (spec_IsRectangle.j0 k a1 a2 a3 t102 true a0_0 a0_1)) = some r := H
 have A5 := aZ_ A50
 clear A50
 have HC6 := aZ_ H
 clear H
 go_enter Try.func44,Try.ntmps44
 go_upto_region 2 with (first | ((with_reducible refine gate_dst (N := 4) rfl ?_);(try (refine gate_guard (by rfl) ?_;dsimp only));refine box_event ?hg (N := 4) ?hd (cs := #[.int .i64 a0_0,.int .i64 a0_1]) (t := 25) ?hr ?_;(case hd => rfl);(case hg => rfl);(case hr => first | (go_simp;done) | (go_simp;rfl));intro gb101 hg w7 hbox hb;have n0_ := aZ_ (below_step T5_ hb);have n1_ := aZ_ (hbox);have n2_ := aZ_ ((T2_ : w.heap.size ≤ gb101));have n3_ := aZ_ ((T2_ : w.heap.size ≤ gb101));clear HB;have HB := n0_;have BK101 := n1_;have GW101 := n2_;have GE101 := n3_;clear n0_ n1_ n2_ n3_;clear hb hbox hg;have hcz8_0 : w7.cell? ⟨gb101,0,none⟩ = some (.int .i64 a0_0) := (blk_cell BK101.out 0).trans rfl;have hcz8_1 : w7.cell? ⟨gb101,1,none⟩ = some (.int .i64 a0_1) := (blk_cell BK101.out 1).trans rfl;have hfz8_0 := blk_frozen BK101.out 0;have hfz8_1 := blk_frozen BK101.out 1) | ((with_reducible refine gate_callee (f := 27) rfl ?_);refine goesL_ (some 18) rfl rfl Try.func27 T15_ rfl #[.agg #[.int .i64 a0_0,.int .i64 a0_1],.int .i64 a1] rfl T4_ ?_;(with_reducible refine (spec_MatrixOf.calls k a0_0 a0_1 a1 t102 t105 _ A5.out).mono ?_);rintro e w9 ⟨v103,rfl,ho0,hb⟩;refine ⟨_,rfl,?_⟩;have n0_ := aZ_ (Kd.R_lower ho0 (below_size T1_));have n1_ := aZ_ (blk_below (g := gb101) (o := .cells #[.int .i64 a0_0,.int .i64 a0_1] 25 (0,0)) T3_ hb);have n2_ := aZ_ (below_step T1_ hb);clear BK101;clear HB;have HO104 := n0_;have BK101 := n1_;have HB := n2_;clear n0_ n1_ n2_;(try clear hb);(try clear hb2);(try clear hk);(try clear hi);(try clear ho0)))
 (try simp only [Act.put,List.setIfInBounds_toArray,List.set_cons_zero,List.set_cons_succ])
 go_cut [43] (fun v43 wc => ∃ (kq : Nat) (x43_5 : Bool),v43 = .bool x43_5 ∧ Aside0 (spec_IsRectangle.j0 kq a1 a2 a3 t102 x43_5 a0_0 a0_1 = some r) ∧ Aside0 (kq ≤ k) ∧ Aside0 (Kd.R (Kd.int .i64) 3 wc w.heap.size (fun _ => True) v103 t102) ∧ Aside0 (wc.heap[gb101]? = some (.cells #[.int .i64 a0_0,.int .i64 a0_1] 25 (0,0))) ∧ Aside0 (Below w.heap.size w wc))
 case first =>
  have H := HC6.out
  clear HC6
  by_cases c10 : t105 = true
  ·subst c10
   have H1 : ((spec_l1In.f a2 1 (wrap64 ((shl .i64 1 (t102.length : Int)) - 1))).bind fun t106 => (if t106 = true then (if 0 ≤ (wrap64 (a0_0 - a1)) then ((spec_l1In.f a3 1 (wrap64 ((shl .i64 1 (shl .u64 1 (wrap64 (a0_0 - a1)))) - 1))).bind fun t107 => (spec_IsRectangle.j0 k a1 a2 a3 t102 (!t107) a0_0 a0_1)) else (none)) else (spec_IsRectangle.j0 k a1 a2 a3 t102 true a0_0 a0_1))) = some r := by rw [if_pos rfl] at H;exact H
   clear H
   have H := H1
   clear H1
   obtain ⟨ji11,hji11⟩ : ∃ j_ : Int,(shl .i64 1 (t102.length : Int)) = j_ := ⟨_,rfl⟩
   replace H : ((spec_l1In.f a2 1 (wrap64 ((ji11) - 1))).bind fun t106 => (if t106 = true then (if 0 ≤ (wrap64 (a0_0 - a1)) then ((spec_l1In.f a3 1 (wrap64 ((shl .i64 1 (shl .u64 1 (wrap64 (a0_0 - a1)))) - 1))).bind fun t107 => (spec_IsRectangle.j0 k a1 a2 a3 t102 (!t107) a0_0 a0_1)) else (none)) else (spec_IsRectangle.j0 k a1 a2 a3 t102 true a0_0 a0_1))) = some r := by first | (rw [hji11] at H;exact H) | (simp only [hji11] at H ⊢;exact H)
   have hji11_ : (IntKind.i64.wrap (1 * 2 ^ min (t102.length : Int).toNat 64)) = ji11 := hji11
   have hji11z : (t102.length : Int) ≤ 64 → (IntKind.i64.wrap (1 * 2 ^ (t102.length : Int).toNat)) = ji11 := shl_small hji11
   have hji11p : (IntKind.i64.wrap (1 * 2 ^ min t102.length 64)) = ji11 := hji11_
   have hji11q : (t102.length : Int) ≤ 64 → (IntKind.i64.wrap (1 * 2 ^ t102.length)) = ji11 := hji11z
   have hji11r : (IntKind.i64.wrap (2 ^ min t102.length 64)) = ji11 := by have h_ := hji11p;rw [Int.one_mul] at h_;exact h_
   have hji11s : (t102.length : Int) ≤ 64 → (IntKind.i64.wrap (2 ^ t102.length)) = ji11 := fun hle_ => by have h_ := hji11q hle_;rw [Int.one_mul] at h_;exact h_
   have hji11u : (IntKind.i64.wrap (2 ^ min (t102.length : Int).toNat 64)) = ji11 := by have h_ := hji11_;rw [Int.one_mul] at h_;exact h_
   have hji11v : (t102.length : Int) ≤ 64 → (IntKind.i64.wrap (2 ^ (t102.length : Int).toNat)) = ji11 := fun hle_ => by have h_ := hji11z hle_;rw [Int.one_mul] at h_;exact h_
   have hji11y : (wrap64 (1 * 2 ^ min (t102.length : Int).toNat 64)) = ji11 := (i64_w _).symm.trans hji11_
   have hji11x : (t102.length : Int) ≤ 64 → (wrap64 (1 * 2 ^ (t102.length : Int).toNat)) = ji11 := fun h_ => (i64_w _).symm.trans (hji11z h_)
   replace H := Option.bind_eq_some_iff.mp H
   obtain ⟨t106,A120,H⟩ := H
   replace H : (if t106 = true then (if 0 ≤ (wrap64 (a0_0 - a1)) then ((spec_l1In.f a3 1 (wrap64 ((shl .i64 1 (shl .u64 1 (wrap64 (a0_0 - a1)))) - 1))).bind fun t107 => (spec_IsRectangle.j0 k a1 a2 a3 t102 (!t107) a0_0 a0_1)) else (none)) else (spec_IsRectangle.j0 k a1 a2 a3 t102 true a0_0 a0_1)) = some r := H
   have A12 := aZ_ A120
   clear A120
   by_cases c13 : t106 = true
   ·subst c13
    have H1 : (if 0 ≤ (wrap64 (a0_0 - a1)) then ((spec_l1In.f a3 1 (wrap64 ((shl .i64 1 (shl .u64 1 (wrap64 (a0_0 - a1)))) - 1))).bind fun t107 => (spec_IsRectangle.j0 k a1 a2 a3 t102 (!t107) a0_0 a0_1)) else (none)) = some r := by rw [if_pos rfl] at H;exact H
    clear H
    have H := H1
    clear H1
    obtain ⟨ji14,hji14⟩ : ∃ j_ : Int,(wrap64 (a0_0 - a1)) = j_ := ⟨_,rfl⟩
    replace H : (if 0 ≤ (ji14) then ((spec_l1In.f a3 1 (wrap64 ((shl .i64 1 (shl .u64 1 (ji14))) - 1))).bind fun t107 => (spec_IsRectangle.j0 k a1 a2 a3 t102 (!t107) a0_0 a0_1)) else (none)) = some r := by first | (rw [hji14] at H;exact H) | (simp only [hji14] at H ⊢;exact H)
    (try rw [hji14] at A12)
    have hji14w : (IntKind.i64.wrap (a0_0 - a1)) = ji14 := (i64_w _).trans hji14
    by_cases c15 : 0 ≤ (ji14)
    ·rw [if_pos c15] at H
     have c15b0 := eq_true c15
     have c15b1 : decide (0 ≤ (ji14)) = true := decide_eq_true c15
     clear c15
     obtain ⟨ji16,hji16⟩ : ∃ j_ : Int,(shl .u64 1 (ji14)) = j_ := ⟨_,rfl⟩
     have hji16n := eq_true (show 0 ≤ ji16 by rw [← hji16];exact B.shlu_nonneg _ _)
     replace H : ((spec_l1In.f a3 1 (wrap64 ((shl .i64 1 (ji16)) - 1))).bind fun t107 => (spec_IsRectangle.j0 k a1 a2 a3 t102 (!t107) a0_0 a0_1)) = some r := by first | (rw [hji16] at H;exact H) | (simp only [hji16] at H ⊢;exact H)
     (try rw [hji16] at A12)
     have hji16_ : (IntKind.u64.wrap (1 * 2 ^ min (ji14).toNat 64)) = ji16 := hji16
     have hji16z : (ji14) ≤ 64 → (IntKind.u64.wrap (1 * 2 ^ (ji14).toNat)) = ji16 := shl_small hji16
     have hji16u : (IntKind.u64.wrap (2 ^ min (ji14).toNat 64)) = ji16 := by have h_ := hji16_;rw [Int.one_mul] at h_;exact h_
     have hji16v : (ji14) ≤ 64 → (IntKind.u64.wrap (2 ^ (ji14).toNat)) = ji16 := fun hle_ => by have h_ := hji16z hle_;rw [Int.one_mul] at h_;exact h_
     obtain ⟨ji17,hji17⟩ : ∃ j_ : Int,(shl .i64 1 (ji16)) = j_ := ⟨_,rfl⟩
     replace H : ((spec_l1In.f a3 1 (wrap64 ((ji17) - 1))).bind fun t107 => (spec_IsRectangle.j0 k a1 a2 a3 t102 (!t107) a0_0 a0_1)) = some r := by first | (rw [hji17] at H;exact H) | (simp only [hji17] at H ⊢;exact H)
     (try rw [hji17] at A12)
     have hji17_ : (IntKind.i64.wrap (1 * 2 ^ min (ji16).toNat 64)) = ji17 := hji17
     have hji17z : (ji16) ≤ 64 → (IntKind.i64.wrap (1 * 2 ^ (ji16).toNat)) = ji17 := shl_small hji17
     have hji17u : (IntKind.i64.wrap (2 ^ min (ji16).toNat 64)) = ji17 := by have h_ := hji17_;rw [Int.one_mul] at h_;exact h_
     have hji17v : (ji16) ≤ 64 → (IntKind.i64.wrap (2 ^ (ji16).toNat)) = ji17 := fun hle_ => by have h_ := hji17z hle_;rw [Int.one_mul] at h_;exact h_
     have hji17y : (wrap64 (1 * 2 ^ min (ji16).toNat 64)) = ji17 := (i64_w _).symm.trans hji17_
     have hji17x : (ji16) ≤ 64 → (wrap64 (1 * 2 ^ (ji16).toNat)) = ji17 := fun h_ => (i64_w _).symm.trans (hji17z h_)
     replace H := Option.bind_eq_some_iff.mp H
     obtain ⟨t107,A180,H⟩ := H
     replace H : (spec_IsRectangle.j0 k a1 a2 a3 t102 (!t107) a0_0 a0_1) = some r := H
     have A18 := aZ_ A180
     clear A180
     have H' := aZ_ H
     clear H
     obtain ⟨Ao19,co19,eo19⟩ := Kd.R_slice HO104.out
     subst eo19
     go_wp2_with (first | (go_at_call 61;(with_reducible refine (spec_l1In.calls a2 1 (wrap64 ((ji11) - 1)) true _ A12.out).mono ?_);rintro e w' ⟨rfl,⟨nd,rfl⟩⟩;have hcz20_0 : w9.cell? ⟨gb101,0,none⟩ = some (.int .i64 a0_0) := (blk_cell BK101.out 0).trans rfl;have hcz20_1 : w9.cell? ⟨gb101,1,none⟩ = some (.int .i64 a0_1) := (blk_cell BK101.out 1).trans rfl;have hfz20_0 := blk_frozen BK101.out 0;have hfz20_1 := blk_frozen BK101.out 1) | (go_at_call 61;(with_reducible refine (spec_l1In.calls a3 1 (wrap64 ((ji17) - 1)) t107 _ A18.out).mono ?_);rintro e w' ⟨rfl,⟨nd,rfl⟩⟩))
     go_meet
     case rel => exact ⟨_,(!t107),T10_,H',⟨by first | omega | exact Nat.le_refl _⟩,⟨by (with_reducible repeat (first | apply Kd.R_alloc | apply Kd.R_drewN | apply Kd.R_drew));exact HO104.out⟩,⟨by (with_reducible repeat (first | refine blk_drewN ?_ _ | refine blk_drew ?_ | refine blk_alloc ?_ _));exact BK101.out⟩,⟨by repeat (first | (with_reducible first | exact HB.out | apply below_alloc | apply pw_below_drewN | apply below_drew1 | refine below_set ?_ GE101.out) | exact HB.out)⟩⟩
    ·rw [if_neg c15] at H
     exact absurd H T49_
   ·replace c13 := Bool.eq_false_iff.mpr c13
    subst c13
    have H1 : (spec_IsRectangle.j0 k a1 a2 a3 t102 true a0_0 a0_1) = some r := by rw [if_neg (show ¬ (false = true) by decide)] at H;exact H
    clear H
    have H := H1
    clear H1
    have H' := aZ_ H
    clear H
    obtain ⟨Ao21,co21,eo21⟩ := Kd.R_slice HO104.out
    subst eo21
    go_wp2_with (first | (go_at_call 61;(with_reducible refine (spec_l1In.calls a2 1 (wrap64 ((ji11) - 1)) false _ A12.out).mono ?_);rintro e w' ⟨rfl,⟨nd,rfl⟩⟩))
    go_meet
    case rel => exact ⟨_,(true),T10_,H',⟨by first | omega | exact Nat.le_refl _⟩,⟨by (with_reducible repeat (first | apply Kd.R_alloc | apply Kd.R_drewN | apply Kd.R_drew));exact HO104.out⟩,⟨by (with_reducible repeat (first | refine blk_drewN ?_ _ | refine blk_drew ?_ | refine blk_alloc ?_ _));exact BK101.out⟩,⟨by repeat (first | (with_reducible first | exact HB.out | apply below_alloc | apply pw_below_drewN | apply below_drew1 | refine below_set ?_ GE101.out) | exact HB.out)⟩⟩
  ·replace c10 := Bool.eq_false_iff.mpr c10
   subst c10
   have H1 : (spec_IsRectangle.j0 k a1 a2 a3 t102 true a0_0 a0_1) = some r := by rw [if_neg (show ¬ (false = true) by decide)] at H;exact H
   clear H
   have H := H1
   clear H1
   have H' := aZ_ H
   clear H
   go_wp2
   go_meet
   case rel => exact ⟨_,(true),T10_,H',⟨by first | omega | exact Nat.le_refl _⟩,⟨by (with_reducible repeat (first | apply Kd.R_alloc | apply Kd.R_drewN | apply Kd.R_drew));exact HO104.out⟩,⟨by (with_reducible repeat (first | refine blk_drewN ?_ _ | refine blk_drew ?_ | refine blk_alloc ?_ _));exact BK101.out⟩,⟨by repeat (first | (with_reducible first | exact HB.out | apply below_alloc | apply pw_below_drewN | apply below_drew1 | refine below_set ?_ GE101.out) | exact HB.out)⟩⟩
 case rest =>
  clear HC6
  try clear c1
  try clear c2
  try clear p2
  try clear c4
  try clear p6
  try clear c10
  try clear c13
  try clear c15
  try clear c15b0
  try clear c15b1
  try clear hcz20_0
  try clear hcz20_1
  try clear hcz8_0
  try clear hcz8_1
  try clear hfz20_0
  try clear hfz20_1
  try clear hfz8_0
  try clear hfz8_1
  obtain ⟨kq,x43_5,rfl,HA,HJ5,HO_9,BK101,HB⟩ := hcut
  cases kq with
  | zero => exact absurd HA.out (by simp [spec_IsRectangle.j0])
  | succ kj5 =>
   have H := HA.out
   clear HA
   simp only [spec_IsRectangle.j0] at H
   by_cases c22 : x43_5 = true
   ·subst c22
    have H1 : (some false) = some r := by rw [if_pos rfl] at H;exact H
    clear H
    have H := H1
    clear H1
    obtain rfl := Option.some.inj H
    go_wp2
    go_ret
    exact ⟨by first | rfl | (simp [errW_none,errW_some] <;> rfl) | (simp [*,errW_none,errW_some] <;> rfl),by repeat (first | (with_reducible first | exact HB.out | apply below_alloc | apply pw_below_drewN | apply below_drew1 | refine below_set ?_ GE101.out) | exact HB.out)⟩
   ·replace c22 := Bool.eq_false_iff.mpr c22
    subst c22
    have H1 : (spec_IsRectangle.l0 kj5 a1 a2 a3 t102 (-1) 0 a0_0 a0_1) = some r := by rw [if_neg (show ¬ (false = true) by decide)] at H;exact H
    clear H
    have H := H1
    clear H1
    have H' := aZ_ H
    clear H
    go_wp2
    go_loopg [11,12] kj5 (fun kq v11 v12 w' => ∃ (x11_2 : Int) (x12_2 : Int),v11 = .int .i64 x11_2 ∧ v12 = .int .i64 x12_2 ∧ Aside0 (spec_IsRectangle.l0 kq a1 a2 a3 t102 x11_2 x12_2 a0_0 a0_1 = some r) ∧ Aside0 (kq ≤ kj5) ∧ Aside0 (Kd.R (Kd.int .i64) 3 w' w.heap.size (fun _ => True) v103 t102) ∧ Aside0 (w'.heap[gb101]? = some (.cells #[.int .i64 a0_0,.int .i64 a0_1] 25 (0,0))) ∧ Aside0 (Below w.heap.size w w'))
    case atStart => exact ⟨((-1)),(0),T10_,T10_,H',⟨Nat.le_refl _⟩,⟨by (with_reducible repeat (first | apply Kd.R_alloc | apply Kd.R_drewN | apply Kd.R_drew));exact HO_9.out⟩,⟨by (with_reducible repeat (first | refine blk_drewN ?_ _ | refine blk_drew ?_ | refine blk_alloc ?_ _));exact BK101.out⟩,⟨by repeat (first | (with_reducible first | exact HB.out | apply below_alloc | apply pw_below_drewN | apply below_drew1 | refine below_set ?_ GE101.out) | exact HB.out)⟩⟩
    case round =>
     clear H'
     try clear c1
     try clear c2
     try clear p2
     try clear c4
     try clear p6
     try clear c10
     try clear c13
     try clear c15
     try clear c15b0
     try clear c15b1
     try clear c22
     try clear hcz20_0
     try clear hcz20_1
     try clear hcz8_0
     try clear hcz8_1
     try clear hfz20_0
     try clear hfz20_1
     try clear hfz8_0
     try clear hfz8_1
     try clear p2
     try clear p6
     obtain ⟨x11_2,x12_2,rfl,rfl,HA,HK2,HO_9,BK101,HB⟩ := hrel
     cases gk with
     | zero => exact absurd HA.out (by simp [spec_IsRectangle.l0])
     | succ k2 =>
      have H := HA.out
      clear HA
      simp only [spec_IsRectangle.l0] at H
      by_cases c23 : x12_2 < (t102.length : Int)
      ·rw [if_pos c23] at H
       have c23b0 : decide (x12_2 < (t102.length : Int)) = true := decide_eq_true c23
       clear c23
       have H' := aZ_ H
       clear H
       obtain ⟨Ao24,co24,eo24⟩ := Kd.R_slice HO_9.out
       subst eo24
       go_wp2
       go_loopg [11,13] k2 (fun kq v11 v13 w' => ∃ (x11_3 : Int) (x13_3 : Int),v11 = .int .i64 x11_3 ∧ v13 = .int .i64 x13_3 ∧ Aside0 (spec_IsRectangle.l1 kq a1 a2 a3 t102 x11_3 x12_2 x13_3 a0_0 a0_1 = some r) ∧ Aside0 (kq ≤ k2) ∧ Aside0 (Kd.R (Kd.int .i64) 3 w' w.heap.size (fun _ => True) (.slice Ao24 t102.length co24) t102) ∧ Aside0 (w'.heap[gb101]? = some (.cells #[.int .i64 a0_0,.int .i64 a0_1] 25 (0,0))) ∧ Aside0 (Below w.heap.size w w'))
       case atStart => exact ⟨(x11_2),(0),T10_,T10_,H',⟨Nat.le_refl _⟩,⟨by (with_reducible repeat (first | apply Kd.R_alloc | apply Kd.R_drewN | apply Kd.R_drew));exact HO_9.out⟩,⟨by (with_reducible repeat (first | refine blk_drewN ?_ _ | refine blk_drew ?_ | refine blk_alloc ?_ _));exact BK101.out⟩,⟨by repeat (first | (with_reducible first | exact HB.out | apply below_alloc | apply pw_below_drewN | apply below_drew1 | refine below_set ?_ GE101.out) | exact HB.out)⟩⟩
       case round =>
        clear H'
        try clear c1
        try clear c2
        try clear p2
        try clear c4
        try clear p6
        try clear c10
        try clear c13
        try clear c15
        try clear c15b0
        try clear c15b1
        try clear c22
        try clear c23
        try clear c23b0
        try clear hcz20_0
        try clear hcz20_1
        try clear hcz8_0
        try clear hcz8_1
        try clear hfz20_0
        try clear hfz20_1
        try clear hfz8_0
        try clear hfz8_1
        try clear p2
        try clear p6
        obtain ⟨x11_3,x13_3,rfl,rfl,HA,HK3,HO_9,BK101,HB⟩ := hrel
        cases gk with
        | zero => exact absurd HA.out (by simp [spec_IsRectangle.l1])
        | succ k3 =>
         have H := HA.out
         clear HA
         simp only [spec_IsRectangle.l1] at H
         obtain ⟨ji25,hji25⟩ : ∃ j_ : Int,(wrap64 (a0_0 - a1)) = j_ := ⟨_,rfl⟩
         replace H : (if 0 ≤ (ji25) then (if x13_3 < (shl .i64 1 (ji25)) then (if 0 ≤ x12_2 then (if (Go.bits .and .i64 (shr .i64 a2 x12_2) 1) = 0 then (spec_IsRectangle.j3 k3 a1 a2 a3 t102 x11_3 x12_2 x13_3 true a0_0 a0_1) else (if 0 ≤ x13_3 then (spec_IsRectangle.j3 k3 a1 a2 a3 t102 x11_3 x12_2 x13_3 ((Go.bits .and .i64 (shr .i64 a3 x13_3) 1) == 0) a0_0 a0_1) else (none))) else (none)) else (spec_IsRectangle.l0 k3 a1 a2 a3 t102 x11_3 (wrap64 (x12_2 + 1)) a0_0 a0_1)) else (none)) = some r := by first | (rw [hji25] at H;exact H) | (simp only [hji25] at H ⊢;exact H)
         have hji25w : (IntKind.i64.wrap (a0_0 - a1)) = ji25 := (i64_w _).trans hji25
         by_cases c26 : 0 ≤ (ji25)
         ·rw [if_pos c26] at H
          have c26b0 := eq_true c26
          have c26b1 : decide (0 ≤ (ji25)) = true := decide_eq_true c26
          clear c26
          obtain ⟨ji27,hji27⟩ : ∃ j_ : Int,(shl .i64 1 (ji25)) = j_ := ⟨_,rfl⟩
          replace H : (if x13_3 < (ji27) then (if 0 ≤ x12_2 then (if (Go.bits .and .i64 (shr .i64 a2 x12_2) 1) = 0 then (spec_IsRectangle.j3 k3 a1 a2 a3 t102 x11_3 x12_2 x13_3 true a0_0 a0_1) else (if 0 ≤ x13_3 then (spec_IsRectangle.j3 k3 a1 a2 a3 t102 x11_3 x12_2 x13_3 ((Go.bits .and .i64 (shr .i64 a3 x13_3) 1) == 0) a0_0 a0_1) else (none))) else (none)) else (spec_IsRectangle.l0 k3 a1 a2 a3 t102 x11_3 (wrap64 (x12_2 + 1)) a0_0 a0_1)) = some r := by first | (rw [hji27] at H;exact H) | (simp only [hji27] at H ⊢;exact H)
          have hji27_ : (IntKind.i64.wrap (1 * 2 ^ min (ji25).toNat 64)) = ji27 := hji27
          have hji27z : (ji25) ≤ 64 → (IntKind.i64.wrap (1 * 2 ^ (ji25).toNat)) = ji27 := shl_small hji27
          have hji27u : (IntKind.i64.wrap (2 ^ min (ji25).toNat 64)) = ji27 := by have h_ := hji27_;rw [Int.one_mul] at h_;exact h_
          have hji27v : (ji25) ≤ 64 → (IntKind.i64.wrap (2 ^ (ji25).toNat)) = ji27 := fun hle_ => by have h_ := hji27z hle_;rw [Int.one_mul] at h_;exact h_
          have hji27y : (wrap64 (1 * 2 ^ min (ji25).toNat 64)) = ji27 := (i64_w _).symm.trans hji27_
          have hji27x : (ji25) ≤ 64 → (wrap64 (1 * 2 ^ (ji25).toNat)) = ji27 := fun h_ => (i64_w _).symm.trans (hji27z h_)
          by_cases c28 : x13_3 < (ji27)
          ·rw [if_pos c28] at H
           have c28b0 : decide (x13_3 < (ji27)) = true := decide_eq_true c28
           clear c28
           have HC29 := aZ_ H
           clear H
           have hcz30_0 : wr.cell? ⟨gb101,0,none⟩ = some (.int .i64 a0_0) := (blk_cell BK101.out 0).trans rfl
           have hcz30_1 : wr.cell? ⟨gb101,1,none⟩ = some (.int .i64 a0_1) := (blk_cell BK101.out 1).trans rfl
           have hfz30_0 := blk_frozen BK101.out 0
           have hfz30_1 := blk_frozen BK101.out 1
           go_upto_region 11 with (fail)
           go_cut [70] (fun v70 wc => ∃ (kq : Nat) (x70_28 : Bool),v70 = .bool x70_28 ∧ Aside0 (spec_IsRectangle.j3 kq a1 a2 a3 t102 x11_3 x12_2 x13_3 x70_28 a0_0 a0_1 = some r) ∧ Aside0 (kq ≤ k3) ∧ Aside0 (Kd.R (Kd.int .i64) 3 wc w.heap.size (fun _ => True) (.slice Ao24 t102.length co24) t102) ∧ Aside0 (wc.heap[gb101]? = some (.cells #[.int .i64 a0_0,.int .i64 a0_1] 25 (0,0))) ∧ Aside0 (Below w.heap.size w wc))
           case first =>
            have H := HC29.out
            clear HC29
            by_cases c31 : 0 ≤ x12_2
            ·rw [if_pos c31] at H
             have c31b0 := eq_true c31
             have c31b1 : decide (0 ≤ x12_2) = true := decide_eq_true c31
             clear c31
             obtain ⟨ji32,hji32⟩ : ∃ j_ : Int,(shr .i64 a2 x12_2) = j_ := ⟨_,rfl⟩
             replace H : (if (Go.bits .and .i64 (ji32) 1) = 0 then (spec_IsRectangle.j3 k3 a1 a2 a3 t102 x11_3 x12_2 x13_3 true a0_0 a0_1) else (if 0 ≤ x13_3 then (spec_IsRectangle.j3 k3 a1 a2 a3 t102 x11_3 x12_2 x13_3 ((Go.bits .and .i64 (shr .i64 a3 x13_3) 1) == 0) a0_0 a0_1) else (none))) = some r := by first | (rw [hji32] at H;exact H) | (simp only [hji32] at H ⊢;exact H)
             have hji32_ : (a2 / 2 ^ min x12_2.toNat 64) = ji32 := hji32
             have hji32z : x12_2 ≤ 64 → (a2 / 2 ^ x12_2.toNat) = ji32 := shr_small hji32
             by_cases c33 : (Go.bits .and .i64 (ji32) 1) = 0
             ·rw [if_pos c33] at H
              have c33b0 : ((Go.bits .and .i64 (ji32) 1) == 0) = true := beq_iff_eq.mpr c33
              have c33b1 : ((Go.bits .and .i64 (ji32) 1) != 0) = false := bne_eq_false_iff_eq.mpr c33
              clear c33
              (first | rw [c33b0] | (simp only [i64_w,i32_w];rw [c33b0]) | skip)
              have H' := aZ_ H
              clear H
              go_wp2
              go_meet
              case rel => exact ⟨_,(true),T10_,H',⟨by have := HJ5.out;have := HK2.out;have := HK3.out;first | omega | exact Nat.le_refl _⟩,⟨by (with_reducible repeat (first | apply Kd.R_alloc | apply Kd.R_drewN | apply Kd.R_drew));exact HO_9.out⟩,⟨by (with_reducible repeat (first | refine blk_drewN ?_ _ | refine blk_drew ?_ | refine blk_alloc ?_ _));exact BK101.out⟩,⟨by repeat (first | (with_reducible first | exact HB.out | apply below_alloc | apply pw_below_drewN | apply below_drew1 | refine below_set ?_ GE101.out) | exact HB.out)⟩⟩
             ·rw [if_neg c33] at H
              have c33b0 : ((Go.bits .and .i64 (ji32) 1) == 0) = false := beq_eq_false_iff_ne.mpr c33
              have c33b1 : ((Go.bits .and .i64 (ji32) 1) != 0) = true := bne_iff_ne.mpr c33
              (first | rw [c33b0] | (simp only [i64_w,i32_w];rw [c33b0]) | skip)
              by_cases c34 : 0 ≤ x13_3
              ·rw [if_pos c34] at H
               have c34b0 := eq_true c34
               have c34b1 : decide (0 ≤ x13_3) = true := decide_eq_true c34
               clear c34
               obtain ⟨ji35,hji35⟩ : ∃ j_ : Int,(shr .i64 a3 x13_3) = j_ := ⟨_,rfl⟩
               replace H : (spec_IsRectangle.j3 k3 a1 a2 a3 t102 x11_3 x12_2 x13_3 ((Go.bits .and .i64 (ji35) 1) == 0) a0_0 a0_1) = some r := by first | (rw [hji35] at H;exact H) | (simp only [hji35] at H ⊢;exact H)
               have hji35_ : (a3 / 2 ^ min x13_3.toNat 64) = ji35 := hji35
               have hji35z : x13_3 ≤ 64 → (a3 / 2 ^ x13_3.toNat) = ji35 := shr_small hji35
               have H' := aZ_ H
               clear H
               go_wp2
               go_meet
               case rel => exact ⟨_,(((Go.bits .and .i64 (ji35) 1) == 0)),(by first | rfl | (simp;done) | (simp only [← hji35] <;> (first | rfl | simp)) | (simp [*];done)),H',⟨by have := HJ5.out;have := HK2.out;have := HK3.out;first | omega | exact Nat.le_refl _⟩,⟨by (with_reducible repeat (first | apply Kd.R_alloc | apply Kd.R_drewN | apply Kd.R_drew));exact HO_9.out⟩,⟨by (with_reducible repeat (first | refine blk_drewN ?_ _ | refine blk_drew ?_ | refine blk_alloc ?_ _));exact BK101.out⟩,⟨by repeat (first | (with_reducible first | exact HB.out | apply below_alloc | apply pw_below_drewN | apply below_drew1 | refine below_set ?_ GE101.out) | exact HB.out)⟩⟩
              ·rw [if_neg c34] at H
               exact absurd H T49_
            ·rw [if_neg c31] at H
             exact absurd H T49_
           case rest =>
            clear HC29
            try clear c1
            try clear c2
            try clear p2
            try clear c3
            try clear c4
            try clear p6
            try clear c10
            try clear c13
            try clear c15
            try clear c15b0
            try clear c15b1
            try clear c22
            try clear c23
            try clear c23b0
            try clear c26
            try clear c26b0
            try clear c26b1
            try clear c27
            try clear c28
            try clear c28b0
            try clear c31
            try clear c31b0
            try clear c31b1
            try clear c33
            try clear c33b0
            try clear c33b1
            try clear c34
            try clear c34b0
            try clear c34b1
            try clear hcz20_0
            try clear hcz20_1
            try clear hcz30_0
            try clear hcz30_1
            try clear hcz8_0
            try clear hcz8_1
            try clear hfz20_0
            try clear hfz20_1
            try clear hfz30_0
            try clear hfz30_1
            try clear hfz8_0
            try clear hfz8_1
            try clear p2
            try clear p6
            obtain ⟨kq,x70_28,rfl,HA,HJ28,HO_9,BK101,HB⟩ := hcut
            cases kq with
            | zero => exact absurd HA.out (by simp [spec_IsRectangle.j3])
            | succ kj28 =>
             have H := HA.out
             clear HA
             simp only [spec_IsRectangle.j3] at H
             by_cases c36 : x70_28 = true
             ·subst c36
              have H1 : (spec_IsRectangle.l1 kj28 a1 a2 a3 t102 x11_3 x12_2 (wrap64 (x13_3 + 1)) a0_0 a0_1) = some r := by rw [if_pos rfl] at H;exact H
              clear H
              have H := H1
              clear H1
              have H' := aZ_ H
              clear H
              go_wp2
              go_roundg kj28
              case measure => have := HJ5.out;have := HK2.out;have := HK3.out;have := HJ28.out;omega
              case rel => exact ⟨(x11_3),(wrap64 (x13_3 + 1)),T10_,T10_,H',⟨by have := HJ5.out;have := HK2.out;have := HK3.out;have := HJ28.out;omega⟩,⟨by (with_reducible repeat (first | apply Kd.R_alloc | apply Kd.R_drewN | apply Kd.R_drew));exact HO_9.out⟩,⟨by (with_reducible repeat (first | refine blk_drewN ?_ _ | refine blk_drew ?_ | refine blk_alloc ?_ _));exact BK101.out⟩,⟨by repeat (first | (with_reducible first | exact HB.out | apply below_alloc | apply pw_below_drewN | apply below_drew1 | refine below_set ?_ GE101.out) | exact HB.out)⟩⟩
             ·replace c36 := Bool.eq_false_iff.mpr c36
              subst c36
              have H1 : (if 0 ≤ x12_2 then (if x12_2 < (t102.length : Int) then (if 0 ≤ x13_3 then (if x11_3 ≥ 0 then (if (Go.bits .and .i64 (shr .i64 (rd t102 x12_2) x13_3) 1) = x11_3 then (spec_IsRectangle.l1 kj28 a1 a2 a3 t102 (Go.bits .and .i64 (shr .i64 (rd t102 x12_2) x13_3) 1) x12_2 (wrap64 (x13_3 + 1)) a0_0 a0_1) else (some false)) else (spec_IsRectangle.l1 kj28 a1 a2 a3 t102 (Go.bits .and .i64 (shr .i64 (rd t102 x12_2) x13_3) 1) x12_2 (wrap64 (x13_3 + 1)) a0_0 a0_1)) else (none)) else (none)) else (none)) = some r := by rw [if_neg (show ¬ (false = true) by decide)] at H;exact H
              clear H
              have H := H1
              clear H1
              by_cases c37 : 0 ≤ x12_2
              ·rw [if_pos c37] at H
               have c37b0 : decide (0 ≤ x12_2) = true := decide_eq_true c37
               clear c37
               by_cases c38 : x12_2 < (t102.length : Int)
               ·rw [if_pos c38] at H
                have c38b0 : decide (x12_2 < (t102.length : Int)) = true := decide_eq_true c38
                clear c38
                by_cases c39 : 0 ≤ x13_3
                ·rw [if_pos c39] at H
                 have c39b0 := eq_true c39
                 have c39b1 : decide (0 ≤ x13_3) = true := decide_eq_true c39
                 clear c39
                 obtain ⟨ji40,hji40⟩ : ∃ j_ : Int,(shr .i64 (rd t102 x12_2) x13_3) = j_ := ⟨_,rfl⟩
                 replace H : (if x11_3 ≥ 0 then (if (Go.bits .and .i64 (ji40) 1) = x11_3 then (spec_IsRectangle.l1 kj28 a1 a2 a3 t102 (Go.bits .and .i64 (ji40) 1) x12_2 (wrap64 (x13_3 + 1)) a0_0 a0_1) else (some false)) else (spec_IsRectangle.l1 kj28 a1 a2 a3 t102 (Go.bits .and .i64 (ji40) 1) x12_2 (wrap64 (x13_3 + 1)) a0_0 a0_1)) = some r := by first | (rw [hji40] at H;exact H) | (simp only [hji40] at H ⊢;exact H)
                 have hji40_ : ((rd t102 x12_2) / 2 ^ min x13_3.toNat 64) = ji40 := hji40
                 have hji40z : x13_3 ≤ 64 → ((rd t102 x12_2) / 2 ^ x13_3.toNat) = ji40 := shr_small hji40
                 by_cases c41 : x11_3 ≥ 0
                 ·rw [if_pos c41] at H
                  have c41b0 : decide (0 ≤ x11_3) = true := decide_eq_true c41
                  clear c41
                  by_cases c42 : (Go.bits .and .i64 (ji40) 1) = x11_3
                  ·rw [if_pos c42] at H
                   have c42b0 : ((Go.bits .and .i64 (ji40) 1) == x11_3) = true := beq_iff_eq.mpr c42
                   have c42b1 : ((Go.bits .and .i64 (ji40) 1) != x11_3) = false := bne_eq_false_iff_eq.mpr c42
                   clear c42
                   have H' := aZ_ H
                   clear H
                   have p108 : 0 ≤ (x12_2 : Int) := of_decide_eq_true T6_
                   have q108 : x12_2 < (t102.length : Int) := of_decide_eq_true T6_
                   obtain ⟨ad108,e108,hx108_0⟩ := Kd.at_int (Kd.R_reads' HO_9.out).2.2 x12_2 p108 q108
                   cases e108
                   replace p108 := eq_true p108
                   replace q108 := eq_true q108
                   go_wp2
                   go_roundg kj28
                   case measure => have := HJ5.out;have := HK2.out;have := HK3.out;have := HJ28.out;omega
                   case rel => exact ⟨(Go.bits .and .i64 (ji40) 1),(wrap64 (x13_3 + 1)),T69_,T10_,H',⟨by have := HJ5.out;have := HK2.out;have := HK3.out;have := HJ28.out;omega⟩,⟨by (with_reducible repeat (first | apply Kd.R_alloc | apply Kd.R_drewN | apply Kd.R_drew));exact HO_9.out⟩,⟨by (with_reducible repeat (first | refine blk_drewN ?_ _ | refine blk_drew ?_ | refine blk_alloc ?_ _));exact BK101.out⟩,⟨by repeat (first | (with_reducible first | exact HB.out | apply below_alloc | apply pw_below_drewN | apply below_drew1 | refine below_set ?_ GE101.out) | exact HB.out)⟩⟩
                  ·rw [if_neg c42] at H
                   have c42b0 : ((Go.bits .and .i64 (ji40) 1) == x11_3) = false := beq_eq_false_iff_ne.mpr c42
                   have c42b1 : ((Go.bits .and .i64 (ji40) 1) != x11_3) = true := bne_iff_ne.mpr c42
                   obtain rfl := Option.some.inj H
                   have p108 : 0 ≤ (x12_2 : Int) := of_decide_eq_true T6_
                   have q108 : x12_2 < (t102.length : Int) := of_decide_eq_true T6_
                   obtain ⟨ad108,e108,hx108_0⟩ := Kd.at_int (Kd.R_reads' HO_9.out).2.2 x12_2 p108 q108
                   cases e108
                   replace p108 := eq_true p108
                   replace q108 := eq_true q108
                   go_wp2
                   go_ret
                   exact ⟨by first | rfl | (simp [errW_none,errW_some] <;> rfl) | (simp only [← hji25,← hji27,← hji40];first | rfl | (simp [errW_none,errW_some] <;> rfl)) | (simp [*,errW_none,errW_some] <;> rfl),by repeat (first | (with_reducible first | exact HB.out | apply below_alloc | apply pw_below_drewN | apply below_drew1 | refine below_set ?_ GE101.out) | exact HB.out)⟩
                 ·rw [if_neg c41] at H
                  have c41b0 : decide (0 ≤ x11_3) = false := decide_eq_false c41
                  clear c41
                  have H' := aZ_ H
                  clear H
                  have p108 : 0 ≤ (x12_2 : Int) := of_decide_eq_true T6_
                  have q108 : x12_2 < (t102.length : Int) := of_decide_eq_true T6_
                  obtain ⟨ad108,e108,hx108_0⟩ := Kd.at_int (Kd.R_reads' HO_9.out).2.2 x12_2 p108 q108
                  cases e108
                  replace p108 := eq_true p108
                  replace q108 := eq_true q108
                  go_wp2
                  go_roundg kj28
                  case measure => have := HJ5.out;have := HK2.out;have := HK3.out;have := HJ28.out;omega
                  case rel => exact ⟨(Go.bits .and .i64 (ji40) 1),(wrap64 (x13_3 + 1)),T69_,T10_,H',⟨by have := HJ5.out;have := HK2.out;have := HK3.out;have := HJ28.out;omega⟩,⟨by (with_reducible repeat (first | apply Kd.R_alloc | apply Kd.R_drewN | apply Kd.R_drew));exact HO_9.out⟩,⟨by (with_reducible repeat (first | refine blk_drewN ?_ _ | refine blk_drew ?_ | refine blk_alloc ?_ _));exact BK101.out⟩,⟨by repeat (first | (with_reducible first | exact HB.out | apply below_alloc | apply pw_below_drewN | apply below_drew1 | refine below_set ?_ GE101.out) | exact HB.out)⟩⟩
                ·rw [if_neg c39] at H
                 exact absurd H T49_
               ·rw [if_neg c38] at H
                exact absurd H T49_
              ·rw [if_neg c37] at H
               exact absurd H T49_
          ·rw [if_neg c28] at H
           have c28b0 : decide (x13_3 < (ji27)) = false := decide_eq_false c28
           clear c28
           have H' := aZ_ H
           clear H
           have hcz43_0 : wr.cell? ⟨gb101,0,none⟩ = some (.int .i64 a0_0) := (blk_cell BK101.out 0).trans rfl
           have hcz43_1 : wr.cell? ⟨gb101,1,none⟩ = some (.int .i64 a0_1) := (blk_cell BK101.out 1).trans rfl
           have hfz43_0 := blk_frozen BK101.out 0
           have hfz43_1 := blk_frozen BK101.out 1
           go_wp2
           go_roundg k3
           case measure => have := HJ5.out;have := HK2.out;have := HK3.out;omega
           case rel => exact ⟨(x11_3),(wrap64 (x12_2 + 1)),T10_,T10_,H',⟨by have := HJ5.out;have := HK2.out;have := HK3.out;omega⟩,⟨by (with_reducible repeat (first | apply Kd.R_alloc | apply Kd.R_drewN | apply Kd.R_drew));exact HO_9.out⟩,⟨by (with_reducible repeat (first | refine blk_drewN ?_ _ | refine blk_drew ?_ | refine blk_alloc ?_ _));exact BK101.out⟩,⟨by repeat (first | (with_reducible first | exact HB.out | apply below_alloc | apply pw_below_drewN | apply below_drew1 | refine below_set ?_ GE101.out) | exact HB.out)⟩⟩
         ·rw [if_neg c26] at H
          exact absurd H T49_
      ·rw [if_neg c23] at H
       have c23b0 : decide (x12_2 < (t102.length : Int)) = false := decide_eq_false c23
       clear c23
       obtain rfl := Option.some.inj H
       obtain ⟨Ao44,co44,eo44⟩ := Kd.R_slice HO_9.out
       subst eo44
       go_wp2
       go_ret
       exact ⟨by first | rfl | (simp [errW_none,errW_some] <;> rfl) | (simp [*,errW_none,errW_some] <;> rfl),by repeat (first | (with_reducible first | exact HB.out | apply below_alloc | apply pw_below_drewN | apply below_drew1 | refine below_set ?_ GE101.out) | exact HB.out)⟩
structure MatGo (k : Nat) (code : List Int) (a u p : Int) (q : List Int) (s : Bool) (m1 m2 j v : Int) (l : List Int) (o : Bool) (la : List Int) (lb lc t1 t2 : Int) (t3 : Bool) (lh : List Int) (x1 : Int) (li : List Int) (x2 : Int) (o1 o2 o3 o4 o5 : Int) (x3 : Bool) (f1 f2 f3 f4 : Int) (f5 : List Int) (x4 : Bool) : Prop where
 small : laws_big.f code = some false
 draw : spec_DrawMatrixOf.f k code = some (a,u,p)
 mat : impl_MatrixOf.f k a u p = some (q,s)
 mat2 : spec_MatrixOf.f k a u p = some (q,s)
 qs : laws_sameInts.f k q q = some true
 back : s = true → impl_TableOfMatrix.f q a p = some (a,u,true) ∧ ∃ r d : Int,impl_RankMod2.f q = some r ∧ impl_DifferentRows.f q = some d ∧ ¬ r > d ∧ ¬ d > (q.length : Int) ∧ 0 ≤ r ∧ d ≤ wrap64 (2 ^ min r.toNat 64)
 dlf : spec_DrawLargestFooling.f k code = some (m1,m2,j,v)
 lf : impl_LargestFooling.f m1 m2 j v = some (l,o)
 lf2 : spec_LargestFooling.f k m1 m2 j v = some (l,o)
 ls : laws_sameInts.f k l l = some true
 fool : o = true → impl_IsFooling.f k m1 m2 j v l = some true
 dtm : spec_DrawTableOfMatrix.f k code = some (la,lb,lc)
 tm : impl_TableOfMatrix.f la lb lc = some (t1,t2,t3)
 tm2 : spec_TableOfMatrix.f k la lb lc = some (t1,t2,t3)
 dr : spec_DrawRankMod2.f k code = some lh
 rk : impl_RankMod2.f lh = some x1
 rk2 : spec_RankMod2.f k lh = some x1
 dd : spec_DrawDifferentRows.f k code = some li
 df : impl_DifferentRows.f li = some x2
 df2 : spec_DifferentRows.f k li = some x2
 di : spec_DrawIsRectangle.f k code = some (o1,o2,o3,o4,o5)
 ir : impl_IsRectangle.f o1 o2 o3 o4 o5 = some x3
 ir2 : spec_IsRectangle.f k o1 o2 o3 o4 o5 = some x3
 dfo : spec_DrawIsFooling.f k code = some (f1,f2,f3,f4,f5)
 fo : impl_IsFooling.f k f1 f2 f3 f4 f5 = some x4
 fo2 : spec_IsFooling.f k f1 f2 f3 f4 f5 = some x4
open Classical in
noncomputable def laws_FnMatrices.f (k : Nat) (code : List Int) : Option Bool :=
 if laws_big.f code = some true ∨ ∃ a u p q s m1 m2 j v l o la lb lc t1 t2 t3 lh x1 li x2 o1 o2 o3 o4 o5 x3 f1 f2 f3 f4 f5 x4,MatGo k code a u p q s m1 m2 j v l o la lb lc t1 t2 t3 lh x1 li x2 o1 o2 o3 o4 o5 x3 f1 f2 f3 f4 f5 x4 then some true else none
set_option maxHeartbeats 8000000 in
set_option maxRecDepth 100000 in
theorem laws_FnMatrices.calls (k : Nat) (A0 : Option Addr) (c0 : Nat) (l0 : List Int) (r : Bool) (w : World) (hr0 : Kd.C (Kd.int .u8) w A0 l0.length l0) (hc0 : l0.length ≤ c0) (h : laws_FnMatrices.f k l0 = some r) :
  Calls Try.prog 4 #[.slice A0 l0.length c0] w fun e w' => e = .returned (.bool r) ∧ Below w.heap.size w w' := by
 have hut := Try.underlying25
 unfold laws_FnMatrices.f at h
 split at h
 next hgo =>
  cases h
  rcases hgo with hbig | ⟨a,u,p,q,s,m1,m2,j,v,l,o,la,lb,lc,t1,t2,t3,lh,x1,li,x2,o1,o2,o3,o4,o5,x3,f1,f2,f3,f4,f5,x4,G⟩
  ·have HB := aZ_ hbig
   clear hbig
   go_enter Try.func4,Try.ntmps4
   go_wp2_with (go_at_call 5;refine (laws_big.calls A0 c0 l0 true _ hr0 hc0 HB.out).mono ?_;rintro e w1 ⟨rfl,⟨nd,rfl⟩⟩)
   go_ret
   exact ⟨rfl,pw_below_drewN (Below.refl _ _) _⟩
  ·have HG := aZ_ G
   have HR := aZ_ hr0
   have HC0 := aZ_ hc0
   have HB := aZ_ (Below.refl w.heap.size w)
   clear G hr0 hc0
   go_enter Try.func4,Try.ntmps4
   go_upto_region 3 with (go_at_call 5;refine (laws_big.calls A0 c0 l0 false _ HR.out HC0.out HG.out.small).mono ?_;rintro e w1 ⟨rfl,hd⟩;have hb := hd.below;clear hd;have n_ := aZ_ (Kd.Heap.C (Kd.heap_int .u8) hb.block HR.out);clear HR;have HR := n_;clear n_;have n_ := aZ_ (below_step HB.out hb);clear HB;have HB := n_;clear n_;clear hb )
   go_upto_region 4 with (go_at_call 25;refine (spec_DrawMatrixOf.calls k A0 c0 l0 a u p _ HR.out HC0.out HG.out.draw).mono ?_;rintro e w2 ⟨rfl,hb⟩;have n_ := aZ_ (Kd.Heap.C (Kd.heap_int .u8) hb.block HR.out);clear HR;have HR := n_;clear n_;have n_ := aZ_ (below_step HB.out hb);clear HB;have HB := n_;clear n_;clear hb )
   have BF := aZ_ (blk_new w2 (.cells #[.int .i64 a,.int .i64 u] 25 (0,0)))
   have hb := below_alloc (Below.refl w2.heap.size w2) (.cells #[.int .i64 a,.int .i64 u] 25 (0,0))
   have n_ := aZ_ (Kd.Heap.C (Kd.heap_int .u8) hb.block HR.out)
   clear HR
   have HR := n_
   clear n_
   have n_ := aZ_ (below_step HB.out hb)
   clear HB
   have HB := n_
   clear n_
   clear hb
   obtain ⟨gf,hgf_⟩ : ∃ gf,gf = w2.heap.size := ⟨_,rfl⟩
   rw [← hgf_] at BF ⊢
   clear hgf_
   generalize w2.alloc (.cells #[.int .i64 a,.int .i64 u] 25 (0,0)) = w3 at HR HB BF ⊢
   have hc_BF_0 : w3.cell? ⟨gf,0,none⟩ = some (.int .i64 a) := (blk_cell BF.out 0).trans rfl
   have hc_BF_1 : w3.cell? ⟨gf,1,none⟩ = some (.int .i64 u) := (blk_cell BF.out 1).trans rfl
   go_upto_region 5 with (go_at_call 26;refine (impl_MatrixOf.calls k a u p q s _ HG.out.mat).mono ?_;rintro e w4 ⟨vq,rfl,hq,hb⟩;have n_ := aZ_ (Kd.Heap.C (Kd.heap_int .u8) hb.block HR.out);clear HR;have HR := n_;clear n_;have n_ := aZ_ (below_step HB.out hb);clear HB;have HB := n_;clear n_;have n_ := aZ_ (blk_below BF.out hb);clear BF;have BF := n_;clear n_;obtain ⟨Aq,cq,rfl,hlc_,hr_⟩ := Kd.R_reads hq;have HQ := aZ_ hr_;have HQc := aZ_ hlc_;clear hr_ hlc_;clear hq;clear hb ;clear hc_BF_0 hc_BF_1;have hc_BF_0 : w4.cell? ⟨gf,0,none⟩ = some (.int .i64 a) := (blk_cell BF.out 0).trans rfl;have hc_BF_1 : w4.cell? ⟨gf,1,none⟩ = some (.int .i64 u) := (blk_cell BF.out 1).trans rfl)
   go_upto_region 6 with (go_at_call 27;refine (spec_MatrixOf.calls k a u p q s _ HG.out.mat2).mono ?_;rintro e w5 ⟨vq,rfl,hq,hb⟩;have n_ := aZ_ (Kd.Heap.C (Kd.heap_int .u8) hb.block HR.out);clear HR;have HR := n_;clear n_;have n_ := aZ_ (below_step HB.out hb);clear HB;have HB := n_;clear n_;have n_ := aZ_ (blk_below BF.out hb);clear BF;have BF := n_;clear n_;have n_ := aZ_ (Kd.Heap.C (Kd.heap_int .i64) hb.block HQ.out);clear HQ;have HQ := n_;clear n_;obtain ⟨An,cn,rfl,hlc_,hr_⟩ := Kd.R_reads hq;have HN := aZ_ hr_;have HNc := aZ_ hlc_;clear hr_ hlc_;clear hq;clear hb ;clear hc_BF_0 hc_BF_1;have hc_BF_0 : w5.cell? ⟨gf,0,none⟩ = some (.int .i64 a) := (blk_cell BF.out 0).trans rfl;have hc_BF_1 : w5.cell? ⟨gf,1,none⟩ = some (.int .i64 u) := (blk_cell BF.out 1).trans rfl)
   have hss : (s != s) = false := bne_self_eq_false s
   go_upto_region 8 with (go_at_call 10;refine (laws_sameInts.calls k Aq cq q An cn q true _ HQ.out HQc.out HN.out HNc.out HG.out.qs).mono ?_;rintro e w6 ⟨rfl,hd⟩;have hb := hd.below;clear hd;have n_ := aZ_ (Kd.Heap.C (Kd.heap_int .u8) hb.block HR.out);clear HR;have HR := n_;clear n_;have n_ := aZ_ (below_step HB.out hb);clear HB;have HB := n_;clear n_;have n_ := aZ_ (blk_below BF.out hb);clear BF;have BF := n_;clear n_;have n_ := aZ_ (Kd.Heap.C (Kd.heap_int .i64) hb.block HQ.out);clear HQ;have HQ := n_;clear n_;have n_ := aZ_ (Kd.Heap.C (Kd.heap_int .i64) hb.block HN.out);clear HN;have HN := n_;clear n_;clear hb ;clear hc_BF_0 hc_BF_1;have hc_BF_0 : w6.cell? ⟨gf,0,none⟩ = some (.int .i64 a) := (blk_cell BF.out 0).trans rfl;have hc_BF_1 : w6.cell? ⟨gf,1,none⟩ = some (.int .i64 u) := (blk_cell BF.out 1).trans rfl)
   clear hss HQ HQc
   cases s
   case' true =>
    obtain ⟨hbk,r,d,hr,hd,hrd,hdl,hr0,hd1⟩ := HG.out.back rfl
    have HBK := aZ_ hbk
    have HRK := aZ_ hr
    have HDF := aZ_ hd
    have HTS := aZ_ (And.intro hrd (And.intro hdl (And.intro hr0 hd1)))
    clear hbk hr hd hrd hdl hr0 hd1
    go_upto_region 10 with (go_at_call 28;refine (impl_TableOfMatrix.calls An cn q a p a u true _ HN.out HNc.out HBK.out).mono ?_;rintro e w7 ⟨rfl,hb⟩;have n_ := aZ_ (Kd.Heap.C (Kd.heap_int .u8) hb.block HR.out);clear HR;have HR := n_;clear n_;have n_ := aZ_ (below_step HB.out hb);clear HB;have HB := n_;clear n_;have n_ := aZ_ (blk_below BF.out hb);clear BF;have BF := n_;clear n_;have n_ := aZ_ (Kd.Heap.C (Kd.heap_int .i64) hb.block HN.out);clear HN;have HN := n_;clear n_;clear hb ;clear hc_BF_0 hc_BF_1;have hc_BF_0 : w7.cell? ⟨gf,0,none⟩ = some (.int .i64 a) := (blk_cell BF.out 0).trans rfl;have hc_BF_1 : w7.cell? ⟨gf,1,none⟩ = some (.int .i64 u) := (blk_cell BF.out 1).trans rfl)
    clear hc_BF_0 hc_BF_1
    have BT := aZ_ (blk_new w7 (.cells #[.int .i64 a,.int .i64 u] 25 (0,0)))
    have hb := below_alloc (Below.refl w7.heap.size w7) (.cells #[.int .i64 a,.int .i64 u] 25 (0,0))
    have n_ := aZ_ (Kd.Heap.C (Kd.heap_int .u8) hb.block HR.out)
    clear HR
    have HR := n_
    clear n_
    have n_ := aZ_ (below_step HB.out hb)
    clear HB
    have HB := n_
    clear n_
    have n_ := aZ_ (blk_below BF.out hb)
    clear BF
    have BF := n_
    clear n_
    have n_ := aZ_ (Kd.Heap.C (Kd.heap_int .i64) hb.block HN.out)
    clear HN
    have HN := n_
    clear n_
    clear hb
    obtain ⟨gt,hgt_⟩ : ∃ gt,gt = w7.heap.size := ⟨_,rfl⟩
    rw [← hgt_] at BT ⊢
    clear hgt_
    generalize w7.alloc (.cells #[.int .i64 a,.int .i64 u] 25 (0,0)) = w8 at HR HB BF HN BT ⊢
    have hc_BF_0 : w8.cell? ⟨gf,0,none⟩ = some (.int .i64 a) := (blk_cell BF.out 0).trans rfl
    have hc_BF_1 : w8.cell? ⟨gf,1,none⟩ = some (.int .i64 u) := (blk_cell BF.out 1).trans rfl
    have hc_BT_0 : w8.cell? ⟨gt,0,none⟩ = some (.int .i64 a) := (blk_cell BT.out 0).trans rfl
    have hc_BT_1 : w8.cell? ⟨gt,1,none⟩ = some (.int .i64 u) := (blk_cell BT.out 1).trans rfl
    go_upto_region 11 with (go_at_call 29;refine (impl_RankMod2.calls An cn q r _ HN.out HNc.out HRK.out).mono ?_;rintro e w9 ⟨rfl,hb⟩;have n_ := aZ_ (Kd.Heap.C (Kd.heap_int .u8) hb.block HR.out);clear HR;have HR := n_;clear n_;have n_ := aZ_ (below_step HB.out hb);clear HB;have HB := n_;clear n_;have n_ := aZ_ (blk_below BF.out hb);clear BF;have BF := n_;clear n_;have n_ := aZ_ (Kd.Heap.C (Kd.heap_int .i64) hb.block HN.out);clear HN;have HN := n_;clear n_;have n_ := aZ_ (blk_below BT.out hb);clear BT;have BT := n_;clear n_;clear hb ;clear hc_BF_0 hc_BF_1 hc_BT_0 hc_BT_1;have hc_BF_0 : w9.cell? ⟨gf,0,none⟩ = some (.int .i64 a) := (blk_cell BF.out 0).trans rfl;have hc_BF_1 : w9.cell? ⟨gf,1,none⟩ = some (.int .i64 u) := (blk_cell BF.out 1).trans rfl;have hc_BT_0 : w9.cell? ⟨gt,0,none⟩ = some (.int .i64 a) := (blk_cell BT.out 0).trans rfl;have hc_BT_1 : w9.cell? ⟨gt,1,none⟩ = some (.int .i64 u) := (blk_cell BT.out 1).trans rfl)
    go_upto_region 12 with (go_at_call 30;refine (impl_DifferentRows.calls An cn q d _ HN.out HNc.out HDF.out).mono ?_;rintro e wz ⟨rfl,hb⟩;have n_ := aZ_ (Kd.Heap.C (Kd.heap_int .u8) hb.block HR.out);clear HR;have HR := n_;clear n_;have n_ := aZ_ (below_step HB.out hb);clear HB;have HB := n_;clear n_;have n_ := aZ_ (blk_below BF.out hb);clear BF;have BF := n_;clear n_;have n_ := aZ_ (Kd.Heap.C (Kd.heap_int .i64) hb.block HN.out);clear HN;have HN := n_;clear n_;have n_ := aZ_ (blk_below BT.out hb);clear BT;have BT := n_;clear n_;clear hb ;clear hc_BF_0 hc_BF_1 hc_BT_0 hc_BT_1;have hc_BF_0 : wz.cell? ⟨gf,0,none⟩ = some (.int .i64 a) := (blk_cell BF.out 0).trans rfl;have hc_BF_1 : wz.cell? ⟨gf,1,none⟩ = some (.int .i64 u) := (blk_cell BF.out 1).trans rfl;have hc_BT_0 : wz.cell? ⟨gt,0,none⟩ = some (.int .i64 a) := (blk_cell BT.out 0).trans rfl;have hc_BT_1 : wz.cell? ⟨gt,1,none⟩ = some (.int .i64 u) := (blk_cell BT.out 1).trans rfl)
    have haa : (a != a) = false := bne_self_eq_false a
    have huu : (u != u) = false := bne_self_eq_false u
    obtain ⟨hrd,hdl,hr0,hd1⟩ := HTS.out
    have hd2 : decide (r > d) = false := decide_eq_false T44_
    have hd3 : decide (d > (q.length : Int)) = false := decide_eq_false T44_
    have hd4 : decide (d > wrap64 (2 ^ min r.toNat 64)) = false := decide_eq_false (Int.not_lt.mpr hd1)
    go_upto_region 14 with (fail)
    clear haa huu hrd hdl hr0 hd1 hd2 hd3 hd4 HTS HBK HRK HDF BT hc_BT_0 hc_BT_1
   case' false =>
    obtain ⟨wz,hwz⟩ : ∃ wz,wz = w6 := ⟨_,rfl⟩
    subst hwz
    go_upto_region 14 with (fail)
   all_goals
    clear HN HNc BF hc_BF_0 hc_BF_1
    go_upto_region 15 with (go_at_call 31;refine (spec_DrawLargestFooling.calls k A0 c0 l0 m1 m2 j v _ HR.out HC0.out HG.out.dlf).mono ?_;rintro e w7 ⟨rfl,hb⟩;have n_ := aZ_ (Kd.Heap.C (Kd.heap_int .u8) hb.block HR.out);clear HR;have HR := n_;clear n_;have n_ := aZ_ (below_step HB.out hb);clear HB;have HB := n_;clear n_;clear hb )
    have BM := aZ_ (blk_new w7 (.cells #[.int .i64 m1,.int .i64 m2] 25 (0,0)))
    have hb := below_alloc (Below.refl w7.heap.size w7) (.cells #[.int .i64 m1,.int .i64 m2] 25 (0,0))
    have n_ := aZ_ (Kd.Heap.C (Kd.heap_int .u8) hb.block HR.out)
    clear HR
    have HR := n_
    clear n_
    have n_ := aZ_ (below_step HB.out hb)
    clear HB
    have HB := n_
    clear n_
    clear hb
    obtain ⟨gm,hgm_⟩ : ∃ gm,gm = w7.heap.size := ⟨_,rfl⟩
    rw [← hgm_] at BM ⊢
    clear hgm_
    generalize w7.alloc (.cells #[.int .i64 m1,.int .i64 m2] 25 (0,0)) = w8 at HR HB BM ⊢
    have hc_BM_0 : w8.cell? ⟨gm,0,none⟩ = some (.int .i64 m1) := (blk_cell BM.out 0).trans rfl
    have hc_BM_1 : w8.cell? ⟨gm,1,none⟩ = some (.int .i64 m2) := (blk_cell BM.out 1).trans rfl
    go_upto_region 16 with (go_at_call 32;refine (impl_LargestFooling.calls m1 m2 j v l o _ HG.out.lf).mono ?_;rintro e w9 ⟨vq,rfl,hq,hb⟩;have n_ := aZ_ (Kd.Heap.C (Kd.heap_int .u8) hb.block HR.out);clear HR;have HR := n_;clear n_;have n_ := aZ_ (below_step HB.out hb);clear HB;have HB := n_;clear n_;have n_ := aZ_ (blk_below BM.out hb);clear BM;have BM := n_;clear n_;obtain ⟨Al,cl,rfl,hlc_,hr_⟩ := Kd.R_reads hq;have HL := aZ_ hr_;have HLc := aZ_ hlc_;clear hr_ hlc_;clear hq;clear hb ;clear hc_BM_0 hc_BM_1;have hc_BM_0 : w9.cell? ⟨gm,0,none⟩ = some (.int .i64 m1) := (blk_cell BM.out 0).trans rfl;have hc_BM_1 : w9.cell? ⟨gm,1,none⟩ = some (.int .i64 m2) := (blk_cell BM.out 1).trans rfl)
    go_upto_region 17 with (go_at_call 33;refine (spec_LargestFooling.calls k m1 m2 j v l o _ HG.out.lf2).mono ?_;rintro e w10 ⟨vq,rfl,hq,hb⟩;have n_ := aZ_ (Kd.Heap.C (Kd.heap_int .u8) hb.block HR.out);clear HR;have HR := n_;clear n_;have n_ := aZ_ (below_step HB.out hb);clear HB;have HB := n_;clear n_;have n_ := aZ_ (blk_below BM.out hb);clear BM;have BM := n_;clear n_;have n_ := aZ_ (Kd.Heap.C (Kd.heap_int .i64) hb.block HL.out);clear HL;have HL := n_;clear n_;obtain ⟨Am,cm,rfl,hlc_,hr_⟩ := hq;replace hr_ := Kd.F_now hr_;have HM := aZ_ hr_;have HMc := aZ_ hlc_;clear hr_ hlc_;clear hb ;clear hc_BM_0 hc_BM_1;have hc_BM_0 : w10.cell? ⟨gm,0,none⟩ = some (.int .i64 m1) := (blk_cell BM.out 0).trans rfl;have hc_BM_1 : w10.cell? ⟨gm,1,none⟩ = some (.int .i64 m2) := (blk_cell BM.out 1).trans rfl)
    have hoo : (o != o) = false := bne_self_eq_false o
    cases o
    case' false =>
     go_upto_region 19 with (go_at_call 10;refine (laws_sameInts.calls k Al cl l Am cm l true _ HL.out HLc.out HM.out HMc.out HG.out.ls).mono ?_;rintro e wy ⟨rfl,hd⟩;have hb := hd.below;clear hd;have n_ := aZ_ (Kd.Heap.C (Kd.heap_int .u8) hb.block HR.out);clear HR;have HR := n_;clear n_;have n_ := aZ_ (below_step HB.out hb);clear HB;have HB := n_;clear n_;have n_ := aZ_ (blk_below BM.out hb);clear BM;have BM := n_;clear n_;have n_ := aZ_ (Kd.Heap.C (Kd.heap_int .i64) hb.block HL.out);clear HL;have HL := n_;clear n_;have n_ := aZ_ (Kd.Heap.C (Kd.heap_int .i64) hb.block HM.out);clear HM;have HM := n_;clear n_;clear hb ;clear hc_BM_0 hc_BM_1;clear HL;clear HLc;have hc_BM_0 : wy.cell? ⟨gm,0,none⟩ = some (.int .i64 m1) := (blk_cell BM.out 0).trans rfl;have hc_BM_1 : wy.cell? ⟨gm,1,none⟩ = some (.int .i64 m2) := (blk_cell BM.out 1).trans rfl)
    case' true =>
     have HFO := aZ_ (HG.out.fool rfl)
     go_upto_region 19 with (first | (go_at_call 10;refine (laws_sameInts.calls k Al cl l Am cm l true _ HL.out HLc.out HM.out HMc.out HG.out.ls).mono ?_;rintro e wv ⟨rfl,hd⟩;have hb := hd.below;clear hd;have n_ := aZ_ (Kd.Heap.C (Kd.heap_int .u8) hb.block HR.out);clear HR;have HR := n_;clear n_;have n_ := aZ_ (below_step HB.out hb);clear HB;have HB := n_;clear n_;have n_ := aZ_ (blk_below BM.out hb);clear BM;have BM := n_;clear n_;have n_ := aZ_ (Kd.Heap.C (Kd.heap_int .i64) hb.block HL.out);clear HL;have HL := n_;clear n_;have n_ := aZ_ (Kd.Heap.C (Kd.heap_int .i64) hb.block HM.out);clear HM;have HM := n_;clear n_;clear hb ;clear hc_BM_0 hc_BM_1;clear HL;clear HLc;have hc_BM_0 : wv.cell? ⟨gm,0,none⟩ = some (.int .i64 m1) := (blk_cell BM.out 0).trans rfl;have hc_BM_1 : wv.cell? ⟨gm,1,none⟩ = some (.int .i64 m2) := (blk_cell BM.out 1).trans rfl) | (go_at_call 34;refine (impl_IsFooling.calls k m1 m2 j v Am cm l true _ HM.out HMc.out HFO.out).mono ?_;rintro e wy ⟨rfl,hb⟩;have n_ := aZ_ (Kd.Heap.C (Kd.heap_int .u8) hb.block HR.out);clear HR;have HR := n_;clear n_;have n_ := aZ_ (below_step HB.out hb);clear HB;have HB := n_;clear n_;have n_ := aZ_ (blk_below BM.out hb);clear BM;have BM := n_;clear n_;have n_ := aZ_ (Kd.Heap.C (Kd.heap_int .i64) hb.block HM.out);clear HM;have HM := n_;clear n_;clear hb ;clear hc_BM_0 hc_BM_1;have hc_BM_0 : wy.cell? ⟨gm,0,none⟩ = some (.int .i64 m1) := (blk_cell BM.out 0).trans rfl;have hc_BM_1 : wy.cell? ⟨gm,1,none⟩ = some (.int .i64 m2) := (blk_cell BM.out 1).trans rfl))
     clear HFO
    all_goals
     clear hoo HM HMc BM hc_BM_0 hc_BM_1
     go_upto_region 20 with (go_at_call 35;refine (spec_DrawTableOfMatrix.calls k A0 c0 l0 la lb lc _ HR.out HC0.out HG.out.dtm).mono ?_;rintro e w11 ⟨vq,rfl,hq,hb⟩;have n_ := aZ_ (Kd.Heap.C (Kd.heap_int .u8) hb.block HR.out);clear HR;have HR := n_;clear n_;have n_ := aZ_ (below_step HB.out hb);clear HB;have HB := n_;clear n_;obtain ⟨Aa,ca,rfl,hlc_,hr_⟩ := Kd.R_reads hq;have HA := aZ_ hr_;have HAc := aZ_ hlc_;clear hr_ hlc_;clear hq;clear hb )
     go_upto_region 21 with (go_at_call 28;refine (impl_TableOfMatrix.calls Aa ca la lb lc t1 t2 t3 _ HA.out HAc.out HG.out.tm).mono ?_;rintro e w12 ⟨rfl,hb⟩;have n_ := aZ_ (Kd.Heap.C (Kd.heap_int .u8) hb.block HR.out);clear HR;have HR := n_;clear n_;have n_ := aZ_ (below_step HB.out hb);clear HB;have HB := n_;clear n_;have n_ := aZ_ (Kd.Heap.C (Kd.heap_int .i64) hb.block HA.out);clear HA;have HA := n_;clear n_;clear hb )
     have B1 := aZ_ (blk_new w12 (.cells #[.int .i64 t1,.int .i64 t2] 25 (0,0)))
     have hb := below_alloc (Below.refl w12.heap.size w12) (.cells #[.int .i64 t1,.int .i64 t2] 25 (0,0))
     have n_ := aZ_ (Kd.Heap.C (Kd.heap_int .u8) hb.block HR.out)
     clear HR
     have HR := n_
     clear n_
     have n_ := aZ_ (below_step HB.out hb)
     clear HB
     have HB := n_
     clear n_
     have n_ := aZ_ (Kd.Heap.C (Kd.heap_int .i64) hb.block HA.out)
     clear HA
     have HA := n_
     clear n_
     clear hb
     obtain ⟨g1,hg1_⟩ : ∃ g1,g1 = w12.heap.size := ⟨_,rfl⟩
     rw [← hg1_] at B1 ⊢
     clear hg1_
     generalize w12.alloc (.cells #[.int .i64 t1,.int .i64 t2] 25 (0,0)) = w13 at HR HB HA B1 ⊢
     have hc_B1_0 : w13.cell? ⟨g1,0,none⟩ = some (.int .i64 t1) := (blk_cell B1.out 0).trans rfl
     have hc_B1_1 : w13.cell? ⟨g1,1,none⟩ = some (.int .i64 t2) := (blk_cell B1.out 1).trans rfl
     go_upto_region 22 with (go_at_call 36;refine (spec_TableOfMatrix.calls k Aa ca la lb lc t1 t2 t3 _ HA.out HAc.out HG.out.tm2).mono ?_;rintro e w14 ⟨rfl,hb⟩;have n_ := aZ_ (Kd.Heap.C (Kd.heap_int .u8) hb.block HR.out);clear HR;have HR := n_;clear n_;have n_ := aZ_ (below_step HB.out hb);clear HB;have HB := n_;clear n_;have n_ := aZ_ (Kd.Heap.C (Kd.heap_int .i64) hb.block HA.out);clear HA;have HA := n_;clear n_;have n_ := aZ_ (blk_below B1.out hb);clear B1;have B1 := n_;clear n_;clear hb ;clear hc_B1_0 hc_B1_1;clear HA;clear HAc;have hc_B1_0 : w14.cell? ⟨g1,0,none⟩ = some (.int .i64 t1) := (blk_cell B1.out 0).trans rfl;have hc_B1_1 : w14.cell? ⟨g1,1,none⟩ = some (.int .i64 t2) := (blk_cell B1.out 1).trans rfl)
     clear hc_B1_0 hc_B1_1
     have B2 := aZ_ (blk_new w14 (.cells #[.int .i64 t1,.int .i64 t2] 25 (0,0)))
     have hb := below_alloc (Below.refl w14.heap.size w14) (.cells #[.int .i64 t1,.int .i64 t2] 25 (0,0))
     have n_ := aZ_ (Kd.Heap.C (Kd.heap_int .u8) hb.block HR.out)
     clear HR
     have HR := n_
     clear n_
     have n_ := aZ_ (below_step HB.out hb)
     clear HB
     have HB := n_
     clear n_
     have n_ := aZ_ (blk_below B1.out hb)
     clear B1
     have B1 := n_
     clear n_
     clear hb
     obtain ⟨g2,hg2_⟩ : ∃ g2,g2 = w14.heap.size := ⟨_,rfl⟩
     rw [← hg2_] at B2 ⊢
     clear hg2_
     generalize w14.alloc (.cells #[.int .i64 t1,.int .i64 t2] 25 (0,0)) = w15 at HR HB B1 B2 ⊢
     have hc_B1_0 : w15.cell? ⟨g1,0,none⟩ = some (.int .i64 t1) := (blk_cell B1.out 0).trans rfl
     have hc_B1_1 : w15.cell? ⟨g1,1,none⟩ = some (.int .i64 t2) := (blk_cell B1.out 1).trans rfl
     have hc_B2_0 : w15.cell? ⟨g2,0,none⟩ = some (.int .i64 t1) := (blk_cell B2.out 0).trans rfl
     have hc_B2_1 : w15.cell? ⟨g2,1,none⟩ = some (.int .i64 t2) := (blk_cell B2.out 1).trans rfl
     go_upto_region 23 with (go_at_call 37;refine (spec_DrawRankMod2.calls k A0 c0 l0 lh _ HR.out HC0.out HG.out.dr).mono ?_;rintro e w16 ⟨vq,rfl,hq,hb⟩;have n_ := aZ_ (Kd.Heap.C (Kd.heap_int .u8) hb.block HR.out);clear HR;have HR := n_;clear n_;have n_ := aZ_ (below_step HB.out hb);clear HB;have HB := n_;clear n_;have n_ := aZ_ (blk_below B1.out hb);clear B1;have B1 := n_;clear n_;have n_ := aZ_ (blk_below B2.out hb);clear B2;have B2 := n_;clear n_;obtain ⟨Ah,ch,rfl,hlc_,hr_⟩ := Kd.R_reads hq;have HH := aZ_ hr_;have HHc := aZ_ hlc_;clear hr_ hlc_;clear hq;clear hb ;clear hc_B1_0 hc_B1_1 hc_B2_0 hc_B2_1;have hc_B1_0 : w16.cell? ⟨g1,0,none⟩ = some (.int .i64 t1) := (blk_cell B1.out 0).trans rfl;have hc_B1_1 : w16.cell? ⟨g1,1,none⟩ = some (.int .i64 t2) := (blk_cell B1.out 1).trans rfl;have hc_B2_0 : w16.cell? ⟨g2,0,none⟩ = some (.int .i64 t1) := (blk_cell B2.out 0).trans rfl;have hc_B2_1 : w16.cell? ⟨g2,1,none⟩ = some (.int .i64 t2) := (blk_cell B2.out 1).trans rfl)
     go_upto_region 24 with (go_at_call 38;refine (spec_DrawDifferentRows.calls k A0 c0 l0 li _ HR.out HC0.out HG.out.dd).mono ?_;rintro e w17 ⟨vq,rfl,hq,hb⟩;have n_ := aZ_ (Kd.Heap.C (Kd.heap_int .u8) hb.block HR.out);clear HR;have HR := n_;clear n_;have n_ := aZ_ (below_step HB.out hb);clear HB;have HB := n_;clear n_;have n_ := aZ_ (blk_below B1.out hb);clear B1;have B1 := n_;clear n_;have n_ := aZ_ (blk_below B2.out hb);clear B2;have B2 := n_;clear n_;have n_ := aZ_ (Kd.Heap.C (Kd.heap_int .i64) hb.block HH.out);clear HH;have HH := n_;clear n_;obtain ⟨Ai,ci,rfl,hlc_,hr_⟩ := Kd.R_reads hq;have HI := aZ_ hr_;have HIc := aZ_ hlc_;clear hr_ hlc_;clear hq;clear hb ;clear hc_B1_0 hc_B1_1 hc_B2_0 hc_B2_1;have hc_B1_0 : w17.cell? ⟨g1,0,none⟩ = some (.int .i64 t1) := (blk_cell B1.out 0).trans rfl;have hc_B1_1 : w17.cell? ⟨g1,1,none⟩ = some (.int .i64 t2) := (blk_cell B1.out 1).trans rfl;have hc_B2_0 : w17.cell? ⟨g2,0,none⟩ = some (.int .i64 t1) := (blk_cell B2.out 0).trans rfl;have hc_B2_1 : w17.cell? ⟨g2,1,none⟩ = some (.int .i64 t2) := (blk_cell B2.out 1).trans rfl)
     go_upto_region 25 with (go_at_call 39;refine (spec_DrawIsRectangle.calls k A0 c0 l0 o1 o2 o3 o4 o5 _ HR.out HC0.out HG.out.di).mono ?_;rintro e w18 ⟨rfl,hb⟩;have n_ := aZ_ (Kd.Heap.C (Kd.heap_int .u8) hb.block HR.out);clear HR;have HR := n_;clear n_;have n_ := aZ_ (below_step HB.out hb);clear HB;have HB := n_;clear n_;have n_ := aZ_ (blk_below B1.out hb);clear B1;have B1 := n_;clear n_;have n_ := aZ_ (blk_below B2.out hb);clear B2;have B2 := n_;clear n_;have n_ := aZ_ (Kd.Heap.C (Kd.heap_int .i64) hb.block HH.out);clear HH;have HH := n_;clear n_;have n_ := aZ_ (Kd.Heap.C (Kd.heap_int .i64) hb.block HI.out);clear HI;have HI := n_;clear n_;clear hb ;clear hc_B1_0 hc_B1_1 hc_B2_0 hc_B2_1;have hc_B1_0 : w18.cell? ⟨g1,0,none⟩ = some (.int .i64 t1) := (blk_cell B1.out 0).trans rfl;have hc_B1_1 : w18.cell? ⟨g1,1,none⟩ = some (.int .i64 t2) := (blk_cell B1.out 1).trans rfl;have hc_B2_0 : w18.cell? ⟨g2,0,none⟩ = some (.int .i64 t1) := (blk_cell B2.out 0).trans rfl;have hc_B2_1 : w18.cell? ⟨g2,1,none⟩ = some (.int .i64 t2) := (blk_cell B2.out 1).trans rfl)
     clear hc_B1_0 hc_B1_1 hc_B2_0 hc_B2_1
     have B3 := aZ_ (blk_new w18 (.cells #[.int .i64 o1,.int .i64 o2] 25 (0,0)))
     have hb := below_alloc (Below.refl w18.heap.size w18) (.cells #[.int .i64 o1,.int .i64 o2] 25 (0,0))
     have n_ := aZ_ (Kd.Heap.C (Kd.heap_int .u8) hb.block HR.out)
     clear HR
     have HR := n_
     clear n_
     have n_ := aZ_ (below_step HB.out hb)
     clear HB
     have HB := n_
     clear n_
     have n_ := aZ_ (blk_below B1.out hb)
     clear B1
     have B1 := n_
     clear n_
     have n_ := aZ_ (blk_below B2.out hb)
     clear B2
     have B2 := n_
     clear n_
     have n_ := aZ_ (Kd.Heap.C (Kd.heap_int .i64) hb.block HH.out)
     clear HH
     have HH := n_
     clear n_
     have n_ := aZ_ (Kd.Heap.C (Kd.heap_int .i64) hb.block HI.out)
     clear HI
     have HI := n_
     clear n_
     clear hb
     obtain ⟨g3,hg3_⟩ : ∃ g3,g3 = w18.heap.size := ⟨_,rfl⟩
     rw [← hg3_] at B3 ⊢
     clear hg3_
     generalize w18.alloc (.cells #[.int .i64 o1,.int .i64 o2] 25 (0,0)) = w19 at HR HB B1 B2 HH HI B3 ⊢
     have hc_B1_0 : w19.cell? ⟨g1,0,none⟩ = some (.int .i64 t1) := (blk_cell B1.out 0).trans rfl
     have hc_B1_1 : w19.cell? ⟨g1,1,none⟩ = some (.int .i64 t2) := (blk_cell B1.out 1).trans rfl
     have hc_B2_0 : w19.cell? ⟨g2,0,none⟩ = some (.int .i64 t1) := (blk_cell B2.out 0).trans rfl
     have hc_B2_1 : w19.cell? ⟨g2,1,none⟩ = some (.int .i64 t2) := (blk_cell B2.out 1).trans rfl
     have hc_B3_0 : w19.cell? ⟨g3,0,none⟩ = some (.int .i64 o1) := (blk_cell B3.out 0).trans rfl
     have hc_B3_1 : w19.cell? ⟨g3,1,none⟩ = some (.int .i64 o2) := (blk_cell B3.out 1).trans rfl
     go_upto_region 26 with (go_at_call 40;refine (spec_DrawIsFooling.calls k A0 c0 l0 f1 f2 f3 f4 f5 _ HR.out HC0.out HG.out.dfo).mono ?_;rintro e w20 ⟨vq,rfl,hq,hb⟩;have n_ := aZ_ (Kd.Heap.C (Kd.heap_int .u8) hb.block HR.out);clear HR;have HR := n_;clear n_;have n_ := aZ_ (below_step HB.out hb);clear HB;have HB := n_;clear n_;have n_ := aZ_ (blk_below B1.out hb);clear B1;have B1 := n_;clear n_;have n_ := aZ_ (blk_below B2.out hb);clear B2;have B2 := n_;clear n_;have n_ := aZ_ (Kd.Heap.C (Kd.heap_int .i64) hb.block HH.out);clear HH;have HH := n_;clear n_;have n_ := aZ_ (Kd.Heap.C (Kd.heap_int .i64) hb.block HI.out);clear HI;have HI := n_;clear n_;have n_ := aZ_ (blk_below B3.out hb);clear B3;have B3 := n_;clear n_;obtain ⟨Af,cf,rfl,hlc_,hr_⟩ := hq;replace hr_ := Kd.F_now hr_;have HF := aZ_ hr_;have HFc := aZ_ hlc_;clear hr_ hlc_;clear hb ;clear hc_B1_0 hc_B1_1 hc_B2_0 hc_B2_1 hc_B3_0 hc_B3_1;have hc_B1_0 : w20.cell? ⟨g1,0,none⟩ = some (.int .i64 t1) := (blk_cell B1.out 0).trans rfl;have hc_B1_1 : w20.cell? ⟨g1,1,none⟩ = some (.int .i64 t2) := (blk_cell B1.out 1).trans rfl;have hc_B2_0 : w20.cell? ⟨g2,0,none⟩ = some (.int .i64 t1) := (blk_cell B2.out 0).trans rfl;have hc_B2_1 : w20.cell? ⟨g2,1,none⟩ = some (.int .i64 t2) := (blk_cell B2.out 1).trans rfl;have hc_B3_0 : w20.cell? ⟨g3,0,none⟩ = some (.int .i64 o1) := (blk_cell B3.out 0).trans rfl;have hc_B3_1 : w20.cell? ⟨g3,1,none⟩ = some (.int .i64 o2) := (blk_cell B3.out 1).trans rfl)
     clear hc_B1_0 hc_B1_1 hc_B2_0 hc_B2_1 hc_B3_0 hc_B3_1
     have B4 := aZ_ (blk_new w20 (.cells #[.int .i64 f1,.int .i64 f2] 25 (0,0)))
     have hb := below_alloc (Below.refl w20.heap.size w20) (.cells #[.int .i64 f1,.int .i64 f2] 25 (0,0))
     have n_ := aZ_ (Kd.Heap.C (Kd.heap_int .u8) hb.block HR.out)
     clear HR
     have HR := n_
     clear n_
     have n_ := aZ_ (below_step HB.out hb)
     clear HB
     have HB := n_
     clear n_
     have n_ := aZ_ (blk_below B1.out hb)
     clear B1
     have B1 := n_
     clear n_
     have n_ := aZ_ (blk_below B2.out hb)
     clear B2
     have B2 := n_
     clear n_
     have n_ := aZ_ (Kd.Heap.C (Kd.heap_int .i64) hb.block HH.out)
     clear HH
     have HH := n_
     clear n_
     have n_ := aZ_ (Kd.Heap.C (Kd.heap_int .i64) hb.block HI.out)
     clear HI
     have HI := n_
     clear n_
     have n_ := aZ_ (blk_below B3.out hb)
     clear B3
     have B3 := n_
     clear n_
     have n_ := aZ_ (Kd.Heap.C (Kd.heap_int .i64) hb.block HF.out)
     clear HF
     have HF := n_
     clear n_
     clear hb
     obtain ⟨g4,hg4_⟩ : ∃ g4,g4 = w20.heap.size := ⟨_,rfl⟩
     rw [← hg4_] at B4 ⊢
     clear hg4_
     generalize w20.alloc (.cells #[.int .i64 f1,.int .i64 f2] 25 (0,0)) = w21 at HR HB B1 B2 HH HI B3 HF B4 ⊢
     have hc_B1_0 : w21.cell? ⟨g1,0,none⟩ = some (.int .i64 t1) := (blk_cell B1.out 0).trans rfl
     have hc_B1_1 : w21.cell? ⟨g1,1,none⟩ = some (.int .i64 t2) := (blk_cell B1.out 1).trans rfl
     have hc_B2_0 : w21.cell? ⟨g2,0,none⟩ = some (.int .i64 t1) := (blk_cell B2.out 0).trans rfl
     have hc_B2_1 : w21.cell? ⟨g2,1,none⟩ = some (.int .i64 t2) := (blk_cell B2.out 1).trans rfl
     have hc_B3_0 : w21.cell? ⟨g3,0,none⟩ = some (.int .i64 o1) := (blk_cell B3.out 0).trans rfl
     have hc_B3_1 : w21.cell? ⟨g3,1,none⟩ = some (.int .i64 o2) := (blk_cell B3.out 1).trans rfl
     have hc_B4_0 : w21.cell? ⟨g4,0,none⟩ = some (.int .i64 f1) := (blk_cell B4.out 0).trans rfl
     have hc_B4_1 : w21.cell? ⟨g4,1,none⟩ = some (.int .i64 f2) := (blk_cell B4.out 1).trans rfl
     have C0 := aZ_ hc_B1_0
     have C1 := aZ_ hc_B1_1
     have C2 := aZ_ hc_B2_0
     have C3 := aZ_ hc_B2_1
     have C4 := aZ_ hc_B3_0
     have C5 := aZ_ hc_B3_1
     have C6 := aZ_ hc_B4_0
     have C7 := aZ_ hc_B4_1
     clear HR B1 B2 B3 B4 hc_B1_0 hc_B1_1 hc_B2_0 hc_B2_1 hc_B3_0 hc_B3_1 hc_B4_0 hc_B4_1
     have het1 : (t1 == t1) = true := beq_self_eq_true t1
     have het2 : (t2 == t2) = true := beq_self_eq_true t2
     have het3 : (t3 == t3) = true := beq_self_eq_true t3
     have hex1 : (x1 == x1) = true := beq_self_eq_true x1
     have hex2 : (x2 == x2) = true := beq_self_eq_true x2
     have hex3 : (x3 == x3) = true := beq_self_eq_true x3
     have hex4 : (x4 == x4) = true := beq_self_eq_true x4
     have hb := below_drew (Below.refl w21.heap.size w21)
     have n_ : Aside0 (w21.drew.cell? ⟨g1,0,none⟩ = some (.int .i64 t1)) := ⟨pw_cell_below hb C0.out⟩
     clear C0
     have C0 := n_
     clear n_
     have n_ : Aside0 (w21.drew.cell? ⟨g1,1,none⟩ = some (.int .i64 t2)) := ⟨pw_cell_below hb C1.out⟩
     clear C1
     have C1 := n_
     clear n_
     have n_ : Aside0 (w21.drew.cell? ⟨g2,0,none⟩ = some (.int .i64 t1)) := ⟨pw_cell_below hb C2.out⟩
     clear C2
     have C2 := n_
     clear n_
     have n_ : Aside0 (w21.drew.cell? ⟨g2,1,none⟩ = some (.int .i64 t2)) := ⟨pw_cell_below hb C3.out⟩
     clear C3
     have C3 := n_
     clear n_
     have n_ : Aside0 (w21.drew.cell? ⟨g3,0,none⟩ = some (.int .i64 o1)) := ⟨pw_cell_below hb C4.out⟩
     clear C4
     have C4 := n_
     clear n_
     have n_ : Aside0 (w21.drew.cell? ⟨g3,1,none⟩ = some (.int .i64 o2)) := ⟨pw_cell_below hb C5.out⟩
     clear C5
     have C5 := n_
     clear n_
     have n_ : Aside0 (w21.drew.cell? ⟨g4,0,none⟩ = some (.int .i64 f1)) := ⟨pw_cell_below hb C6.out⟩
     clear C6
     have C6 := n_
     clear n_
     have n_ : Aside0 (w21.drew.cell? ⟨g4,1,none⟩ = some (.int .i64 f2)) := ⟨pw_cell_below hb C7.out⟩
     clear C7
     have C7 := n_
     clear n_
     have n_ := aZ_ (below_step HB.out hb)
     clear HB
     have HB := n_
     clear n_
     have n_ := aZ_ (Kd.Heap.C (Kd.heap_int .i64) hb.block HH.out)
     clear HH
     have HH := n_
     clear n_
     have n_ := aZ_ (Kd.Heap.C (Kd.heap_int .i64) hb.block HI.out)
     clear HI
     have HI := n_
     clear n_
     have n_ := aZ_ (Kd.Heap.C (Kd.heap_int .i64) hb.block HF.out)
     clear HF
     have HF := n_
     clear n_
     clear hb
     refine start_ (n := 49) (S := (fun w_ => w_.cell? ⟨g1,0,none⟩ = some (.int .i64 t1) ∧ w_.cell? ⟨g1,1,none⟩ = some (.int .i64 t2) ∧ w_.cell? ⟨g2,0,none⟩ = some (.int .i64 t1) ∧ w_.cell? ⟨g2,1,none⟩ = some (.int .i64 t2) ∧ w_.cell? ⟨g3,0,none⟩ = some (.int .i64 o1) ∧ w_.cell? ⟨g3,1,none⟩ = some (.int .i64 o2) ∧ w_.cell? ⟨g4,0,none⟩ = some (.int .i64 f1) ∧ w_.cell? ⟨g4,1,none⟩ = some (.int .i64 f2))) (ds := []) #[false,false,false,false,false,false,false,false,false,false,false,false,false,false,false,false,false,false,false,false,false,false,false,false,false,false,false,false,false,false,false,false,false,false,false,false,false,false,false,false,false,false,false,false,false,false,false,false,false] T15_ rfl rfl ⟨C0.out,C1.out,C2.out,C3.out,C4.out,C5.out,C6.out,C7.out⟩ (fun hHeld => ?_)
     generalize w21.drew = W0_ at C0 C1 C2 C3 C4 C5 C6 C7 HB HH HI HF hHeld ⊢
     refine tZ8_ 0 (some 180) #[true,false,false,false,false,false,false,false,false,false,false,false,false,false,false,false,false,false,false,false,false,false,false,false,false,false,false,false,false,false,false,false,false,false,false,false,false,false,false,false,false,false,false,false,false,false,false,false,false] hHeld ?_
     refine tZ8_ 1 (some 181) #[true,true,false,false,false,false,false,false,false,false,false,false,false,false,false,false,false,false,false,false,false,false,false,false,false,false,false,false,false,false,false,false,false,false,false,false,false,false,false,false,false,false,false,false,false,false,false,false,false] hHeld ?_
     refine pZ_ 2 (some 182) #[true,true,true,false,false,false,false,false,false,false,false,false,false,false,false,false,false,false,false,false,false,false,false,false,false,false,false,false,false,false,false,false,false,false,false,false,false,false,false,false,false,false,false,false,false,false,false,false,false] ?_
     refine pZ_ 3 (some 183) #[true,true,true,true,false,false,false,false,false,false,false,false,false,false,false,false,false,false,false,false,false,false,false,false,false,false,false,false,false,false,false,false,false,false,false,false,false,false,false,false,false,false,false,false,false,false,false,false,false] ?_
     refine pZ_ 4 (some 184) #[true,true,true,true,true,false,false,false,false,false,false,false,false,false,false,false,false,false,false,false,false,false,false,false,false,false,false,false,false,false,false,false,false,false,false,false,false,false,false,false,false,false,false,false,false,false,false,false,false] ?_
     refine pZ_ 5 (some 185) #[true,true,true,true,true,true,false,false,false,false,false,false,false,false,false,false,false,false,false,false,false,false,false,false,false,false,false,false,false,false,false,false,false,false,false,false,false,false,false,false,false,false,false,false,false,false,false,false,false] ?_
     refine pZ_ 6 (some 186) #[true,true,true,true,true,true,true,false,false,false,false,false,false,false,false,false,false,false,false,false,false,false,false,false,false,false,false,false,false,false,false,false,false,false,false,false,false,false,false,false,false,false,false,false,false,false,false,false,false] ?_
     refine pZ_ 7 (some 187) #[true,true,true,true,true,true,true,true,false,false,false,false,false,false,false,false,false,false,false,false,false,false,false,false,false,false,false,false,false,false,false,false,false,false,false,false,false,false,false,false,false,false,false,false,false,false,false,false,false] ?_
     refine pZ_ 8 (some 188) #[true,true,true,true,true,true,true,true,true,false,false,false,false,false,false,false,false,false,false,false,false,false,false,false,false,false,false,false,false,false,false,false,false,false,false,false,false,false,false,false,false,false,false,false,false,false,false,false,false] ?_
     refine pZ_ 9 (some 189) #[true,true,true,true,true,true,true,true,true,true,false,false,false,false,false,false,false,false,false,false,false,false,false,false,false,false,false,false,false,false,false,false,false,false,false,false,false,false,false,false,false,false,false,false,false,false,false,false,false] ?_
     refine pZ_ 11 (some 191) #[true,true,true,true,true,true,true,true,true,true,false,true,false,false,false,false,false,false,false,false,false,false,false,false,false,false,false,false,false,false,false,false,false,false,false,false,false,false,false,false,false,false,false,false,false,false,false,false,false] ?_
     refine one_ (i := 10) (N := some 190) #[true,true,true,true,true,true,true,true,true,true,true,true,false,false,false,false,false,false,false,false,false,false,false,false,false,false,false,false,false,false,false,false,false,false,false,false,false,false,false,false,false,false,false,false,false,false,false,false,false] rfl rfl T15_ T48_ (fun K hK => ?_)
     refine gZ_ Try.func29 #[.slice Ah lh.length ch] ?_
     with_reducible refine (impl_RankMod2.calls Ah ch lh x1 _ HH.out HHc.out HG.out.rk).mono ?_
     rintro e W1_ ⟨rfl,hb⟩
     refine ⟨_,rfl,?_⟩
     have n_ : Aside0 (W1_.cell? ⟨g1,0,none⟩ = some (.int .i64 t1)) := ⟨pw_cell_below hb C0.out⟩
     clear C0
     have C0 := n_
     clear n_
     have n_ : Aside0 (W1_.cell? ⟨g1,1,none⟩ = some (.int .i64 t2)) := ⟨pw_cell_below hb C1.out⟩
     clear C1
     have C1 := n_
     clear n_
     have n_ : Aside0 (W1_.cell? ⟨g2,0,none⟩ = some (.int .i64 t1)) := ⟨pw_cell_below hb C2.out⟩
     clear C2
     have C2 := n_
     clear n_
     have n_ : Aside0 (W1_.cell? ⟨g2,1,none⟩ = some (.int .i64 t2)) := ⟨pw_cell_below hb C3.out⟩
     clear C3
     have C3 := n_
     clear n_
     have n_ : Aside0 (W1_.cell? ⟨g3,0,none⟩ = some (.int .i64 o1)) := ⟨pw_cell_below hb C4.out⟩
     clear C4
     have C4 := n_
     clear n_
     have n_ : Aside0 (W1_.cell? ⟨g3,1,none⟩ = some (.int .i64 o2)) := ⟨pw_cell_below hb C5.out⟩
     clear C5
     have C5 := n_
     clear n_
     have n_ : Aside0 (W1_.cell? ⟨g4,0,none⟩ = some (.int .i64 f1)) := ⟨pw_cell_below hb C6.out⟩
     clear C6
     have C6 := n_
     clear n_
     have n_ : Aside0 (W1_.cell? ⟨g4,1,none⟩ = some (.int .i64 f2)) := ⟨pw_cell_below hb C7.out⟩
     clear C7
     have C7 := n_
     clear n_
     have n_ := aZ_ (below_step HB.out hb)
     clear HB
     have HB := n_
     clear n_
     have n_ := aZ_ (Kd.Heap.C (Kd.heap_int .i64) hb.block HH.out)
     clear HH
     have HH := n_
     clear n_
     have n_ := aZ_ (Kd.Heap.C (Kd.heap_int .i64) hb.block HI.out)
     clear HI
     have HI := n_
     clear n_
     have n_ := aZ_ (Kd.Heap.C (Kd.heap_int .i64) hb.block HF.out)
     clear HF
     have HF := n_
     clear n_
     clear hb
     refine hK.out _ _ ⟨C0.out,C1.out,C2.out,C3.out,C4.out,C5.out,C6.out,C7.out⟩ (fun hHeld => ?_)
     clear hK K
     refine norm_ (a' := ?_) ?_ ?_
     rotate_left
     ·show Act.put _ (some 190) _ = _
      simp only [Act.put,List.setIfInBounds_toArray,List.set_cons_zero,List.set_cons_succ,i64_w,i32_w]
      rfl
     refine one_ (i := 12) (N := some 192) #[true,true,true,true,true,true,true,true,true,true,true,true,true,false,false,false,false,false,false,false,false,false,false,false,false,false,false,false,false,false,false,false,false,false,false,false,false,false,false,false,false,false,false,false,false,false,false,false,false] rfl rfl T15_ T48_ (fun K hK => ?_)
     refine gZ_ Try.func41 #[.slice Ah lh.length ch] ?_
     with_reducible refine (spec_RankMod2.calls k Ah ch lh x1 _ HH.out HHc.out HG.out.rk2).mono ?_
     rintro e W2_ ⟨rfl,hb⟩
     refine ⟨_,rfl,?_⟩
     have n_ : Aside0 (W2_.cell? ⟨g1,0,none⟩ = some (.int .i64 t1)) := ⟨pw_cell_below hb C0.out⟩
     clear C0
     have C0 := n_
     clear n_
     have n_ : Aside0 (W2_.cell? ⟨g1,1,none⟩ = some (.int .i64 t2)) := ⟨pw_cell_below hb C1.out⟩
     clear C1
     have C1 := n_
     clear n_
     have n_ : Aside0 (W2_.cell? ⟨g2,0,none⟩ = some (.int .i64 t1)) := ⟨pw_cell_below hb C2.out⟩
     clear C2
     have C2 := n_
     clear n_
     have n_ : Aside0 (W2_.cell? ⟨g2,1,none⟩ = some (.int .i64 t2)) := ⟨pw_cell_below hb C3.out⟩
     clear C3
     have C3 := n_
     clear n_
     have n_ : Aside0 (W2_.cell? ⟨g3,0,none⟩ = some (.int .i64 o1)) := ⟨pw_cell_below hb C4.out⟩
     clear C4
     have C4 := n_
     clear n_
     have n_ : Aside0 (W2_.cell? ⟨g3,1,none⟩ = some (.int .i64 o2)) := ⟨pw_cell_below hb C5.out⟩
     clear C5
     have C5 := n_
     clear n_
     have n_ : Aside0 (W2_.cell? ⟨g4,0,none⟩ = some (.int .i64 f1)) := ⟨pw_cell_below hb C6.out⟩
     clear C6
     have C6 := n_
     clear n_
     have n_ : Aside0 (W2_.cell? ⟨g4,1,none⟩ = some (.int .i64 f2)) := ⟨pw_cell_below hb C7.out⟩
     clear C7
     have C7 := n_
     clear n_
     have n_ := aZ_ (below_step HB.out hb)
     clear HB
     have HB := n_
     clear n_
     have n_ := aZ_ (Kd.Heap.C (Kd.heap_int .i64) hb.block HH.out)
     clear HH
     have HH := n_
     clear n_
     have n_ := aZ_ (Kd.Heap.C (Kd.heap_int .i64) hb.block HI.out)
     clear HI
     have HI := n_
     clear n_
     have n_ := aZ_ (Kd.Heap.C (Kd.heap_int .i64) hb.block HF.out)
     clear HF
     have HF := n_
     clear n_
     clear hb
     refine hK.out _ _ ⟨C0.out,C1.out,C2.out,C3.out,C4.out,C5.out,C6.out,C7.out⟩ (fun hHeld => ?_)
     clear hK K
     refine norm_ (a' := ?_) ?_ ?_
     rotate_left
     ·show Act.put _ (some 192) _ = _
      simp only [Act.put,List.setIfInBounds_toArray,List.set_cons_zero,List.set_cons_succ,i64_w,i32_w]
      rfl
     refine pZ_ 13 (some 193) #[true,true,true,true,true,true,true,true,true,true,true,true,true,true,false,false,false,false,false,false,false,false,false,false,false,false,false,false,false,false,false,false,false,false,false,false,false,false,false,false,false,false,false,false,false,false,false,false,false] ?_
     refine pZ_ 14 (some 194) #[true,true,true,true,true,true,true,true,true,true,true,true,true,true,true,false,false,false,false,false,false,false,false,false,false,false,false,false,false,false,false,false,false,false,false,false,false,false,false,false,false,false,false,false,false,false,false,false,false] ?_
     refine pZ_ 15 (some 195) #[true,true,true,true,true,true,true,true,true,true,true,true,true,true,true,true,false,false,false,false,false,false,false,false,false,false,false,false,false,false,false,false,false,false,false,false,false,false,false,false,false,false,false,false,false,false,false,false,false] ?_
     refine pZ_ 16 (some 196) #[true,true,true,true,true,true,true,true,true,true,true,true,true,true,true,true,true,false,false,false,false,false,false,false,false,false,false,false,false,false,false,false,false,false,false,false,false,false,false,false,false,false,false,false,false,false,false,false,false] ?_
     refine pZ_ 18 (some 198) #[true,true,true,true,true,true,true,true,true,true,true,true,true,true,true,true,true,false,true,false,false,false,false,false,false,false,false,false,false,false,false,false,false,false,false,false,false,false,false,false,false,false,false,false,false,false,false,false,false] ?_
     refine one_ (i := 17) (N := some 197) #[true,true,true,true,true,true,true,true,true,true,true,true,true,true,true,true,true,true,true,false,false,false,false,false,false,false,false,false,false,false,false,false,false,false,false,false,false,false,false,false,false,false,false,false,false,false,false,false,false] rfl rfl T15_ T48_ (fun K hK => ?_)
     refine gZ_ Try.func30 #[.slice Ai li.length ci] ?_
     with_reducible refine (impl_DifferentRows.calls Ai ci li x2 _ HI.out HIc.out HG.out.df).mono ?_
     rintro e W3_ ⟨rfl,hb⟩
     refine ⟨_,rfl,?_⟩
     have n_ : Aside0 (W3_.cell? ⟨g1,0,none⟩ = some (.int .i64 t1)) := ⟨pw_cell_below hb C0.out⟩
     clear C0
     have C0 := n_
     clear n_
     have n_ : Aside0 (W3_.cell? ⟨g1,1,none⟩ = some (.int .i64 t2)) := ⟨pw_cell_below hb C1.out⟩
     clear C1
     have C1 := n_
     clear n_
     have n_ : Aside0 (W3_.cell? ⟨g2,0,none⟩ = some (.int .i64 t1)) := ⟨pw_cell_below hb C2.out⟩
     clear C2
     have C2 := n_
     clear n_
     have n_ : Aside0 (W3_.cell? ⟨g2,1,none⟩ = some (.int .i64 t2)) := ⟨pw_cell_below hb C3.out⟩
     clear C3
     have C3 := n_
     clear n_
     have n_ : Aside0 (W3_.cell? ⟨g3,0,none⟩ = some (.int .i64 o1)) := ⟨pw_cell_below hb C4.out⟩
     clear C4
     have C4 := n_
     clear n_
     have n_ : Aside0 (W3_.cell? ⟨g3,1,none⟩ = some (.int .i64 o2)) := ⟨pw_cell_below hb C5.out⟩
     clear C5
     have C5 := n_
     clear n_
     have n_ : Aside0 (W3_.cell? ⟨g4,0,none⟩ = some (.int .i64 f1)) := ⟨pw_cell_below hb C6.out⟩
     clear C6
     have C6 := n_
     clear n_
     have n_ : Aside0 (W3_.cell? ⟨g4,1,none⟩ = some (.int .i64 f2)) := ⟨pw_cell_below hb C7.out⟩
     clear C7
     have C7 := n_
     clear n_
     have n_ := aZ_ (below_step HB.out hb)
     clear HB
     have HB := n_
     clear n_
     have n_ := aZ_ (Kd.Heap.C (Kd.heap_int .i64) hb.block HH.out)
     clear HH
     have HH := n_
     clear n_
     have n_ := aZ_ (Kd.Heap.C (Kd.heap_int .i64) hb.block HI.out)
     clear HI
     have HI := n_
     clear n_
     have n_ := aZ_ (Kd.Heap.C (Kd.heap_int .i64) hb.block HF.out)
     clear HF
     have HF := n_
     clear n_
     clear hb
     refine hK.out _ _ ⟨C0.out,C1.out,C2.out,C3.out,C4.out,C5.out,C6.out,C7.out⟩ (fun hHeld => ?_)
     clear hK K
     refine norm_ (a' := ?_) ?_ ?_
     rotate_left
     ·show Act.put _ (some 197) _ = _
      simp only [Act.put,List.setIfInBounds_toArray,List.set_cons_zero,List.set_cons_succ,i64_w,i32_w]
      rfl
     refine one_ (i := 19) (N := some 199) #[true,true,true,true,true,true,true,true,true,true,true,true,true,true,true,true,true,true,true,true,false,false,false,false,false,false,false,false,false,false,false,false,false,false,false,false,false,false,false,false,false,false,false,false,false,false,false,false,false] rfl rfl T15_ T48_ (fun K hK => ?_)
     refine gZ_ Try.func42 #[.slice Ai li.length ci] ?_
     with_reducible refine (spec_DifferentRows.calls k Ai ci li x2 _ HI.out HIc.out HG.out.df2).mono ?_
     rintro e W4_ ⟨rfl,hd⟩
     have hb := hd.below
     clear hd
     refine ⟨_,rfl,?_⟩
     have n_ : Aside0 (W4_.cell? ⟨g1,0,none⟩ = some (.int .i64 t1)) := ⟨pw_cell_below hb C0.out⟩
     clear C0
     have C0 := n_
     clear n_
     have n_ : Aside0 (W4_.cell? ⟨g1,1,none⟩ = some (.int .i64 t2)) := ⟨pw_cell_below hb C1.out⟩
     clear C1
     have C1 := n_
     clear n_
     have n_ : Aside0 (W4_.cell? ⟨g2,0,none⟩ = some (.int .i64 t1)) := ⟨pw_cell_below hb C2.out⟩
     clear C2
     have C2 := n_
     clear n_
     have n_ : Aside0 (W4_.cell? ⟨g2,1,none⟩ = some (.int .i64 t2)) := ⟨pw_cell_below hb C3.out⟩
     clear C3
     have C3 := n_
     clear n_
     have n_ : Aside0 (W4_.cell? ⟨g3,0,none⟩ = some (.int .i64 o1)) := ⟨pw_cell_below hb C4.out⟩
     clear C4
     have C4 := n_
     clear n_
     have n_ : Aside0 (W4_.cell? ⟨g3,1,none⟩ = some (.int .i64 o2)) := ⟨pw_cell_below hb C5.out⟩
     clear C5
     have C5 := n_
     clear n_
     have n_ : Aside0 (W4_.cell? ⟨g4,0,none⟩ = some (.int .i64 f1)) := ⟨pw_cell_below hb C6.out⟩
     clear C6
     have C6 := n_
     clear n_
     have n_ : Aside0 (W4_.cell? ⟨g4,1,none⟩ = some (.int .i64 f2)) := ⟨pw_cell_below hb C7.out⟩
     clear C7
     have C7 := n_
     clear n_
     have n_ := aZ_ (below_step HB.out hb)
     clear HB
     have HB := n_
     clear n_
     have n_ := aZ_ (Kd.Heap.C (Kd.heap_int .i64) hb.block HH.out)
     clear HH
     have HH := n_
     clear n_
     have n_ := aZ_ (Kd.Heap.C (Kd.heap_int .i64) hb.block HI.out)
     clear HI
     have HI := n_
     clear n_
     have n_ := aZ_ (Kd.Heap.C (Kd.heap_int .i64) hb.block HF.out)
     clear HF
     have HF := n_
     clear n_
     clear hb
     refine hK.out _ _ ⟨C0.out,C1.out,C2.out,C3.out,C4.out,C5.out,C6.out,C7.out⟩ (fun hHeld => ?_)
     clear hK K
     refine norm_ (a' := ?_) ?_ ?_
     rotate_left
     ·show Act.put _ (some 199) _ = _
      simp only [Act.put,List.setIfInBounds_toArray,List.set_cons_zero,List.set_cons_succ,i64_w,i32_w]
      rfl
     refine pZ_ 20 (some 200) #[true,true,true,true,true,true,true,true,true,true,true,true,true,true,true,true,true,true,true,true,true,false,false,false,false,false,false,false,false,false,false,false,false,false,false,false,false,false,false,false,false,false,false,false,false,false,false,false,false] ?_
     refine pZ_ 21 (some 201) #[true,true,true,true,true,true,true,true,true,true,true,true,true,true,true,true,true,true,true,true,true,true,false,false,false,false,false,false,false,false,false,false,false,false,false,false,false,false,false,false,false,false,false,false,false,false,false,false,false] ?_
     refine pZ_ 22 (some 202) #[true,true,true,true,true,true,true,true,true,true,true,true,true,true,true,true,true,true,true,true,true,true,true,false,false,false,false,false,false,false,false,false,false,false,false,false,false,false,false,false,false,false,false,false,false,false,false,false,false] ?_
     refine tZ8_ 23 (some 203) #[true,true,true,true,true,true,true,true,true,true,true,true,true,true,true,true,true,true,true,true,true,true,true,true,false,false,false,false,false,false,false,false,false,false,false,false,false,false,false,false,false,false,false,false,false,false,false,false,false] hHeld ?_
     refine pZ_ 24 (some 204) #[true,true,true,true,true,true,true,true,true,true,true,true,true,true,true,true,true,true,true,true,true,true,true,true,true,false,false,false,false,false,false,false,false,false,false,false,false,false,false,false,false,false,false,false,false,false,false,false,false] ?_
     refine pZ_ 25 (some 205) #[true,true,true,true,true,true,true,true,true,true,true,true,true,true,true,true,true,true,true,true,true,true,true,true,true,true,false,false,false,false,false,false,false,false,false,false,false,false,false,false,false,false,false,false,false,false,false,false,false] ?_
     refine pZ_ 26 (some 206) #[true,true,true,true,true,true,true,true,true,true,true,true,true,true,true,true,true,true,true,true,true,true,true,true,true,true,true,false,false,false,false,false,false,false,false,false,false,false,false,false,false,false,false,false,false,false,false,false,false] ?_
     refine tZ8_ 28 (some 208) #[true,true,true,true,true,true,true,true,true,true,true,true,true,true,true,true,true,true,true,true,true,true,true,true,true,true,true,false,true,false,false,false,false,false,false,false,false,false,false,false,false,false,false,false,false,false,false,false,false] hHeld ?_
     refine pZ_ 29 (some 209) #[true,true,true,true,true,true,true,true,true,true,true,true,true,true,true,true,true,true,true,true,true,true,true,true,true,true,true,false,true,true,false,false,false,false,false,false,false,false,false,false,false,false,false,false,false,false,false,false,false] ?_
     refine pZ_ 30 (some 210) #[true,true,true,true,true,true,true,true,true,true,true,true,true,true,true,true,true,true,true,true,true,true,true,true,true,true,true,false,true,true,true,false,false,false,false,false,false,false,false,false,false,false,false,false,false,false,false,false,false] ?_
     refine pZ_ 31 (some 211) #[true,true,true,true,true,true,true,true,true,true,true,true,true,true,true,true,true,true,true,true,true,true,true,true,true,true,true,false,true,true,true,true,false,false,false,false,false,false,false,false,false,false,false,false,false,false,false,false,false] ?_
     refine one_ (i := 27) (N := some 207) #[true,true,true,true,true,true,true,true,true,true,true,true,true,true,true,true,true,true,true,true,true,true,true,true,true,true,true,true,true,true,true,true,false,false,false,false,false,false,false,false,false,false,false,false,false,false,false,false,false] rfl rfl T15_ T48_ (fun K hK => ?_)
     refine gZ_ Try.func43 #[.agg #[.int .i64 o1,.int .i64 o2],.int .i64 o3,.int .i64 o4,.int .i64 o5] ?_
     with_reducible refine (impl_IsRectangle.calls o1 o2 o3 o4 o5 x3 _ HG.out.ir).mono ?_
     rintro e W5_ ⟨rfl,hb⟩
     refine ⟨_,rfl,?_⟩
     have n_ : Aside0 (W5_.cell? ⟨g1,0,none⟩ = some (.int .i64 t1)) := ⟨pw_cell_below hb C0.out⟩
     clear C0
     have C0 := n_
     clear n_
     have n_ : Aside0 (W5_.cell? ⟨g1,1,none⟩ = some (.int .i64 t2)) := ⟨pw_cell_below hb C1.out⟩
     clear C1
     have C1 := n_
     clear n_
     have n_ : Aside0 (W5_.cell? ⟨g2,0,none⟩ = some (.int .i64 t1)) := ⟨pw_cell_below hb C2.out⟩
     clear C2
     have C2 := n_
     clear n_
     have n_ : Aside0 (W5_.cell? ⟨g2,1,none⟩ = some (.int .i64 t2)) := ⟨pw_cell_below hb C3.out⟩
     clear C3
     have C3 := n_
     clear n_
     have n_ : Aside0 (W5_.cell? ⟨g3,0,none⟩ = some (.int .i64 o1)) := ⟨pw_cell_below hb C4.out⟩
     clear C4
     have C4 := n_
     clear n_
     have n_ : Aside0 (W5_.cell? ⟨g3,1,none⟩ = some (.int .i64 o2)) := ⟨pw_cell_below hb C5.out⟩
     clear C5
     have C5 := n_
     clear n_
     have n_ : Aside0 (W5_.cell? ⟨g4,0,none⟩ = some (.int .i64 f1)) := ⟨pw_cell_below hb C6.out⟩
     clear C6
     have C6 := n_
     clear n_
     have n_ : Aside0 (W5_.cell? ⟨g4,1,none⟩ = some (.int .i64 f2)) := ⟨pw_cell_below hb C7.out⟩
     clear C7
     have C7 := n_
     clear n_
     have n_ := aZ_ (below_step HB.out hb)
     clear HB
     have HB := n_
     clear n_
     have n_ := aZ_ (Kd.Heap.C (Kd.heap_int .i64) hb.block HH.out)
     clear HH
     have HH := n_
     clear n_
     have n_ := aZ_ (Kd.Heap.C (Kd.heap_int .i64) hb.block HI.out)
     clear HI
     have HI := n_
     clear n_
     have n_ := aZ_ (Kd.Heap.C (Kd.heap_int .i64) hb.block HF.out)
     clear HF
     have HF := n_
     clear n_
     clear hb
     refine hK.out _ _ ⟨C0.out,C1.out,C2.out,C3.out,C4.out,C5.out,C6.out,C7.out⟩ (fun hHeld => ?_)
     clear hK K
     refine norm_ (a' := ?_) ?_ ?_
     rotate_left
     ·show Act.put _ (some 207) _ = _
      simp only [Act.put,List.setIfInBounds_toArray,List.set_cons_zero,List.set_cons_succ,i64_w,i32_w]
      rfl
     refine one_ (i := 32) (N := some 212) #[true,true,true,true,true,true,true,true,true,true,true,true,true,true,true,true,true,true,true,true,true,true,true,true,true,true,true,true,true,true,true,true,true,false,false,false,false,false,false,false,false,false,false,false,false,false,false,false,false] rfl rfl T15_ T48_ (fun K hK => ?_)
     refine gZ_ Try.func44 #[.agg #[.int .i64 o1,.int .i64 o2],.int .i64 o3,.int .i64 o4,.int .i64 o5] ?_
     with_reducible refine (spec_IsRectangle.calls k o1 o2 o3 o4 o5 x3 _ HG.out.ir2).mono ?_
     rintro e W6_ ⟨rfl,hb⟩
     refine ⟨_,rfl,?_⟩
     have n_ : Aside0 (W6_.cell? ⟨g1,0,none⟩ = some (.int .i64 t1)) := ⟨pw_cell_below hb C0.out⟩
     clear C0
     have C0 := n_
     clear n_
     have n_ : Aside0 (W6_.cell? ⟨g1,1,none⟩ = some (.int .i64 t2)) := ⟨pw_cell_below hb C1.out⟩
     clear C1
     have C1 := n_
     clear n_
     have n_ : Aside0 (W6_.cell? ⟨g2,0,none⟩ = some (.int .i64 t1)) := ⟨pw_cell_below hb C2.out⟩
     clear C2
     have C2 := n_
     clear n_
     have n_ : Aside0 (W6_.cell? ⟨g2,1,none⟩ = some (.int .i64 t2)) := ⟨pw_cell_below hb C3.out⟩
     clear C3
     have C3 := n_
     clear n_
     have n_ : Aside0 (W6_.cell? ⟨g3,0,none⟩ = some (.int .i64 o1)) := ⟨pw_cell_below hb C4.out⟩
     clear C4
     have C4 := n_
     clear n_
     have n_ : Aside0 (W6_.cell? ⟨g3,1,none⟩ = some (.int .i64 o2)) := ⟨pw_cell_below hb C5.out⟩
     clear C5
     have C5 := n_
     clear n_
     have n_ : Aside0 (W6_.cell? ⟨g4,0,none⟩ = some (.int .i64 f1)) := ⟨pw_cell_below hb C6.out⟩
     clear C6
     have C6 := n_
     clear n_
     have n_ : Aside0 (W6_.cell? ⟨g4,1,none⟩ = some (.int .i64 f2)) := ⟨pw_cell_below hb C7.out⟩
     clear C7
     have C7 := n_
     clear n_
     have n_ := aZ_ (below_step HB.out hb)
     clear HB
     have HB := n_
     clear n_
     have n_ := aZ_ (Kd.Heap.C (Kd.heap_int .i64) hb.block HH.out)
     clear HH
     have HH := n_
     clear n_
     have n_ := aZ_ (Kd.Heap.C (Kd.heap_int .i64) hb.block HI.out)
     clear HI
     have HI := n_
     clear n_
     have n_ := aZ_ (Kd.Heap.C (Kd.heap_int .i64) hb.block HF.out)
     clear HF
     have HF := n_
     clear n_
     clear hb
     refine hK.out _ _ ⟨C0.out,C1.out,C2.out,C3.out,C4.out,C5.out,C6.out,C7.out⟩ (fun hHeld => ?_)
     clear hK K
     refine norm_ (a' := ?_) ?_ ?_
     rotate_left
     ·show Act.put _ (some 212) _ = _
      simp only [Act.put,List.setIfInBounds_toArray,List.set_cons_zero,List.set_cons_succ,i64_w,i32_w]
      rfl
     refine pZ_ 33 (some 213) #[true,true,true,true,true,true,true,true,true,true,true,true,true,true,true,true,true,true,true,true,true,true,true,true,true,true,true,true,true,true,true,true,true,true,false,false,false,false,false,false,false,false,false,false,false,false,false,false,false] ?_
     refine pZ_ 34 (some 214) #[true,true,true,true,true,true,true,true,true,true,true,true,true,true,true,true,true,true,true,true,true,true,true,true,true,true,true,true,true,true,true,true,true,true,true,false,false,false,false,false,false,false,false,false,false,false,false,false,false] ?_
     refine pZ_ 35 (some 215) #[true,true,true,true,true,true,true,true,true,true,true,true,true,true,true,true,true,true,true,true,true,true,true,true,true,true,true,true,true,true,true,true,true,true,true,true,false,false,false,false,false,false,false,false,false,false,false,false,false] ?_
     refine tZ8_ 36 (some 216) #[true,true,true,true,true,true,true,true,true,true,true,true,true,true,true,true,true,true,true,true,true,true,true,true,true,true,true,true,true,true,true,true,true,true,true,true,true,false,false,false,false,false,false,false,false,false,false,false,false] hHeld ?_
     refine pZ_ 37 (some 217) #[true,true,true,true,true,true,true,true,true,true,true,true,true,true,true,true,true,true,true,true,true,true,true,true,true,true,true,true,true,true,true,true,true,true,true,true,true,true,false,false,false,false,false,false,false,false,false,false,false] ?_
     refine pZ_ 38 (some 218) #[true,true,true,true,true,true,true,true,true,true,true,true,true,true,true,true,true,true,true,true,true,true,true,true,true,true,true,true,true,true,true,true,true,true,true,true,true,true,true,false,false,false,false,false,false,false,false,false,false] ?_
     refine pZ_ 39 (some 219) #[true,true,true,true,true,true,true,true,true,true,true,true,true,true,true,true,true,true,true,true,true,true,true,true,true,true,true,true,true,true,true,true,true,true,true,true,true,true,true,true,false,false,false,false,false,false,false,false,false] ?_
     refine tZ8_ 41 (some 221) #[true,true,true,true,true,true,true,true,true,true,true,true,true,true,true,true,true,true,true,true,true,true,true,true,true,true,true,true,true,true,true,true,true,true,true,true,true,true,true,true,false,true,false,false,false,false,false,false,false] hHeld ?_
     refine pZ_ 42 (some 222) #[true,true,true,true,true,true,true,true,true,true,true,true,true,true,true,true,true,true,true,true,true,true,true,true,true,true,true,true,true,true,true,true,true,true,true,true,true,true,true,true,false,true,true,false,false,false,false,false,false] ?_
     refine pZ_ 43 (some 223) #[true,true,true,true,true,true,true,true,true,true,true,true,true,true,true,true,true,true,true,true,true,true,true,true,true,true,true,true,true,true,true,true,true,true,true,true,true,true,true,true,false,true,true,true,false,false,false,false,false] ?_
     refine pZ_ 44 (some 224) #[true,true,true,true,true,true,true,true,true,true,true,true,true,true,true,true,true,true,true,true,true,true,true,true,true,true,true,true,true,true,true,true,true,true,true,true,true,true,true,true,false,true,true,true,true,false,false,false,false] ?_
     refine one_ (i := 40) (N := some 220) #[true,true,true,true,true,true,true,true,true,true,true,true,true,true,true,true,true,true,true,true,true,true,true,true,true,true,true,true,true,true,true,true,true,true,true,true,true,true,true,true,true,true,true,true,true,false,false,false,false] rfl rfl T15_ T48_ (fun K hK => ?_)
     refine gZ_ Try.func34 #[.agg #[.int .i64 f1,.int .i64 f2],.int .i64 f3,.int .i64 f4,.slice Af f5.length cf] ?_
     with_reducible refine (impl_IsFooling.calls k f1 f2 f3 f4 Af cf f5 x4 _ HF.out HFc.out HG.out.fo).mono ?_
     rintro e W7_ ⟨rfl,hb⟩
     refine ⟨_,rfl,?_⟩
     have n_ : Aside0 (W7_.cell? ⟨g1,0,none⟩ = some (.int .i64 t1)) := ⟨pw_cell_below hb C0.out⟩
     clear C0
     have C0 := n_
     clear n_
     have n_ : Aside0 (W7_.cell? ⟨g1,1,none⟩ = some (.int .i64 t2)) := ⟨pw_cell_below hb C1.out⟩
     clear C1
     have C1 := n_
     clear n_
     have n_ : Aside0 (W7_.cell? ⟨g2,0,none⟩ = some (.int .i64 t1)) := ⟨pw_cell_below hb C2.out⟩
     clear C2
     have C2 := n_
     clear n_
     have n_ : Aside0 (W7_.cell? ⟨g2,1,none⟩ = some (.int .i64 t2)) := ⟨pw_cell_below hb C3.out⟩
     clear C3
     have C3 := n_
     clear n_
     have n_ : Aside0 (W7_.cell? ⟨g3,0,none⟩ = some (.int .i64 o1)) := ⟨pw_cell_below hb C4.out⟩
     clear C4
     have C4 := n_
     clear n_
     have n_ : Aside0 (W7_.cell? ⟨g3,1,none⟩ = some (.int .i64 o2)) := ⟨pw_cell_below hb C5.out⟩
     clear C5
     have C5 := n_
     clear n_
     have n_ : Aside0 (W7_.cell? ⟨g4,0,none⟩ = some (.int .i64 f1)) := ⟨pw_cell_below hb C6.out⟩
     clear C6
     have C6 := n_
     clear n_
     have n_ : Aside0 (W7_.cell? ⟨g4,1,none⟩ = some (.int .i64 f2)) := ⟨pw_cell_below hb C7.out⟩
     clear C7
     have C7 := n_
     clear n_
     have n_ := aZ_ (below_step HB.out hb)
     clear HB
     have HB := n_
     clear n_
     have n_ := aZ_ (Kd.Heap.C (Kd.heap_int .i64) hb.block HH.out)
     clear HH
     have HH := n_
     clear n_
     have n_ := aZ_ (Kd.Heap.C (Kd.heap_int .i64) hb.block HI.out)
     clear HI
     have HI := n_
     clear n_
     have n_ := aZ_ (Kd.Heap.C (Kd.heap_int .i64) hb.block HF.out)
     clear HF
     have HF := n_
     clear n_
     clear hb
     refine hK.out _ _ ⟨C0.out,C1.out,C2.out,C3.out,C4.out,C5.out,C6.out,C7.out⟩ (fun hHeld => ?_)
     clear hK K
     refine norm_ (a' := ?_) ?_ ?_
     rotate_left
     ·show Act.put _ (some 220) _ = _
      simp only [Act.put,List.setIfInBounds_toArray,List.set_cons_zero,List.set_cons_succ,i64_w,i32_w]
      rfl
     refine one_ (i := 45) (N := some 225) #[true,true,true,true,true,true,true,true,true,true,true,true,true,true,true,true,true,true,true,true,true,true,true,true,true,true,true,true,true,true,true,true,true,true,true,true,true,true,true,true,true,true,true,true,true,true,false,false,false] rfl rfl T15_ T48_ (fun K hK => ?_)
     refine gZ_ Try.func45 #[.agg #[.int .i64 f1,.int .i64 f2],.int .i64 f3,.int .i64 f4,.slice Af f5.length cf] ?_
     with_reducible refine (spec_IsFooling.calls k f1 f2 f3 f4 Af cf f5 x4 _ HF.out HFc.out HG.out.fo2).mono ?_
     rintro e W8_ ⟨rfl,hb⟩
     refine ⟨_,rfl,?_⟩
     have n_ : Aside0 (W8_.cell? ⟨g1,0,none⟩ = some (.int .i64 t1)) := ⟨pw_cell_below hb C0.out⟩
     clear C0
     have C0 := n_
     clear n_
     have n_ : Aside0 (W8_.cell? ⟨g1,1,none⟩ = some (.int .i64 t2)) := ⟨pw_cell_below hb C1.out⟩
     clear C1
     have C1 := n_
     clear n_
     have n_ : Aside0 (W8_.cell? ⟨g2,0,none⟩ = some (.int .i64 t1)) := ⟨pw_cell_below hb C2.out⟩
     clear C2
     have C2 := n_
     clear n_
     have n_ : Aside0 (W8_.cell? ⟨g2,1,none⟩ = some (.int .i64 t2)) := ⟨pw_cell_below hb C3.out⟩
     clear C3
     have C3 := n_
     clear n_
     have n_ : Aside0 (W8_.cell? ⟨g3,0,none⟩ = some (.int .i64 o1)) := ⟨pw_cell_below hb C4.out⟩
     clear C4
     have C4 := n_
     clear n_
     have n_ : Aside0 (W8_.cell? ⟨g3,1,none⟩ = some (.int .i64 o2)) := ⟨pw_cell_below hb C5.out⟩
     clear C5
     have C5 := n_
     clear n_
     have n_ : Aside0 (W8_.cell? ⟨g4,0,none⟩ = some (.int .i64 f1)) := ⟨pw_cell_below hb C6.out⟩
     clear C6
     have C6 := n_
     clear n_
     have n_ : Aside0 (W8_.cell? ⟨g4,1,none⟩ = some (.int .i64 f2)) := ⟨pw_cell_below hb C7.out⟩
     clear C7
     have C7 := n_
     clear n_
     have n_ := aZ_ (below_step HB.out hb)
     clear HB
     have HB := n_
     clear n_
     have n_ := aZ_ (Kd.Heap.C (Kd.heap_int .i64) hb.block HH.out)
     clear HH
     have HH := n_
     clear n_
     have n_ := aZ_ (Kd.Heap.C (Kd.heap_int .i64) hb.block HI.out)
     clear HI
     have HI := n_
     clear n_
     have n_ := aZ_ (Kd.Heap.C (Kd.heap_int .i64) hb.block HF.out)
     clear HF
     have HF := n_
     clear n_
     clear hb
     refine hK.out _ _ ⟨C0.out,C1.out,C2.out,C3.out,C4.out,C5.out,C6.out,C7.out⟩ (fun hHeld => ?_)
     clear hK K
     refine norm_ (a' := ?_) ?_ ?_
     rotate_left
     ·show Act.put _ (some 225) _ = _
      simp only [Act.put,List.setIfInBounds_toArray,List.set_cons_zero,List.set_cons_succ,i64_w,i32_w]
      rfl
     refine pZ_ 46 (some 226) #[true,true,true,true,true,true,true,true,true,true,true,true,true,true,true,true,true,true,true,true,true,true,true,true,true,true,true,true,true,true,true,true,true,true,true,true,true,true,true,true,true,true,true,true,true,true,true,false,false] ?_
     refine pZ_ 47 (some 227) #[true,true,true,true,true,true,true,true,true,true,true,true,true,true,true,true,true,true,true,true,true,true,true,true,true,true,true,true,true,true,true,true,true,true,true,true,true,true,true,true,true,true,true,true,true,true,true,true,false] ?_
     refine pZ_ 48 (some 2) #[true,true,true,true,true,true,true,true,true,true,true,true,true,true,true,true,true,true,true,true,true,true,true,true,true,true,true,true,true,true,true,true,true,true,true,true,true,true,true,true,true,true,true,true,true,true,true,true,true] ?_
     refine done_ T15_ ?_
     clear C0 C1 C2 C3 C4 C5 C6 C7
     go_wp2_with (fail)
     go_ret
     exact ⟨rfl,HB.out⟩
 next => cases h
end Go.Proofs.Ythlajlhjofjmcaa.F
namespace Go.Proofs.Ythlajlhjofjmcaa.U
open Go.RowKit Go.Proofs.YthlajlhjofjmcaaW.PrintWords Go.Proofs.YthlajlhjofjmcaaW.PrintLast Go.Proofs.YthlajlhjofjmcaaW.PrintMore Go.Proofs.Ythlajlhjofjmcaa.F Go.Proofs.Ythlajlhjofjmcaa.B
set_option linter.unusedVariables false
set_option linter.unusedSimpArgs false
def isTab (a b : Int) : Bool := decide (0 ≤ a ∧ a ≤ 5 ∧ 0 ≤ b ∧ b < 2 ^ 2 ^ a.toNat)
theorem isTab_of {n w : Nat} (h : Tab n w) : isTab n w = true := by
  unfold isTab
  have h2 : (w : Int) < 2 ^ 2 ^ n := by exact_mod_cast h.2
  exact decide_eq_true ⟨by omega,by have := h.1;omega,by omega,by simpa using h2⟩
theorem tab_of {a b : Int} (h : isTab a b = true) : ∃ n w : Nat,a = n ∧ b = w ∧ Tab n w := by
  have h := of_decide_eq_true h
  obtain ⟨n,rfl⟩ := Int.eq_ofNat_of_zero_le h.1
  obtain ⟨w,rfl⟩ := Int.eq_ofNat_of_zero_le h.2.2.1
  refine ⟨n,w,rfl,rfl,by omega,?_⟩
  have h2 := h.2.2.2
  rw [Int.toNat_natCast] at h2
  exact_mod_cast h2
theorem spec_isTable (a b : Int) : spec_IsTable.f a b = some (isTab a b) := rfl
theorem size_some {n : Nat} (v : Int) (hn : n ≤ 62) : impl_Table_size.f n v = some ((2 ^ n : Nat) : Int) := by
  unfold impl_Table_size.f
  rw [if_pos (by omega),shl1_of (by omega)]
theorem at_some' {n : Int} {w x : Nat} (hw : w < 9223372036854775808) (hx : x ≤ 64) : impl_Table_at.f n w x = some ((bitN w x : Nat) : Int) := by
  unfold impl_Table_at.f
  rw [if_pos (by omega),bit_cast hw hx]
theorem shr_zero_iff {w m : Nat} : w >>> m = 0 ↔ w < 2 ^ m := by
  rw [Nat.shiftRight_eq_div_pow,Nat.div_eq_zero_iff]
  have := pow_pos m
  omega
theorem impl_isTable {a b : Int} (h0 : -9223372036854775808 ≤ b) (h1 : b ≤ 9223372036854775807) : impl_IsTable.f a b = some (isTab a b) := by
  have hb : impl_isBits.f a = some (decide (0 ≤ a ∧ a ≤ 5)) := by
    unfold impl_isBits.f
    by_cases h : a ≥ 0
    · rw [if_pos h];congr 1;exact decide_eq_decide.mpr (by omega)
    · rw [if_neg h];congr 1;symm;exact decide_eq_false (by omega)
  unfold impl_IsTable.f
  rw [hb]
  simp only [Option.bind_some,decide_eq_true_eq]
  by_cases h : 0 ≤ a ∧ a ≤ 5
  · rw [if_pos h]
    by_cases hb0 : b ≥ 0
    · rw [if_pos hb0]
      obtain ⟨n,rfl⟩ := Int.eq_ofNat_of_zero_le h.1
      obtain ⟨w,rfl⟩ := Int.eq_ofNat_of_zero_le hb0
      have hM := pow_le (n := n) (by omega)
      rw [size_some _ (by omega)]
      simp only [Option.bind_some]
      rw [if_pos (Int.natCast_nonneg _),shr_cast w _ (by omega)]
      congr 1
      unfold isTab
      apply Bool.eq_iff_iff.mpr
      rw [beq_iff_eq,decide_eq_true_eq,Int.toNat_natCast]
      have e := @shr_zero_iff w (2 ^ n)
      constructor
      · intro hz
        have hz : w >>> 2 ^ n = 0 := by exact_mod_cast hz
        have := e.mp hz
        exact ⟨h.1,h.2,hb0,by exact_mod_cast this⟩
      · intro hh
        have hh := hh.2.2.2
        have := e.mpr (by exact_mod_cast hh)
        exact_mod_cast this
    · rw [if_neg hb0]
      congr 1;symm
      exact decide_eq_false (by omega)
  · rw [if_neg h]
    congr 1;symm
    exact decide_eq_false (by omega)
end Go.Proofs.Ythlajlhjofjmcaa.U
namespace Go.Proofs.Ythlajlhjofjmcaa.U
open Go.RowKit Go.Proofs.YthlajlhjofjmcaaW.PrintWords Go.Proofs.YthlajlhjofjmcaaW.PrintLast Go.Proofs.YthlajlhjofjmcaaW.PrintMore Go.Proofs.Ythlajlhjofjmcaa.F Go.Proofs.Ythlajlhjofjmcaa.B
set_option linter.unusedVariables false
set_option linter.unusedSimpArgs false
theorem full_some {n : Nat} (hn : n ≤ 5) : spec_l2Full.f n = some (((2 ^ 2 ^ n - 1 : Nat)) : Int) := by
  unfold spec_l2Full.f
  rw [if_pos (by omega),Int.toNat_natCast]
  congr 1
  have := pow_pos (2 ^ n)
  rw [Int.natCast_sub (by omega)]
  simp
end Go.Proofs.Ythlajlhjofjmcaa.U
namespace Go.Proofs.Ythlajlhjofjmcaa.U
open Go.RowKit Go.Proofs.YthlajlhjofjmcaaW.PrintWords Go.Proofs.YthlajlhjofjmcaaW.PrintLast Go.Proofs.YthlajlhjofjmcaaW.PrintMore Go.Proofs.Ythlajlhjofjmcaa.F Go.Proofs.Ythlajlhjofjmcaa.B
set_option linter.unusedVariables false
set_option linter.unusedSimpArgs false
end Go.Proofs.Ythlajlhjofjmcaa.U
