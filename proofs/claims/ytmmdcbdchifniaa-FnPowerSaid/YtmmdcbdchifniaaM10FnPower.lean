/- Walks of Go functions and lemmas on what they compute, for the row of FnPower (a part of several): each call ends as the Lean function of its name tells; the conditions are those of each theorem. -/
import Derived.Test.YtmmdcbdchifniaaM1FnPower
import Derived.Test.YtmmdcbdchifniaaM2FnPower
import Derived.Test.YtmmdcbdchifniaaM3FnPower
import Derived.Test.YtmmdcbdchifniaaM4FnPower
import Derived.Test.YtmmdcbdchifniaaM8FnPower
namespace Go.Proofs.Ytmmdcbdchifniaa.F
open Go.RowKit Go.Proofs.YtmmdcbdchifniaaW.PrintWords Go.Proofs.YtmmdcbdchifniaaW.PrintLast Go.Proofs.YtmmdcbdchifniaaW.PrintMore
attribute [local go_sem] max2_int min2_int max_two min_two max_three min_three max_four min_four 
set_option linter.unusedVariables false
set_option linter.unusedSimpArgs false
mutual
def spec_ShapleyNumbers.l0 : Nat → List Int → List Int → Int → Int → Int → Option (List Int)
 | 0,_,_,_,_,_ => none
 | k + 1,x3,x4,x5,x102000,x102001 => if x5 < x102000 then (spec_ShapleyNumbers.l1 k x3 x4 x5 0 0 x102000 x102001) else (some x3)
def spec_ShapleyNumbers.l1 : Nat → List Int → List Int → Int → Int → Int → Int → Int → Option (List Int)
 | 0,_,_,_,_,_,_,_ => none
 | k + 1,x3,x4,x5,x6,x7,x102000,x102001 => if 0 ≤ x102000 then (if x7 < (shl .i64 1 x102000) then (if 0 ≤ x5 then (if (Go.bits .and .i64 (shr .i64 x7 x5) 1) = 0 then (if 0 ≤ x7 then (if (Go.bits .and .i64 (shr .i64 x102001 x7) 1) = 0 then (if 0 ≤ (Go.bits .or .i64 x7 (shl .i64 1 x5)) then (if (Go.bits .and .i64 (shr .i64 x102001 (Go.bits .or .i64 x7 (shl .i64 1 x5))) 1) = 1 then ((spec_l2Count.f k x7).bind fun t109 => (if 0 ≤ t109 then (if t109 < (x4.length : Int) then (if 0 ≤ (wrap64 ((wrap64 (x102000 - 1)) - t109)) then (if (wrap64 ((wrap64 (x102000 - 1)) - t109)) < (x4.length : Int) then (spec_ShapleyNumbers.l1 k x3 x4 x5 (wrap64 (x6 + (wrap64 ((rd x4 t109) * (rd x4 (wrap64 ((wrap64 (x102000 - 1)) - t109))))))) (wrap64 (x7 + 1)) x102000 x102001) else (none)) else (none)) else (none)) else (none))) else (spec_ShapleyNumbers.l1 k x3 x4 x5 x6 (wrap64 (x7 + 1)) x102000 x102001)) else (none)) else (spec_ShapleyNumbers.l1 k x3 x4 x5 x6 (wrap64 (x7 + 1)) x102000 x102001)) else (none)) else (spec_ShapleyNumbers.l1 k x3 x4 x5 x6 (wrap64 (x7 + 1)) x102000 x102001)) else (none)) else (if x3.length < 17592186044416 then (spec_ShapleyNumbers.l0 k (x3 ++ [x6]) x4 (wrap64 (x5 + 1)) x102000 x102001) else (none))) else (none)
end
def spec_ShapleyNumbers.f (k : Nat) (a0_0 : Int) (a0_1 : Int) : Option (List Int) := (some (([] : List Int) : List Int)).bind fun y102 => ((spec_IsSimpleGame.f k a0_0 a0_1).bind fun t105 => (if t105 = true then (spec_ShapleyNumbers.l0 k y102 (([1,1,2,6,24,120] : List Int)) 0 a0_0 a0_1) else (some y102)))
theorem spec_ShapleyNumbers.mono_l : ∀ k,(∀ y0 y1 y2 y3 y4,LeO (spec_ShapleyNumbers.l0 k y0 y1 y2 y3 y4) (spec_ShapleyNumbers.l0 (k + 1) y0 y1 y2 y3 y4)) ∧ (∀ y0 y1 y2 y3 y4 y5 y6,LeO (spec_ShapleyNumbers.l1 k y0 y1 y2 y3 y4 y5 y6) (spec_ShapleyNumbers.l1 (k + 1) y0 y1 y2 y3 y4 y5 y6))
 | 0 => ⟨fun _ _ _ _ _ r h => by simp [spec_ShapleyNumbers.l0] at h,fun _ _ _ _ _ _ _ r h => by simp [spec_ShapleyNumbers.l1] at h⟩
 | k + 1 => by
  obtain ⟨ih0,ih1⟩ := spec_ShapleyNumbers.mono_l k
  refine ⟨?_,?_⟩
  ·intro y0 y1 y2 y3 y4
   unfold spec_ShapleyNumbers.l0
   repeat' first
   | (with_reducible exact ih0 _ _ _ _ _)
   | (with_reducible exact ih1 _ _ _ _ _ _ _)
   | (with_reducible exact spec_IsSimpleGame.mono _ _ _)
   | (with_reducible exact spec_l2Count.mono _ _)
   | (with_reducible exact LeO.refl _)
   | (with_reducible exact LeO.none _)
   | (with_reducible refine LeO.ite ?_ ?_)
   | (with_reducible refine LeO.bind ?_ (fun _ => ?_))
   | exact ih0 _ _ _ _ _
   | exact ih1 _ _ _ _ _ _ _
   | exact spec_IsSimpleGame.mono _ _ _
   | exact spec_l2Count.mono _ _
   | exact LeO.none _
   | refine LeO.ite ?_ ?_
   | refine LeO.bind ?_ (fun _ => ?_)
  ·intro y0 y1 y2 y3 y4 y5 y6
   unfold spec_ShapleyNumbers.l1
   repeat' first
   | (with_reducible exact ih0 _ _ _ _ _)
   | (with_reducible exact ih1 _ _ _ _ _ _ _)
   | (with_reducible exact spec_IsSimpleGame.mono _ _ _)
   | (with_reducible exact spec_l2Count.mono _ _)
   | (with_reducible exact LeO.refl _)
   | (with_reducible exact LeO.none _)
   | (with_reducible refine LeO.ite ?_ ?_)
   | (with_reducible refine LeO.bind ?_ (fun _ => ?_))
   | exact ih0 _ _ _ _ _
   | exact ih1 _ _ _ _ _ _ _
   | exact spec_IsSimpleGame.mono _ _ _
   | exact spec_l2Count.mono _ _
   | exact LeO.none _
   | refine LeO.ite ?_ ?_
   | refine LeO.bind ?_ (fun _ => ?_)
theorem spec_ShapleyNumbers.mono : ∀ a0 a1 k,LeO (spec_ShapleyNumbers.f k a0 a1) (spec_ShapleyNumbers.f (k + 1) a0 a1) := by
 intro a0 a1 k
 obtain ⟨ih0,ih1⟩ := spec_ShapleyNumbers.mono_l k
 unfold spec_ShapleyNumbers.f
 repeat' first
   | (with_reducible exact ih0 _ _ _ _ _)
   | (with_reducible exact ih1 _ _ _ _ _ _ _)
   | (with_reducible exact spec_IsSimpleGame.mono _ _ _)
   | (with_reducible exact spec_l2Count.mono _ _)
   | (with_reducible exact LeO.refl _)
   | (with_reducible exact LeO.none _)
   | (with_reducible refine LeO.ite ?_ ?_)
   | (with_reducible refine LeO.bind ?_ (fun _ => ?_))
   | exact ih0 _ _ _ _ _
   | exact ih1 _ _ _ _ _ _ _
   | exact spec_IsSimpleGame.mono _ _ _
   | exact spec_l2Count.mono _ _
   | exact LeO.none _
   | refine LeO.ite ?_ ?_
   | refine LeO.bind ?_ (fun _ => ?_)
set_option maxHeartbeats 8000000 in
set_option maxRecDepth 100000 in
theorem spec_ShapleyNumbers.calls (k : Nat) (a0_0 : Int) (a0_1 : Int) (r : List Int) (w : World) (h : spec_ShapleyNumbers.f k a0_0 a0_1 = some r) :
  Calls Try.prog 12 #[.agg #[.int .i64 a0_0,.int .i64 a0_1]] w fun e w' => ∃ v0_ : Value,e = .returned (v0_) ∧ Kd.R (Kd.int .i64) 3 w' w.heap.size (fun _ => True) v0_ r ∧ Below w.heap.size w w' := by
 have hu25 := Try.underlying25
 have HB := aZ_ (Below.refl w.heap.size w)
 have H : ((some (([] : List Int) : List Int)).bind fun y102 => ((spec_IsSimpleGame.f k a0_0 a0_1).bind fun t105 => (if t105 = true then (spec_ShapleyNumbers.l0 k y102 (([1,1,2,6,24,120] : List Int)) 0 a0_0 a0_1) else (some y102)))) = some r := h
 clear h
 obtain ⟨y102,hy102⟩ : ∃ y_ : List Int,y_ = (([] : List Int)) := ⟨_,rfl⟩
 replace H : ((spec_IsSimpleGame.f k a0_0 a0_1).bind fun t105 => (if t105 = true then (spec_ShapleyNumbers.l0 k y102 (([1,1,2,6,24,120] : List Int)) 0 a0_0 a0_1) else (some y102))) = some r := by first | (rw [hy102];with_reducible exact H) | (have H2_ := (Option.bind_some _ _).symm.trans H;rw [hy102];with_reducible exact H2_) | (have H2_ := (Option.bind_some _ _).symm.trans H;with_reducible exact H2_) | with_reducible exact H | (rw [hy102];exact H) | exact H
 have Ny102 := aZ_ hy102
 clear hy102
 replace H := Option.bind_eq_some_iff.mp H
 obtain ⟨t105,A20,H⟩ := H
 replace H : (if t105 = true then (spec_ShapleyNumbers.l0 k y102 (([1,1,2,6,24,120] : List Int)) 0 a0_0 a0_1) else (some y102)) = some r := H
 have A2 := aZ_ A20
 clear A20
 by_cases c3 : t105 = true
 ·subst c3
  have H1 : (spec_ShapleyNumbers.l0 k y102 (([1,1,2,6,24,120] : List Int)) 0 a0_0 a0_1) = some r := by rw [if_pos rfl] at H;exact H
  clear H
  have H := H1
  clear H1
  obtain ⟨y106,hy106⟩ : ∃ y_ : List Int,y_ = (([1,1,2,6,24,120] : List Int)) := ⟨_,rfl⟩
  replace H : (spec_ShapleyNumbers.l0 k y102 y106 0 a0_0 a0_1) = some r := by first | (rw [hy106];with_reducible exact H) | (have H2_ := (Option.bind_some _ _).symm.trans H;rw [hy106];with_reducible exact H2_) | (have H2_ := (Option.bind_some _ _).symm.trans H;with_reducible exact H2_) | with_reducible exact H | (rw [hy106];exact H) | exact H
  have Ny106 := aZ_ hy106
  clear hy106
  have H' := aZ_ H
  clear H
  go_enter Try.func12,Try.ntmps12
  go_wp2_with (first | ((with_reducible refine gate_dst (N := 1) rfl ?_);refine box_event ?hg (N := 1) ?hd (cs := #[.int .i64 a0_0,.int .i64 a0_1]) (t := 25) ?hr ?_;(case hd => rfl);(case hg => rfl);(case hr => first | (go_simp;done) | (go_simp;rfl));intro gb101 hg w4 hbox hb;have n0_ := aZ_ (below_step T5_ hb);have n1_ := aZ_ (hbox);have n2_ := aZ_ ((T3_ : w.heap.size ≤ gb101));have n3_ := aZ_ ((T3_ : w.heap.size ≤ gb101));clear HB;have HB := n0_;have BK101 := n1_;have GW101 := n2_;have GE101 := n3_;clear n0_ n1_ n2_ n3_;clear hb hbox hg) | ((with_reducible refine gate_dst (N := 9) rfl ?_);refine Kd.R_lit (Kd.int .i64) _ 3 ?hg (N := 9) ?hd (xs := ([] : List Int)) (inner := []) (ok := fun _ => True) (okp := fun _ => True) ?hr ?hp (fun _ hk => hk) trivial (Below.refl _ _) (Nat.le_refl _) T40_ ?_;(case hd => rfl);(case hg => rfl);(case hr => first | (go_simp;done) | (go_simp;rfl));(case hp => exact (Reps.none _ _));intro v103 w5 ho6 hb hg_ hnew_;clear hg_ hnew_;(first | rw [← Ny102.out] at ho6 | (simp only [Int.reduceToNat] at ho6;rw [← Ny102.out] at ho6));have n0_ := aZ_ (Kd.R_lower ho6 (below_size T1_));have n1_ := aZ_ (blk_below (g := gb101) (o := .cells #[.int .i64 a0_0,.int .i64 a0_1] 25 (0,0)) T2_ hb);have n2_ := aZ_ (below_step T1_ hb);clear BK101;clear HB;have HO104 := n0_;have BK101 := n1_;have HB := n2_;clear n0_ n1_ n2_;clear hb ho6;have hcz7_0 : w5.cell? ⟨gb101,0,none⟩ = some (.int .i64 a0_0) := (blk_cell BK101.out 0).trans rfl;have hcz7_1 : w5.cell? ⟨gb101,1,none⟩ = some (.int .i64 a0_1) := (blk_cell BK101.out 1).trans rfl;have hfz7_0 := blk_frozen BK101.out 0;have hfz7_1 := blk_frozen BK101.out 1) | (go_at_call 16;(with_reducible refine (spec_IsSimpleGame.calls k a0_0 a0_1 true _ A2.out).mono ?_);rintro e w8 ⟨rfl,hb⟩;have n0_ := aZ_ (Kd.R_below T25_ hb);have n1_ := aZ_ (blk_below (g := gb101) (o := .cells #[.int .i64 a0_0,.int .i64 a0_1] 25 (0,0)) T2_ hb);have n2_ := aZ_ (below_step T1_ hb);clear HO104;clear BK101;clear HB;have HO104 := n0_;have BK101 := n1_;have HB := n2_;clear n0_ n1_ n2_;(try clear hb);(try clear hb2);(try clear hk);(try clear hi)) | ((with_reducible refine gate_dst (N := 14) rfl ?_);refine Kd.R_lit (Kd.int .i64) _ 3 ?hg (N := 14) ?hd (xs := ([1,1,2,6,24,120] : List Int)) (inner := [.int .i64 1,.int .i64 1,.int .i64 2,.int .i64 6,.int .i64 24,.int .i64 120]) (ok := fun _ => True) (okp := fun _ => True) ?hr ?hp (fun _ hk => hk) trivial (Below.refl _ _) (Nat.le_refl _) T40_ ?_;(case hd => rfl);(case hg => rfl);(case hr => first | (go_simp;done) | (go_simp;rfl));(case hp => exact (Reps.one (show Kd.M (Kd.int .i64) _ _ _ 1 [.int .i64 1] from rfl) (Reps.one (show Kd.M (Kd.int .i64) _ _ _ 1 [.int .i64 1] from rfl) (Reps.one (show Kd.M (Kd.int .i64) _ _ _ 2 [.int .i64 2] from rfl) (Reps.one (show Kd.M (Kd.int .i64) _ _ _ 6 [.int .i64 6] from rfl) (Reps.one (show Kd.M (Kd.int .i64) _ _ _ 24 [.int .i64 24] from rfl) (Reps.one (show Kd.M (Kd.int .i64) _ _ _ 120 [.int .i64 120] from rfl) (Reps.none _ _))))))));intro v107 w9 ho10 hb hg_ hnew_;clear hg_ hnew_;(first | rw [← Ny106.out] at ho10 | (simp only [Int.reduceToNat] at ho10;rw [← Ny106.out] at ho10));have n0_ := aZ_ (Kd.R_elder' T25_ (Kd.R_base ho10) hb);have n1_ := aZ_ (Kd.R_lower (Kd.R_new' ho10 (Kd.R_lt T25_)) (below_size T1_));have n2_ := aZ_ (blk_below (g := gb101) (o := .cells #[.int .i64 a0_0,.int .i64 a0_1] 25 (0,0)) T2_ hb);have n3_ := aZ_ (below_step T1_ hb);clear HO104;clear BK101;clear HB;have HO104 := n0_;have HO108 := n1_;have BK101 := n2_;have HB := n3_;clear n0_ n1_ n2_ n3_;clear hb ho10))
  repeat (go_quiet (first | ((with_reducible refine gate_dst (N := 1) rfl ?_);refine box_event ?hg (N := 1) ?hd (cs := #[.int .i64 a0_0,.int .i64 a0_1]) (t := 25) ?hr ?_;(case hd => rfl);(case hg => rfl);(case hr => first | (go_simp;done) | (go_simp;rfl));intro gb101 hg w4 hbox hb;have n0_ := aZ_ (below_step T5_ hb);have n1_ := aZ_ (hbox);have n2_ := aZ_ ((T3_ : w.heap.size ≤ gb101));have n3_ := aZ_ ((T3_ : w.heap.size ≤ gb101));clear HB;have HB := n0_;have BK101 := n1_;have GW101 := n2_;have GE101 := n3_;clear n0_ n1_ n2_ n3_;clear hb hbox hg) | ((with_reducible refine gate_dst (N := 9) rfl ?_);refine Kd.R_lit (Kd.int .i64) _ 3 ?hg (N := 9) ?hd (xs := ([] : List Int)) (inner := []) (ok := fun _ => True) (okp := fun _ => True) ?hr ?hp (fun _ hk => hk) trivial (Below.refl _ _) (Nat.le_refl _) T40_ ?_;(case hd => rfl);(case hg => rfl);(case hr => first | (go_simp;done) | (go_simp;rfl));(case hp => exact (Reps.none _ _));intro v103 w5 ho6 hb hg_ hnew_;clear hg_ hnew_;(first | rw [← Ny102.out] at ho6 | (simp only [Int.reduceToNat] at ho6;rw [← Ny102.out] at ho6));have n0_ := aZ_ (Kd.R_lower ho6 (below_size T1_));have n1_ := aZ_ (blk_below (g := gb101) (o := .cells #[.int .i64 a0_0,.int .i64 a0_1] 25 (0,0)) T2_ hb);have n2_ := aZ_ (below_step T1_ hb);clear BK101;clear HB;have HO104 := n0_;have BK101 := n1_;have HB := n2_;clear n0_ n1_ n2_;clear hb ho6;have hcz7_0 : w5.cell? ⟨gb101,0,none⟩ = some (.int .i64 a0_0) := (blk_cell BK101.out 0).trans rfl;have hcz7_1 : w5.cell? ⟨gb101,1,none⟩ = some (.int .i64 a0_1) := (blk_cell BK101.out 1).trans rfl;have hfz7_0 := blk_frozen BK101.out 0;have hfz7_1 := blk_frozen BK101.out 1) | (go_at_call 16;(with_reducible refine (spec_IsSimpleGame.calls k a0_0 a0_1 true _ A2.out).mono ?_);rintro e w8 ⟨rfl,hb⟩;have n0_ := aZ_ (Kd.R_below T25_ hb);have n1_ := aZ_ (blk_below (g := gb101) (o := .cells #[.int .i64 a0_0,.int .i64 a0_1] 25 (0,0)) T2_ hb);have n2_ := aZ_ (below_step T1_ hb);clear HO104;clear BK101;clear HB;have HO104 := n0_;have BK101 := n1_;have HB := n2_;clear n0_ n1_ n2_;(try clear hb);(try clear hb2);(try clear hk);(try clear hi)) | ((with_reducible refine gate_dst (N := 14) rfl ?_);refine Kd.R_lit (Kd.int .i64) _ 3 ?hg (N := 14) ?hd (xs := ([1,1,2,6,24,120] : List Int)) (inner := [.int .i64 1,.int .i64 1,.int .i64 2,.int .i64 6,.int .i64 24,.int .i64 120]) (ok := fun _ => True) (okp := fun _ => True) ?hr ?hp (fun _ hk => hk) trivial (Below.refl _ _) (Nat.le_refl _) T40_ ?_;(case hd => rfl);(case hg => rfl);(case hr => first | (go_simp;done) | (go_simp;rfl));(case hp => exact (Reps.one (show Kd.M (Kd.int .i64) _ _ _ 1 [.int .i64 1] from rfl) (Reps.one (show Kd.M (Kd.int .i64) _ _ _ 1 [.int .i64 1] from rfl) (Reps.one (show Kd.M (Kd.int .i64) _ _ _ 2 [.int .i64 2] from rfl) (Reps.one (show Kd.M (Kd.int .i64) _ _ _ 6 [.int .i64 6] from rfl) (Reps.one (show Kd.M (Kd.int .i64) _ _ _ 24 [.int .i64 24] from rfl) (Reps.one (show Kd.M (Kd.int .i64) _ _ _ 120 [.int .i64 120] from rfl) (Reps.none _ _))))))));intro v107 w9 ho10 hb hg_ hnew_;clear hg_ hnew_;(first | rw [← Ny106.out] at ho10 | (simp only [Int.reduceToNat] at ho10;rw [← Ny106.out] at ho10));have n0_ := aZ_ (Kd.R_elder' T25_ (Kd.R_base ho10) hb);have n1_ := aZ_ (Kd.R_lower (Kd.R_new' ho10 (Kd.R_lt T25_)) (below_size T1_));have n2_ := aZ_ (blk_below (g := gb101) (o := .cells #[.int .i64 a0_0,.int .i64 a0_1] 25 (0,0)) T2_ hb);have n3_ := aZ_ (below_step T1_ hb);clear HO104;clear BK101;clear HB;have HO104 := n0_;have HO108 := n1_;have BK101 := n2_;have HB := n3_;clear n0_ n1_ n2_ n3_;clear hb ho10));try go_wp2_with (first | ((with_reducible refine gate_dst (N := 1) rfl ?_);refine box_event ?hg (N := 1) ?hd (cs := #[.int .i64 a0_0,.int .i64 a0_1]) (t := 25) ?hr ?_;(case hd => rfl);(case hg => rfl);(case hr => first | (go_simp;done) | (go_simp;rfl));intro gb101 hg w4 hbox hb;have n0_ := aZ_ (below_step T5_ hb);have n1_ := aZ_ (hbox);have n2_ := aZ_ ((T3_ : w.heap.size ≤ gb101));have n3_ := aZ_ ((T3_ : w.heap.size ≤ gb101));clear HB;have HB := n0_;have BK101 := n1_;have GW101 := n2_;have GE101 := n3_;clear n0_ n1_ n2_ n3_;clear hb hbox hg) | ((with_reducible refine gate_dst (N := 9) rfl ?_);refine Kd.R_lit (Kd.int .i64) _ 3 ?hg (N := 9) ?hd (xs := ([] : List Int)) (inner := []) (ok := fun _ => True) (okp := fun _ => True) ?hr ?hp (fun _ hk => hk) trivial (Below.refl _ _) (Nat.le_refl _) T40_ ?_;(case hd => rfl);(case hg => rfl);(case hr => first | (go_simp;done) | (go_simp;rfl));(case hp => exact (Reps.none _ _));intro v103 w5 ho6 hb hg_ hnew_;clear hg_ hnew_;(first | rw [← Ny102.out] at ho6 | (simp only [Int.reduceToNat] at ho6;rw [← Ny102.out] at ho6));have n0_ := aZ_ (Kd.R_lower ho6 (below_size T1_));have n1_ := aZ_ (blk_below (g := gb101) (o := .cells #[.int .i64 a0_0,.int .i64 a0_1] 25 (0,0)) T2_ hb);have n2_ := aZ_ (below_step T1_ hb);clear BK101;clear HB;have HO104 := n0_;have BK101 := n1_;have HB := n2_;clear n0_ n1_ n2_;clear hb ho6;have hcz7_0 : w5.cell? ⟨gb101,0,none⟩ = some (.int .i64 a0_0) := (blk_cell BK101.out 0).trans rfl;have hcz7_1 : w5.cell? ⟨gb101,1,none⟩ = some (.int .i64 a0_1) := (blk_cell BK101.out 1).trans rfl;have hfz7_0 := blk_frozen BK101.out 0;have hfz7_1 := blk_frozen BK101.out 1) | (go_at_call 16;(with_reducible refine (spec_IsSimpleGame.calls k a0_0 a0_1 true _ A2.out).mono ?_);rintro e w8 ⟨rfl,hb⟩;have n0_ := aZ_ (Kd.R_below T25_ hb);have n1_ := aZ_ (blk_below (g := gb101) (o := .cells #[.int .i64 a0_0,.int .i64 a0_1] 25 (0,0)) T2_ hb);have n2_ := aZ_ (below_step T1_ hb);clear HO104;clear BK101;clear HB;have HO104 := n0_;have BK101 := n1_;have HB := n2_;clear n0_ n1_ n2_;(try clear hb);(try clear hb2);(try clear hk);(try clear hi)) | ((with_reducible refine gate_dst (N := 14) rfl ?_);refine Kd.R_lit (Kd.int .i64) _ 3 ?hg (N := 14) ?hd (xs := ([1,1,2,6,24,120] : List Int)) (inner := [.int .i64 1,.int .i64 1,.int .i64 2,.int .i64 6,.int .i64 24,.int .i64 120]) (ok := fun _ => True) (okp := fun _ => True) ?hr ?hp (fun _ hk => hk) trivial (Below.refl _ _) (Nat.le_refl _) T40_ ?_;(case hd => rfl);(case hg => rfl);(case hr => first | (go_simp;done) | (go_simp;rfl));(case hp => exact (Reps.one (show Kd.M (Kd.int .i64) _ _ _ 1 [.int .i64 1] from rfl) (Reps.one (show Kd.M (Kd.int .i64) _ _ _ 1 [.int .i64 1] from rfl) (Reps.one (show Kd.M (Kd.int .i64) _ _ _ 2 [.int .i64 2] from rfl) (Reps.one (show Kd.M (Kd.int .i64) _ _ _ 6 [.int .i64 6] from rfl) (Reps.one (show Kd.M (Kd.int .i64) _ _ _ 24 [.int .i64 24] from rfl) (Reps.one (show Kd.M (Kd.int .i64) _ _ _ 120 [.int .i64 120] from rfl) (Reps.none _ _))))))));intro v107 w9 ho10 hb hg_ hnew_;clear hg_ hnew_;(first | rw [← Ny106.out] at ho10 | (simp only [Int.reduceToNat] at ho10;rw [← Ny106.out] at ho10));have n0_ := aZ_ (Kd.R_elder' T25_ (Kd.R_base ho10) hb);have n1_ := aZ_ (Kd.R_lower (Kd.R_new' ho10 (Kd.R_lt T25_)) (below_size T1_));have n2_ := aZ_ (blk_below (g := gb101) (o := .cells #[.int .i64 a0_0,.int .i64 a0_1] 25 (0,0)) T2_ hb);have n3_ := aZ_ (below_step T1_ hb);clear HO104;clear BK101;clear HB;have HO104 := n0_;have HO108 := n1_;have BK101 := n2_;have HB := n3_;clear n0_ n1_ n2_ n3_;clear hb ho10)))
  go_loopg [3,5] k (fun kq v3 v5 w' => ∃ (x3_1 : List Int) (x5_1 : Int),v5 = .int .i64 x5_1 ∧ Aside0 (spec_ShapleyNumbers.l0 kq x3_1 y106 x5_1 a0_0 a0_1 = some r) ∧ Aside0 (kq ≤ k) ∧ Aside0 (Kd.R (Kd.int .i64) 3 w' w.heap.size (fun k_ => some k_ ≠ (v107 : Value).ownBlock) v3 x3_1) ∧ Aside0 (Kd.R (Kd.int .i64) 3 w' w.heap.size (fun k_ => some k_ ≠ (v3 : Value).ownBlock) v107 y106) ∧ Aside0 (w'.heap[gb101]? = some (.cells #[.int .i64 a0_0,.int .i64 a0_1] 25 (0,0))) ∧ Aside0 (Below w.heap.size w w'))
  case atStart => exact ⟨(y102),(0),T6_,H',⟨Nat.le_refl _⟩,⟨by (with_reducible repeat (first | apply Kd.R_alloc | apply Kd.R_drewN | apply Kd.R_drew));exact Kd.R_mono HO104.out (fun _ hk => hk.2)⟩,⟨by (with_reducible repeat (first | apply Kd.R_alloc | apply Kd.R_drewN | apply Kd.R_drew));exact Kd.R_mono HO108.out (fun _ hk => hk.2)⟩,⟨by (with_reducible repeat (first | refine blk_drewN ?_ _ | refine blk_drew ?_ | refine blk_alloc ?_ _));exact BK101.out⟩,⟨by repeat (first | (with_reducible first | exact HB.out | apply below_alloc | apply pw_below_drewN | apply below_drew1 | refine below_set ?_ GE101.out) | exact HB.out)⟩⟩
  case round =>
   clear H'
   try clear c1
   try clear p2
   try clear c3
   try clear hcz7_0
   try clear hcz7_1
   try clear hfz7_0
   try clear hfz7_1
   obtain ⟨x3_1,x5_1,rfl,HA,HK1,HO_3,HO_4,BK101,HB⟩ := hrel
   cases gk with
   | zero => exact absurd HA.out (by simp [spec_ShapleyNumbers.l0])
   | succ k1 =>
    have H := HA.out
    clear HA
    simp only [spec_ShapleyNumbers.l0] at H
    by_cases c11 : x5_1 < a0_0
    ·rw [if_pos c11] at H
     have c11b0 : decide (x5_1 < a0_0) = true := decide_eq_true c11
     clear c11
     have H' := aZ_ H
     clear H
     have hcz12_0 : wr.cell? ⟨gb101,0,none⟩ = some (.int .i64 a0_0) := (blk_cell BK101.out 0).trans rfl
     have hcz12_1 : wr.cell? ⟨gb101,1,none⟩ = some (.int .i64 a0_1) := (blk_cell BK101.out 1).trans rfl
     have hfz12_0 := blk_frozen BK101.out 0
     have hfz12_1 := blk_frozen BK101.out 1
     go_wp2
     repeat (go_quiet (fail);try go_wp2)
     go_loopg [6,7] k1 (fun kq v6 v7 w' => ∃ (x6_2 : Int) (x7_2 : Int),v6 = .int .i64 x6_2 ∧ v7 = .int .i64 x7_2 ∧ Aside0 (spec_ShapleyNumbers.l1 kq x3_1 y106 x5_1 x6_2 x7_2 a0_0 a0_1 = some r) ∧ Aside0 (kq ≤ k1) ∧ Aside0 (Kd.R (Kd.int .i64) 3 w' w.heap.size (fun k_ => some k_ ≠ (v107 : Value).ownBlock) u3 x3_1) ∧ Aside0 (Kd.R (Kd.int .i64) 3 w' w.heap.size (fun k_ => some k_ ≠ (u3 : Value).ownBlock) v107 y106) ∧ Aside0 (w'.heap[gb101]? = some (.cells #[.int .i64 a0_0,.int .i64 a0_1] 25 (0,0))) ∧ Aside0 (Below w.heap.size w w'))
     case atStart => exact ⟨(0),(0),T6_,T6_,H',⟨Nat.le_refl _⟩,⟨by (with_reducible repeat (first | apply Kd.R_alloc | apply Kd.R_drewN | apply Kd.R_drew));exact HO_3.out⟩,⟨by (with_reducible repeat (first | apply Kd.R_alloc | apply Kd.R_drewN | apply Kd.R_drew));exact HO_4.out⟩,⟨by (with_reducible repeat (first | refine blk_drewN ?_ _ | refine blk_drew ?_ | refine blk_alloc ?_ _));exact BK101.out⟩,⟨by repeat (first | (with_reducible first | exact HB.out | apply below_alloc | apply pw_below_drewN | apply below_drew1 | refine below_set ?_ GE101.out) | exact HB.out)⟩⟩
     case round =>
      clear H'
      try clear c1
      try clear p2
      try clear c3
      try clear c11
      try clear c11b0
      try clear c12
      try clear hcz12_0
      try clear hcz12_1
      try clear hcz7_0
      try clear hcz7_1
      try clear hfz12_0
      try clear hfz12_1
      try clear hfz7_0
      try clear hfz7_1
      try clear p2
      obtain ⟨x6_2,x7_2,rfl,rfl,HA,HK2,HO_3,HO_4,BK101,HB⟩ := hrel
      cases gk with
      | zero => exact absurd HA.out (by simp [spec_ShapleyNumbers.l1])
      | succ k2 =>
       have H := HA.out
       clear HA
       simp only [spec_ShapleyNumbers.l1] at H
       by_cases c13 : 0 ≤ a0_0
       ·rw [if_pos c13] at H
        have c13b0 := eq_true c13
        have c13b1 : decide (0 ≤ a0_0) = true := decide_eq_true c13
        clear c13
        obtain ⟨ji14,hji14⟩ : ∃ j_ : Int,(shl .i64 1 a0_0) = j_ := ⟨_,rfl⟩
        replace H : (if x7_2 < (ji14) then (if 0 ≤ x5_1 then (if (Go.bits .and .i64 (shr .i64 x7_2 x5_1) 1) = 0 then (if 0 ≤ x7_2 then (if (Go.bits .and .i64 (shr .i64 a0_1 x7_2) 1) = 0 then (if 0 ≤ (Go.bits .or .i64 x7_2 (shl .i64 1 x5_1)) then (if (Go.bits .and .i64 (shr .i64 a0_1 (Go.bits .or .i64 x7_2 (shl .i64 1 x5_1))) 1) = 1 then ((spec_l2Count.f k2 x7_2).bind fun t109 => (if 0 ≤ t109 then (if t109 < (y106.length : Int) then (if 0 ≤ (wrap64 ((wrap64 (a0_0 - 1)) - t109)) then (if (wrap64 ((wrap64 (a0_0 - 1)) - t109)) < (y106.length : Int) then (spec_ShapleyNumbers.l1 k2 x3_1 y106 x5_1 (wrap64 (x6_2 + (wrap64 ((rd y106 t109) * (rd y106 (wrap64 ((wrap64 (a0_0 - 1)) - t109))))))) (wrap64 (x7_2 + 1)) a0_0 a0_1) else (none)) else (none)) else (none)) else (none))) else (spec_ShapleyNumbers.l1 k2 x3_1 y106 x5_1 x6_2 (wrap64 (x7_2 + 1)) a0_0 a0_1)) else (none)) else (spec_ShapleyNumbers.l1 k2 x3_1 y106 x5_1 x6_2 (wrap64 (x7_2 + 1)) a0_0 a0_1)) else (none)) else (spec_ShapleyNumbers.l1 k2 x3_1 y106 x5_1 x6_2 (wrap64 (x7_2 + 1)) a0_0 a0_1)) else (none)) else (if x3_1.length < 17592186044416 then (spec_ShapleyNumbers.l0 k2 (x3_1 ++ [x6_2]) y106 (wrap64 (x5_1 + 1)) a0_0 a0_1) else (none))) = some r := by first | (rw [hji14] at H;exact H) | (simp only [hji14] at H ⊢;exact H)
        have hji14_ : (IntKind.i64.wrap (1 * 2 ^ min a0_0.toNat 64)) = ji14 := hji14
        have hji14z : a0_0 ≤ 64 → (IntKind.i64.wrap (1 * 2 ^ a0_0.toNat)) = ji14 := shl_small hji14
        have hji14u : (IntKind.i64.wrap (2 ^ min a0_0.toNat 64)) = ji14 := by have h_ := hji14_;rw [Int.one_mul] at h_;exact h_
        have hji14v : a0_0 ≤ 64 → (IntKind.i64.wrap (2 ^ a0_0.toNat)) = ji14 := fun hle_ => by have h_ := hji14z hle_;rw [Int.one_mul] at h_;exact h_
        have hji14y : (wrap64 (1 * 2 ^ min a0_0.toNat 64)) = ji14 := (i64_w _).symm.trans hji14_
        have hji14x : a0_0 ≤ 64 → (wrap64 (1 * 2 ^ a0_0.toNat)) = ji14 := fun h_ => (i64_w _).symm.trans (hji14z h_)
        by_cases c15 : x7_2 < (ji14)
        ·rw [if_pos c15] at H
         have c15b0 : decide (x7_2 < (ji14)) = true := decide_eq_true c15
         clear c15
         by_cases c16 : 0 ≤ x5_1
         ·rw [if_pos c16] at H
          have c16b0 := eq_true c16
          have c16b1 : decide (0 ≤ x5_1) = true := decide_eq_true c16
          clear c16
          obtain ⟨ji17,hji17⟩ : ∃ j_ : Int,(shr .i64 x7_2 x5_1) = j_ := ⟨_,rfl⟩
          replace H : (if (Go.bits .and .i64 (ji17) 1) = 0 then (if 0 ≤ x7_2 then (if (Go.bits .and .i64 (shr .i64 a0_1 x7_2) 1) = 0 then (if 0 ≤ (Go.bits .or .i64 x7_2 (shl .i64 1 x5_1)) then (if (Go.bits .and .i64 (shr .i64 a0_1 (Go.bits .or .i64 x7_2 (shl .i64 1 x5_1))) 1) = 1 then ((spec_l2Count.f k2 x7_2).bind fun t109 => (if 0 ≤ t109 then (if t109 < (y106.length : Int) then (if 0 ≤ (wrap64 ((wrap64 (a0_0 - 1)) - t109)) then (if (wrap64 ((wrap64 (a0_0 - 1)) - t109)) < (y106.length : Int) then (spec_ShapleyNumbers.l1 k2 x3_1 y106 x5_1 (wrap64 (x6_2 + (wrap64 ((rd y106 t109) * (rd y106 (wrap64 ((wrap64 (a0_0 - 1)) - t109))))))) (wrap64 (x7_2 + 1)) a0_0 a0_1) else (none)) else (none)) else (none)) else (none))) else (spec_ShapleyNumbers.l1 k2 x3_1 y106 x5_1 x6_2 (wrap64 (x7_2 + 1)) a0_0 a0_1)) else (none)) else (spec_ShapleyNumbers.l1 k2 x3_1 y106 x5_1 x6_2 (wrap64 (x7_2 + 1)) a0_0 a0_1)) else (none)) else (spec_ShapleyNumbers.l1 k2 x3_1 y106 x5_1 x6_2 (wrap64 (x7_2 + 1)) a0_0 a0_1)) = some r := by first | (rw [hji17] at H;exact H) | (simp only [hji17] at H ⊢;exact H)
          have hji17_ : (x7_2 / 2 ^ min x5_1.toNat 64) = ji17 := hji17
          have hji17z : x5_1 ≤ 64 → (x7_2 / 2 ^ x5_1.toNat) = ji17 := shr_small hji17
          by_cases c18 : (Go.bits .and .i64 (ji17) 1) = 0
          ·rw [if_pos c18] at H
           have c18b0 : ((Go.bits .and .i64 (ji17) 1) == 0) = true := beq_iff_eq.mpr c18
           have c18b1 : ((Go.bits .and .i64 (ji17) 1) != 0) = false := bne_eq_false_iff_eq.mpr c18
           clear c18
           by_cases c19 : 0 ≤ x7_2
           ·rw [if_pos c19] at H
            have c19b0 := eq_true c19
            have c19b1 : decide (0 ≤ x7_2) = true := decide_eq_true c19
            clear c19
            obtain ⟨ji20,hji20⟩ : ∃ j_ : Int,(shr .i64 a0_1 x7_2) = j_ := ⟨_,rfl⟩
            replace H : (if (Go.bits .and .i64 (ji20) 1) = 0 then (if 0 ≤ (Go.bits .or .i64 x7_2 (shl .i64 1 x5_1)) then (if (Go.bits .and .i64 (shr .i64 a0_1 (Go.bits .or .i64 x7_2 (shl .i64 1 x5_1))) 1) = 1 then ((spec_l2Count.f k2 x7_2).bind fun t109 => (if 0 ≤ t109 then (if t109 < (y106.length : Int) then (if 0 ≤ (wrap64 ((wrap64 (a0_0 - 1)) - t109)) then (if (wrap64 ((wrap64 (a0_0 - 1)) - t109)) < (y106.length : Int) then (spec_ShapleyNumbers.l1 k2 x3_1 y106 x5_1 (wrap64 (x6_2 + (wrap64 ((rd y106 t109) * (rd y106 (wrap64 ((wrap64 (a0_0 - 1)) - t109))))))) (wrap64 (x7_2 + 1)) a0_0 a0_1) else (none)) else (none)) else (none)) else (none))) else (spec_ShapleyNumbers.l1 k2 x3_1 y106 x5_1 x6_2 (wrap64 (x7_2 + 1)) a0_0 a0_1)) else (none)) else (spec_ShapleyNumbers.l1 k2 x3_1 y106 x5_1 x6_2 (wrap64 (x7_2 + 1)) a0_0 a0_1)) = some r := by first | (rw [hji20] at H;exact H) | (simp only [hji20] at H ⊢;exact H)
            have hji20_ : (a0_1 / 2 ^ min x7_2.toNat 64) = ji20 := hji20
            have hji20z : x7_2 ≤ 64 → (a0_1 / 2 ^ x7_2.toNat) = ji20 := shr_small hji20
            by_cases c21 : (Go.bits .and .i64 (ji20) 1) = 0
            ·rw [if_pos c21] at H
             have c21b0 : ((Go.bits .and .i64 (ji20) 1) == 0) = true := beq_iff_eq.mpr c21
             have c21b1 : ((Go.bits .and .i64 (ji20) 1) != 0) = false := bne_eq_false_iff_eq.mpr c21
             clear c21
             have c22b0 := eq_true (of_decide_eq_true T13_ : 0 ≤ x5_1)
             obtain ⟨ji23,hji23⟩ : ∃ j_ : Int,(shl .i64 1 x5_1) = j_ := ⟨_,rfl⟩
             replace H : (if 0 ≤ (Go.bits .or .i64 x7_2 (ji23)) then (if (Go.bits .and .i64 (shr .i64 a0_1 (Go.bits .or .i64 x7_2 (ji23))) 1) = 1 then ((spec_l2Count.f k2 x7_2).bind fun t109 => (if 0 ≤ t109 then (if t109 < (y106.length : Int) then (if 0 ≤ (wrap64 ((wrap64 (a0_0 - 1)) - t109)) then (if (wrap64 ((wrap64 (a0_0 - 1)) - t109)) < (y106.length : Int) then (spec_ShapleyNumbers.l1 k2 x3_1 y106 x5_1 (wrap64 (x6_2 + (wrap64 ((rd y106 t109) * (rd y106 (wrap64 ((wrap64 (a0_0 - 1)) - t109))))))) (wrap64 (x7_2 + 1)) a0_0 a0_1) else (none)) else (none)) else (none)) else (none))) else (spec_ShapleyNumbers.l1 k2 x3_1 y106 x5_1 x6_2 (wrap64 (x7_2 + 1)) a0_0 a0_1)) else (none)) = some r := by first | (rw [hji23] at H;exact H) | (simp only [hji23] at H ⊢;exact H)
             have hji23_ : (IntKind.i64.wrap (1 * 2 ^ min x5_1.toNat 64)) = ji23 := hji23
             have hji23z : x5_1 ≤ 64 → (IntKind.i64.wrap (1 * 2 ^ x5_1.toNat)) = ji23 := shl_small hji23
             have hji23u : (IntKind.i64.wrap (2 ^ min x5_1.toNat 64)) = ji23 := by have h_ := hji23_;rw [Int.one_mul] at h_;exact h_
             have hji23v : x5_1 ≤ 64 → (IntKind.i64.wrap (2 ^ x5_1.toNat)) = ji23 := fun hle_ => by have h_ := hji23z hle_;rw [Int.one_mul] at h_;exact h_
             have hji23y : (wrap64 (1 * 2 ^ min x5_1.toNat 64)) = ji23 := (i64_w _).symm.trans hji23_
             have hji23x : x5_1 ≤ 64 → (wrap64 (1 * 2 ^ x5_1.toNat)) = ji23 := fun h_ => (i64_w _).symm.trans (hji23z h_)
             by_cases c24 : 0 ≤ (Go.bits .or .i64 x7_2 (ji23))
             ·rw [if_pos c24] at H
              have c24b0 := eq_true c24
              have c24b1 : decide (0 ≤ (Go.bits .or .i64 x7_2 (ji23))) = true := decide_eq_true c24
              clear c24
              obtain ⟨ji25,hji25⟩ : ∃ j_ : Int,(shr .i64 a0_1 (Go.bits .or .i64 x7_2 (ji23))) = j_ := ⟨_,rfl⟩
              replace H : (if (Go.bits .and .i64 (ji25) 1) = 1 then ((spec_l2Count.f k2 x7_2).bind fun t109 => (if 0 ≤ t109 then (if t109 < (y106.length : Int) then (if 0 ≤ (wrap64 ((wrap64 (a0_0 - 1)) - t109)) then (if (wrap64 ((wrap64 (a0_0 - 1)) - t109)) < (y106.length : Int) then (spec_ShapleyNumbers.l1 k2 x3_1 y106 x5_1 (wrap64 (x6_2 + (wrap64 ((rd y106 t109) * (rd y106 (wrap64 ((wrap64 (a0_0 - 1)) - t109))))))) (wrap64 (x7_2 + 1)) a0_0 a0_1) else (none)) else (none)) else (none)) else (none))) else (spec_ShapleyNumbers.l1 k2 x3_1 y106 x5_1 x6_2 (wrap64 (x7_2 + 1)) a0_0 a0_1)) = some r := by first | (rw [hji25] at H;exact H) | (simp only [hji25] at H ⊢;exact H)
              have hji25_ : (a0_1 / 2 ^ min (Go.bits .or .i64 x7_2 (ji23)).toNat 64) = ji25 := hji25
              have hji25z : (Go.bits .or .i64 x7_2 (ji23)) ≤ 64 → (a0_1 / 2 ^ (Go.bits .or .i64 x7_2 (ji23)).toNat) = ji25 := shr_small hji25
              by_cases c26 : (Go.bits .and .i64 (ji25) 1) = 1
              ·rw [if_pos c26] at H
               have c26b0 : ((Go.bits .and .i64 (ji25) 1) == 1) = true := beq_iff_eq.mpr c26
               have c26b1 : ((Go.bits .and .i64 (ji25) 1) != 1) = false := bne_eq_false_iff_eq.mpr c26
               clear c26
               replace H := Option.bind_eq_some_iff.mp H
               obtain ⟨t109,A270,H⟩ := H
               replace H : (if 0 ≤ t109 then (if t109 < (y106.length : Int) then (if 0 ≤ (wrap64 ((wrap64 (a0_0 - 1)) - t109)) then (if (wrap64 ((wrap64 (a0_0 - 1)) - t109)) < (y106.length : Int) then (spec_ShapleyNumbers.l1 k2 x3_1 y106 x5_1 (wrap64 (x6_2 + (wrap64 ((rd y106 t109) * (rd y106 (wrap64 ((wrap64 (a0_0 - 1)) - t109))))))) (wrap64 (x7_2 + 1)) a0_0 a0_1) else (none)) else (none)) else (none)) else (none)) = some r := H
               have A27 := aZ_ A270
               clear A270
               by_cases c28 : 0 ≤ t109
               ·rw [if_pos c28] at H
                have c28b0 : decide (0 ≤ t109) = true := decide_eq_true c28
                clear c28
                by_cases c29 : t109 < (y106.length : Int)
                ·rw [if_pos c29] at H
                 have c29b0 : decide (t109 < (y106.length : Int)) = true := decide_eq_true c29
                 clear c29
                 obtain ⟨ji30,hji30⟩ : ∃ j_ : Int,(wrap64 ((wrap64 (a0_0 - 1)) - t109)) = j_ := ⟨_,rfl⟩
                 replace H : (if 0 ≤ (ji30) then (if (ji30) < (y106.length : Int) then (spec_ShapleyNumbers.l1 k2 x3_1 y106 x5_1 (wrap64 (x6_2 + (wrap64 ((rd y106 t109) * (rd y106 (ji30)))))) (wrap64 (x7_2 + 1)) a0_0 a0_1) else (none)) else (none)) = some r := by first | (rw [hji30] at H;exact H) | (simp only [hji30] at H ⊢;exact H)
                 (try rw [hji30] at A27)
                 have hji30w : (IntKind.i64.wrap ((wrap64 (a0_0 - 1)) - t109)) = ji30 := (i64_w _).trans hji30
                 by_cases c31 : 0 ≤ (ji30)
                 ·rw [if_pos c31] at H
                  have c31b0 : decide (0 ≤ (ji30)) = true := decide_eq_true c31
                  clear c31
                  by_cases c32 : (ji30) < (y106.length : Int)
                  ·rw [if_pos c32] at H
                   have c32b0 : decide ((ji30) < (y106.length : Int)) = true := decide_eq_true c32
                   clear c32
                   have H' := aZ_ H
                   clear H
                   have hcz33_0 : wr.cell? ⟨gb101,0,none⟩ = some (.int .i64 a0_0) := (blk_cell BK101.out 0).trans rfl
                   have hcz33_1 : wr.cell? ⟨gb101,1,none⟩ = some (.int .i64 a0_1) := (blk_cell BK101.out 1).trans rfl
                   have hfz33_0 := blk_frozen BK101.out 0
                   have hfz33_1 := blk_frozen BK101.out 1
                   go_wp2_with (first | (go_at_call 38;(with_reducible refine (spec_l2Count.calls k2 x7_2 t109 _ A27.out).mono ?_);rintro e w' ⟨rfl,⟨nd,rfl⟩⟩;(try first | exact ⟨rfl,_,World.drewN_drewN _ _ _⟩ | exact ⟨rfl,_,Eq.trans (World.drewN_drewN _ _ _) (congrArg (World.drewN _) (Nat.add_assoc _ _ _))⟩);obtain ⟨Ao34,co34,eo34⟩ := Kd.R_slice HO_4.out;subst eo34;have p110 : 0 ≤ (t109 : Int) := of_decide_eq_true T13_;have q110 : t109 < (y106.length : Int) := of_decide_eq_true T13_;obtain ⟨ad110,e110,hx110_0⟩ := Kd.at_int (Kd.R_reads' HO_4.out).2.2 t109 p110 q110;cases e110;replace p110 := eq_true p110;replace q110 := eq_true q110;have p111 : 0 ≤ ((ji30) : Int) := of_decide_eq_true T13_;have q111 : (ji30) < (y106.length : Int) := of_decide_eq_true T13_;obtain ⟨ad111,e111,hx111_0⟩ := Kd.at_int (Kd.R_reads' HO_4.out).2.2 (ji30) p111 q111;obtain rfl : ad110 = ad111 := (by injection e111);replace p111 := eq_true p111;replace q111 := eq_true q111))
                   repeat (go_quiet (first | (go_at_call 38;(with_reducible refine (spec_l2Count.calls k2 x7_2 t109 _ A27.out).mono ?_);rintro e w' ⟨rfl,⟨nd,rfl⟩⟩;(try first | exact ⟨rfl,_,World.drewN_drewN _ _ _⟩ | exact ⟨rfl,_,Eq.trans (World.drewN_drewN _ _ _) (congrArg (World.drewN _) (Nat.add_assoc _ _ _))⟩);obtain ⟨Ao34,co34,eo34⟩ := Kd.R_slice HO_4.out;subst eo34;have p110 : 0 ≤ (t109 : Int) := of_decide_eq_true T13_;have q110 : t109 < (y106.length : Int) := of_decide_eq_true T13_;obtain ⟨ad110,e110,hx110_0⟩ := Kd.at_int (Kd.R_reads' HO_4.out).2.2 t109 p110 q110;cases e110;replace p110 := eq_true p110;replace q110 := eq_true q110;have p111 : 0 ≤ ((ji30) : Int) := of_decide_eq_true T13_;have q111 : (ji30) < (y106.length : Int) := of_decide_eq_true T13_;obtain ⟨ad111,e111,hx111_0⟩ := Kd.at_int (Kd.R_reads' HO_4.out).2.2 (ji30) p111 q111;obtain rfl : ad110 = ad111 := (by injection e111);replace p111 := eq_true p111;replace q111 := eq_true q111));try go_wp2_with (first | (go_at_call 38;(with_reducible refine (spec_l2Count.calls k2 x7_2 t109 _ A27.out).mono ?_);rintro e w' ⟨rfl,⟨nd,rfl⟩⟩;(try first | exact ⟨rfl,_,World.drewN_drewN _ _ _⟩ | exact ⟨rfl,_,Eq.trans (World.drewN_drewN _ _ _) (congrArg (World.drewN _) (Nat.add_assoc _ _ _))⟩);obtain ⟨Ao34,co34,eo34⟩ := Kd.R_slice HO_4.out;subst eo34;have p110 : 0 ≤ (t109 : Int) := of_decide_eq_true T13_;have q110 : t109 < (y106.length : Int) := of_decide_eq_true T13_;obtain ⟨ad110,e110,hx110_0⟩ := Kd.at_int (Kd.R_reads' HO_4.out).2.2 t109 p110 q110;cases e110;replace p110 := eq_true p110;replace q110 := eq_true q110;have p111 : 0 ≤ ((ji30) : Int) := of_decide_eq_true T13_;have q111 : (ji30) < (y106.length : Int) := of_decide_eq_true T13_;obtain ⟨ad111,e111,hx111_0⟩ := Kd.at_int (Kd.R_reads' HO_4.out).2.2 (ji30) p111 q111;obtain rfl : ad110 = ad111 := (by injection e111);replace p111 := eq_true p111;replace q111 := eq_true q111)))
                   go_roundg k2
                   case measure => have := HK1.out;have := HK2.out;omega
                   case rel => exact ⟨(wrap64 (x6_2 + (wrap64 ((rd y106 t109) * (rd y106 (ji30)))))),(wrap64 (x7_2 + 1)),(by first | rfl | (simp;done) | (simp only [← hji30] <;> (first | rfl | simp)) | (simp [*];done)),T6_,H',⟨by have := HK1.out;have := HK2.out;omega⟩,⟨by (with_reducible repeat (first | apply Kd.R_alloc | apply Kd.R_drewN | apply Kd.R_drew));exact HO_3.out⟩,⟨by (with_reducible repeat (first | apply Kd.R_alloc | apply Kd.R_drewN | apply Kd.R_drew));exact HO_4.out⟩,⟨by (with_reducible repeat (first | refine blk_drewN ?_ _ | refine blk_drew ?_ | refine blk_alloc ?_ _));exact BK101.out⟩,⟨by repeat (first | (with_reducible first | exact HB.out | apply below_alloc | apply pw_below_drewN | apply below_drew1 | refine below_set ?_ GE101.out) | exact HB.out)⟩⟩
                  ·rw [if_neg c32] at H
                   exact absurd H T40_
                 ·rw [if_neg c31] at H
                  exact absurd H T40_
                ·rw [if_neg c29] at H
                 exact absurd H T40_
               ·rw [if_neg c28] at H
                exact absurd H T40_
              ·rw [if_neg c26] at H
               have c26b0 : ((Go.bits .and .i64 (ji25) 1) == 1) = false := beq_eq_false_iff_ne.mpr c26
               have c26b1 : ((Go.bits .and .i64 (ji25) 1) != 1) = true := bne_iff_ne.mpr c26
               have H' := aZ_ H
               clear H
               have hcz35_0 : wr.cell? ⟨gb101,0,none⟩ = some (.int .i64 a0_0) := (blk_cell BK101.out 0).trans rfl
               have hcz35_1 : wr.cell? ⟨gb101,1,none⟩ = some (.int .i64 a0_1) := (blk_cell BK101.out 1).trans rfl
               have hfz35_0 := blk_frozen BK101.out 0
               have hfz35_1 := blk_frozen BK101.out 1
               go_wp2
               repeat (go_quiet (fail);try go_wp2)
               go_roundg k2
               case measure => have := HK1.out;have := HK2.out;omega
               case rel => exact ⟨(x6_2),(wrap64 (x7_2 + 1)),T6_,T6_,H',⟨by have := HK1.out;have := HK2.out;omega⟩,⟨by (with_reducible repeat (first | apply Kd.R_alloc | apply Kd.R_drewN | apply Kd.R_drew));exact HO_3.out⟩,⟨by (with_reducible repeat (first | apply Kd.R_alloc | apply Kd.R_drewN | apply Kd.R_drew));exact HO_4.out⟩,⟨by (with_reducible repeat (first | refine blk_drewN ?_ _ | refine blk_drew ?_ | refine blk_alloc ?_ _));exact BK101.out⟩,⟨by repeat (first | (with_reducible first | exact HB.out | apply below_alloc | apply pw_below_drewN | apply below_drew1 | refine below_set ?_ GE101.out) | exact HB.out)⟩⟩
             ·rw [if_neg c24] at H
              exact absurd H T40_
            ·rw [if_neg c21] at H
             have c21b0 : ((Go.bits .and .i64 (ji20) 1) == 0) = false := beq_eq_false_iff_ne.mpr c21
             have c21b1 : ((Go.bits .and .i64 (ji20) 1) != 0) = true := bne_iff_ne.mpr c21
             have H' := aZ_ H
             clear H
             have hcz36_0 : wr.cell? ⟨gb101,0,none⟩ = some (.int .i64 a0_0) := (blk_cell BK101.out 0).trans rfl
             have hcz36_1 : wr.cell? ⟨gb101,1,none⟩ = some (.int .i64 a0_1) := (blk_cell BK101.out 1).trans rfl
             have hfz36_0 := blk_frozen BK101.out 0
             have hfz36_1 := blk_frozen BK101.out 1
             go_wp2
             repeat (go_quiet (fail);try go_wp2)
             go_roundg k2
             case measure => have := HK1.out;have := HK2.out;omega
             case rel => exact ⟨(x6_2),(wrap64 (x7_2 + 1)),T6_,T6_,H',⟨by have := HK1.out;have := HK2.out;omega⟩,⟨by (with_reducible repeat (first | apply Kd.R_alloc | apply Kd.R_drewN | apply Kd.R_drew));exact HO_3.out⟩,⟨by (with_reducible repeat (first | apply Kd.R_alloc | apply Kd.R_drewN | apply Kd.R_drew));exact HO_4.out⟩,⟨by (with_reducible repeat (first | refine blk_drewN ?_ _ | refine blk_drew ?_ | refine blk_alloc ?_ _));exact BK101.out⟩,⟨by repeat (first | (with_reducible first | exact HB.out | apply below_alloc | apply pw_below_drewN | apply below_drew1 | refine below_set ?_ GE101.out) | exact HB.out)⟩⟩
           ·rw [if_neg c19] at H
            exact absurd H T40_
          ·rw [if_neg c18] at H
           have c18b0 : ((Go.bits .and .i64 (ji17) 1) == 0) = false := beq_eq_false_iff_ne.mpr c18
           have c18b1 : ((Go.bits .and .i64 (ji17) 1) != 0) = true := bne_iff_ne.mpr c18
           have H' := aZ_ H
           clear H
           have hcz37_0 : wr.cell? ⟨gb101,0,none⟩ = some (.int .i64 a0_0) := (blk_cell BK101.out 0).trans rfl
           have hcz37_1 : wr.cell? ⟨gb101,1,none⟩ = some (.int .i64 a0_1) := (blk_cell BK101.out 1).trans rfl
           have hfz37_0 := blk_frozen BK101.out 0
           have hfz37_1 := blk_frozen BK101.out 1
           go_wp2
           repeat (go_quiet (fail);try go_wp2)
           go_roundg k2
           case measure => have := HK1.out;have := HK2.out;omega
           case rel => exact ⟨(x6_2),(wrap64 (x7_2 + 1)),T6_,T6_,H',⟨by have := HK1.out;have := HK2.out;omega⟩,⟨by (with_reducible repeat (first | apply Kd.R_alloc | apply Kd.R_drewN | apply Kd.R_drew));exact HO_3.out⟩,⟨by (with_reducible repeat (first | apply Kd.R_alloc | apply Kd.R_drewN | apply Kd.R_drew));exact HO_4.out⟩,⟨by (with_reducible repeat (first | refine blk_drewN ?_ _ | refine blk_drew ?_ | refine blk_alloc ?_ _));exact BK101.out⟩,⟨by repeat (first | (with_reducible first | exact HB.out | apply below_alloc | apply pw_below_drewN | apply below_drew1 | refine below_set ?_ GE101.out) | exact HB.out)⟩⟩
         ·rw [if_neg c16] at H
          exact absurd H T40_
        ·rw [if_neg c15] at H
         have c15b0 : decide (x7_2 < (ji14)) = false := decide_eq_false c15
         clear c15
         by_cases c38 : x3_1.length < 17592186044416
         ·rw [if_pos c38] at H
          have LMc38 := aZ_ c38
          clear c38
          obtain ⟨y112,hy112⟩ : ∃ y_ : List Int,y_ = (x3_1 ++ [x6_2]) := ⟨_,rfl⟩
          replace H : (spec_ShapleyNumbers.l0 k2 y112 y106 (wrap64 (x5_1 + 1)) a0_0 a0_1) = some r := by first | (rw [hy112];with_reducible exact H) | (have H2_ := (Option.bind_some _ _).symm.trans H;rw [hy112];with_reducible exact H2_) | (have H2_ := (Option.bind_some _ _).symm.trans H;with_reducible exact H2_) | with_reducible exact H | (rw [hy112];exact H) | exact H
          have Ny112 := aZ_ hy112
          clear hy112
          have H' := aZ_ H
          clear H
          have hcz39_0 : wr.cell? ⟨gb101,0,none⟩ = some (.int .i64 a0_0) := (blk_cell BK101.out 0).trans rfl
          have hcz39_1 : wr.cell? ⟨gb101,1,none⟩ = some (.int .i64 a0_1) := (blk_cell BK101.out 1).trans rfl
          have hfz39_0 := blk_frozen BK101.out 0
          have hfz39_1 := blk_frozen BK101.out 1
          go_wp2_with (first | ((with_reducible refine gate_builtin (b := .append) (xs := #[.tmp 69,.tmp 71]) rfl ?_);at_builtin;refine Kd.R_append (Kd.int .i64) (w0 := w) w.heap.size rfl (.tmp 69) (.tmp 71) 27 3 (.int .i64 0) 8 rfl Try.underlying27 info3 rfl T35_ T50_ u3 x3_1 x6_2 [.int .i64 x6_2] (fun k_ => some k_ ≠ (v107 : Value).ownBlock) (fun _ => False) rfl rfl ?aP (fun _ hk => hk.elim) ?aF ?aO ?aB ?aS ?aL ?_;(case aP => exact rfl);(case aB => exact T1_);(case aF => exact (fun k_ hk => Kd.fresh' (Kd.R_lt T53_) k_ hk));(case aO => exact T17_);(case aS => exact (below_size T1_));(case aL => have := LMc38.out;omega);intro v113 w40 ho hb hg hat;rw [← Ny112.out] at ho;have n0_ := aZ_ (Kd.R_after (ok := (fun _ => True)) T48_ hg hat);have n1_ := aZ_ (blk_grown (g := gb101) (o := .cells #[.int .i64 a0_0,.int .i64 a0_1] 25 (0,0)) T2_ hg (Kd.R_ne HO_3.out BK101.out T35_));have n2_ := aZ_ (hb);have n3_ := aZ_ (ho);clear HO_4;clear BK101;clear HB;clear HO_3;have HO_4 := n0_;have BK101 := n1_;have HB := n2_;have HO114 := n3_;clear n0_ n1_ n2_ n3_;clear ho hb hg hat))
          repeat (go_quiet (first | ((with_reducible refine gate_builtin (b := .append) (xs := #[.tmp 69,.tmp 71]) rfl ?_);at_builtin;refine Kd.R_append (Kd.int .i64) (w0 := w) w.heap.size rfl (.tmp 69) (.tmp 71) 27 3 (.int .i64 0) 8 rfl Try.underlying27 info3 rfl T35_ T50_ u3 x3_1 x6_2 [.int .i64 x6_2] (fun k_ => some k_ ≠ (v107 : Value).ownBlock) (fun _ => False) rfl rfl ?aP (fun _ hk => hk.elim) ?aF ?aO ?aB ?aS ?aL ?_;(case aP => exact rfl);(case aB => exact T1_);(case aF => exact (fun k_ hk => Kd.fresh' (Kd.R_lt T53_) k_ hk));(case aO => exact T17_);(case aS => exact (below_size T1_));(case aL => have := LMc38.out;omega);intro v113 w40 ho hb hg hat;rw [← Ny112.out] at ho;have n0_ := aZ_ (Kd.R_after (ok := (fun _ => True)) T48_ hg hat);have n1_ := aZ_ (blk_grown (g := gb101) (o := .cells #[.int .i64 a0_0,.int .i64 a0_1] 25 (0,0)) T2_ hg (Kd.R_ne HO_3.out BK101.out T35_));have n2_ := aZ_ (hb);have n3_ := aZ_ (ho);clear HO_4;clear BK101;clear HB;clear HO_3;have HO_4 := n0_;have BK101 := n1_;have HB := n2_;have HO114 := n3_;clear n0_ n1_ n2_ n3_;clear ho hb hg hat));try go_wp2_with (first | ((with_reducible refine gate_builtin (b := .append) (xs := #[.tmp 69,.tmp 71]) rfl ?_);at_builtin;refine Kd.R_append (Kd.int .i64) (w0 := w) w.heap.size rfl (.tmp 69) (.tmp 71) 27 3 (.int .i64 0) 8 rfl Try.underlying27 info3 rfl T35_ T50_ u3 x3_1 x6_2 [.int .i64 x6_2] (fun k_ => some k_ ≠ (v107 : Value).ownBlock) (fun _ => False) rfl rfl ?aP (fun _ hk => hk.elim) ?aF ?aO ?aB ?aS ?aL ?_;(case aP => exact rfl);(case aB => exact T1_);(case aF => exact (fun k_ hk => Kd.fresh' (Kd.R_lt T53_) k_ hk));(case aO => exact T17_);(case aS => exact (below_size T1_));(case aL => have := LMc38.out;omega);intro v113 w40 ho hb hg hat;rw [← Ny112.out] at ho;have n0_ := aZ_ (Kd.R_after (ok := (fun _ => True)) T48_ hg hat);have n1_ := aZ_ (blk_grown (g := gb101) (o := .cells #[.int .i64 a0_0,.int .i64 a0_1] 25 (0,0)) T2_ hg (Kd.R_ne HO_3.out BK101.out T35_));have n2_ := aZ_ (hb);have n3_ := aZ_ (ho);clear HO_4;clear BK101;clear HB;clear HO_3;have HO_4 := n0_;have BK101 := n1_;have HB := n2_;have HO114 := n3_;clear n0_ n1_ n2_ n3_;clear ho hb hg hat)))
          go_roundg k2
          case measure => have := HK1.out;have := HK2.out;omega
          case rel => exact ⟨(y112),(wrap64 (x5_1 + 1)),T6_,H',⟨by have := HK1.out;have := HK2.out;omega⟩,⟨by (with_reducible repeat (first | apply Kd.R_alloc | apply Kd.R_drewN | apply Kd.R_drew));exact HO114.out⟩,⟨by (with_reducible repeat (first | apply Kd.R_alloc | apply Kd.R_drewN | apply Kd.R_drew));exact Kd.R_mono HO_4.out (fun _ hk => hk.2)⟩,⟨by (with_reducible repeat (first | refine blk_drewN ?_ _ | refine blk_drew ?_ | refine blk_alloc ?_ _));exact BK101.out⟩,⟨by repeat (first | (with_reducible first | exact HB.out | apply below_alloc | apply pw_below_drewN | apply below_drew1 | refine below_set ?_ GE101.out) | exact HB.out)⟩⟩
         ·rw [if_neg c38] at H
          exact absurd H T40_
       ·rw [if_neg c13] at H
        exact absurd H T40_
    ·rw [if_neg c11] at H
     have c11b0 : decide (x5_1 < a0_0) = false := decide_eq_false c11
     clear c11
     obtain rfl := Option.some.inj H
     have hcz41_0 : wr.cell? ⟨gb101,0,none⟩ = some (.int .i64 a0_0) := (blk_cell BK101.out 0).trans rfl
     have hcz41_1 : wr.cell? ⟨gb101,1,none⟩ = some (.int .i64 a0_1) := (blk_cell BK101.out 1).trans rfl
     have hfz41_0 := blk_frozen BK101.out 0
     have hfz41_1 := blk_frozen BK101.out 1
     go_wp2
     repeat (go_quiet (fail);try go_wp2)
     go_ret
     exact ⟨_,by first | rfl | (simp [errW_none,errW_some] <;> rfl) | (simp [*,errW_none,errW_some] <;> rfl),by (with_reducible repeat (first | apply Kd.R_alloc | apply Kd.R_drewN | apply Kd.R_drew));exact Kd.R_mono HO_3.out (fun _ hk => trivial),by repeat (first | (with_reducible first | exact HB.out | apply below_alloc | apply pw_below_drewN | apply below_drew1 | refine below_set ?_ GE101.out) | exact HB.out)⟩
 ·replace c3 := Bool.eq_false_iff.mpr c3
  subst c3
  have H1 : (some y102) = some r := by rw [if_neg (show ¬ (false = true) by decide)] at H;exact H
  clear H
  have H := H1
  clear H1
  obtain rfl := Option.some.inj H
  go_enter Try.func12,Try.ntmps12
  go_wp2_with (first | ((with_reducible refine gate_dst (N := 1) rfl ?_);refine box_event ?hg (N := 1) ?hd (cs := #[.int .i64 a0_0,.int .i64 a0_1]) (t := 25) ?hr ?_;(case hd => rfl);(case hg => rfl);(case hr => first | (go_simp;done) | (go_simp;rfl));intro gb101 hg w42 hbox hb;have n0_ := aZ_ (below_step T5_ hb);have n1_ := aZ_ (hbox);have n2_ := aZ_ ((T3_ : w.heap.size ≤ gb101));have n3_ := aZ_ ((T3_ : w.heap.size ≤ gb101));clear HB;have HB := n0_;have BK101 := n1_;have GW101 := n2_;have GE101 := n3_;clear n0_ n1_ n2_ n3_;clear hb hbox hg) | ((with_reducible refine gate_dst (N := 9) rfl ?_);refine Kd.R_lit (Kd.int .i64) _ 3 ?hg (N := 9) ?hd (xs := ([] : List Int)) (inner := []) (ok := fun _ => True) (okp := fun _ => True) ?hr ?hp (fun _ hk => hk) trivial (Below.refl _ _) (Nat.le_refl _) T40_ ?_;(case hd => rfl);(case hg => rfl);(case hr => first | (go_simp;done) | (go_simp;rfl));(case hp => exact (Reps.none _ _));intro v103 w43 ho44 hb hg_ hnew_;clear hg_ hnew_;(first | rw [← Ny102.out] at ho44 | (simp only [Int.reduceToNat] at ho44;rw [← Ny102.out] at ho44));have n0_ := aZ_ (Kd.R_lower ho44 (below_size T1_));have n1_ := aZ_ (blk_below (g := gb101) (o := .cells #[.int .i64 a0_0,.int .i64 a0_1] 25 (0,0)) T2_ hb);have n2_ := aZ_ (below_step T1_ hb);clear BK101;clear HB;have HO104 := n0_;have BK101 := n1_;have HB := n2_;clear n0_ n1_ n2_;clear hb ho44;have hcz45_0 : w43.cell? ⟨gb101,0,none⟩ = some (.int .i64 a0_0) := (blk_cell BK101.out 0).trans rfl;have hcz45_1 : w43.cell? ⟨gb101,1,none⟩ = some (.int .i64 a0_1) := (blk_cell BK101.out 1).trans rfl;have hfz45_0 := blk_frozen BK101.out 0;have hfz45_1 := blk_frozen BK101.out 1) | (go_at_call 16;(with_reducible refine (spec_IsSimpleGame.calls k a0_0 a0_1 false _ A2.out).mono ?_);rintro e w46 ⟨rfl,hb⟩;have n0_ := aZ_ (Kd.R_below T25_ hb);have n1_ := aZ_ (blk_below (g := gb101) (o := .cells #[.int .i64 a0_0,.int .i64 a0_1] 25 (0,0)) T2_ hb);have n2_ := aZ_ (below_step T1_ hb);clear HO104;clear BK101;clear HB;have HO104 := n0_;have BK101 := n1_;have HB := n2_;clear n0_ n1_ n2_;(try clear hb);(try clear hb2);(try clear hk);(try clear hi)))
  repeat (go_quiet (first | ((with_reducible refine gate_dst (N := 1) rfl ?_);refine box_event ?hg (N := 1) ?hd (cs := #[.int .i64 a0_0,.int .i64 a0_1]) (t := 25) ?hr ?_;(case hd => rfl);(case hg => rfl);(case hr => first | (go_simp;done) | (go_simp;rfl));intro gb101 hg w42 hbox hb;have n0_ := aZ_ (below_step T5_ hb);have n1_ := aZ_ (hbox);have n2_ := aZ_ ((T3_ : w.heap.size ≤ gb101));have n3_ := aZ_ ((T3_ : w.heap.size ≤ gb101));clear HB;have HB := n0_;have BK101 := n1_;have GW101 := n2_;have GE101 := n3_;clear n0_ n1_ n2_ n3_;clear hb hbox hg) | ((with_reducible refine gate_dst (N := 9) rfl ?_);refine Kd.R_lit (Kd.int .i64) _ 3 ?hg (N := 9) ?hd (xs := ([] : List Int)) (inner := []) (ok := fun _ => True) (okp := fun _ => True) ?hr ?hp (fun _ hk => hk) trivial (Below.refl _ _) (Nat.le_refl _) T40_ ?_;(case hd => rfl);(case hg => rfl);(case hr => first | (go_simp;done) | (go_simp;rfl));(case hp => exact (Reps.none _ _));intro v103 w43 ho44 hb hg_ hnew_;clear hg_ hnew_;(first | rw [← Ny102.out] at ho44 | (simp only [Int.reduceToNat] at ho44;rw [← Ny102.out] at ho44));have n0_ := aZ_ (Kd.R_lower ho44 (below_size T1_));have n1_ := aZ_ (blk_below (g := gb101) (o := .cells #[.int .i64 a0_0,.int .i64 a0_1] 25 (0,0)) T2_ hb);have n2_ := aZ_ (below_step T1_ hb);clear BK101;clear HB;have HO104 := n0_;have BK101 := n1_;have HB := n2_;clear n0_ n1_ n2_;clear hb ho44;have hcz45_0 : w43.cell? ⟨gb101,0,none⟩ = some (.int .i64 a0_0) := (blk_cell BK101.out 0).trans rfl;have hcz45_1 : w43.cell? ⟨gb101,1,none⟩ = some (.int .i64 a0_1) := (blk_cell BK101.out 1).trans rfl;have hfz45_0 := blk_frozen BK101.out 0;have hfz45_1 := blk_frozen BK101.out 1) | (go_at_call 16;(with_reducible refine (spec_IsSimpleGame.calls k a0_0 a0_1 false _ A2.out).mono ?_);rintro e w46 ⟨rfl,hb⟩;have n0_ := aZ_ (Kd.R_below T25_ hb);have n1_ := aZ_ (blk_below (g := gb101) (o := .cells #[.int .i64 a0_0,.int .i64 a0_1] 25 (0,0)) T2_ hb);have n2_ := aZ_ (below_step T1_ hb);clear HO104;clear BK101;clear HB;have HO104 := n0_;have BK101 := n1_;have HB := n2_;clear n0_ n1_ n2_;(try clear hb);(try clear hb2);(try clear hk);(try clear hi)));try go_wp2_with (first | ((with_reducible refine gate_dst (N := 1) rfl ?_);refine box_event ?hg (N := 1) ?hd (cs := #[.int .i64 a0_0,.int .i64 a0_1]) (t := 25) ?hr ?_;(case hd => rfl);(case hg => rfl);(case hr => first | (go_simp;done) | (go_simp;rfl));intro gb101 hg w42 hbox hb;have n0_ := aZ_ (below_step T5_ hb);have n1_ := aZ_ (hbox);have n2_ := aZ_ ((T3_ : w.heap.size ≤ gb101));have n3_ := aZ_ ((T3_ : w.heap.size ≤ gb101));clear HB;have HB := n0_;have BK101 := n1_;have GW101 := n2_;have GE101 := n3_;clear n0_ n1_ n2_ n3_;clear hb hbox hg) | ((with_reducible refine gate_dst (N := 9) rfl ?_);refine Kd.R_lit (Kd.int .i64) _ 3 ?hg (N := 9) ?hd (xs := ([] : List Int)) (inner := []) (ok := fun _ => True) (okp := fun _ => True) ?hr ?hp (fun _ hk => hk) trivial (Below.refl _ _) (Nat.le_refl _) T40_ ?_;(case hd => rfl);(case hg => rfl);(case hr => first | (go_simp;done) | (go_simp;rfl));(case hp => exact (Reps.none _ _));intro v103 w43 ho44 hb hg_ hnew_;clear hg_ hnew_;(first | rw [← Ny102.out] at ho44 | (simp only [Int.reduceToNat] at ho44;rw [← Ny102.out] at ho44));have n0_ := aZ_ (Kd.R_lower ho44 (below_size T1_));have n1_ := aZ_ (blk_below (g := gb101) (o := .cells #[.int .i64 a0_0,.int .i64 a0_1] 25 (0,0)) T2_ hb);have n2_ := aZ_ (below_step T1_ hb);clear BK101;clear HB;have HO104 := n0_;have BK101 := n1_;have HB := n2_;clear n0_ n1_ n2_;clear hb ho44;have hcz45_0 : w43.cell? ⟨gb101,0,none⟩ = some (.int .i64 a0_0) := (blk_cell BK101.out 0).trans rfl;have hcz45_1 : w43.cell? ⟨gb101,1,none⟩ = some (.int .i64 a0_1) := (blk_cell BK101.out 1).trans rfl;have hfz45_0 := blk_frozen BK101.out 0;have hfz45_1 := blk_frozen BK101.out 1) | (go_at_call 16;(with_reducible refine (spec_IsSimpleGame.calls k a0_0 a0_1 false _ A2.out).mono ?_);rintro e w46 ⟨rfl,hb⟩;have n0_ := aZ_ (Kd.R_below T25_ hb);have n1_ := aZ_ (blk_below (g := gb101) (o := .cells #[.int .i64 a0_0,.int .i64 a0_1] 25 (0,0)) T2_ hb);have n2_ := aZ_ (below_step T1_ hb);clear HO104;clear BK101;clear HB;have HO104 := n0_;have BK101 := n1_;have HB := n2_;clear n0_ n1_ n2_;(try clear hb);(try clear hb2);(try clear hk);(try clear hi))))
  go_ret
  exact ⟨_,by first | rfl | (simp [errW_none,errW_some] <;> rfl) | (simp [*,errW_none,errW_some] <;> rfl),by (with_reducible repeat (first | apply Kd.R_alloc | apply Kd.R_drewN | apply Kd.R_drew));exact HO104.out,by repeat (first | (with_reducible first | exact HB.out | apply below_alloc | apply pw_below_drewN | apply below_drew1 | refine below_set ?_ GE101.out) | exact HB.out)⟩
mutual
def spec_InfluenceOf.j0 : Nat → Int → Bool → Int → Int → Option (Int)
 | 0,_,_,_,_ => none
 | k + 1,x1,x17,x102000,x102001 => if x17 = true then (some (-1)) else (spec_InfluenceOf.l0 k x1 0 0 x102000 x102001)
def spec_InfluenceOf.l0 : Nat → Int → Int → Int → Int → Int → Option (Int)
 | 0,_,_,_,_,_ => none
 | k + 1,x1,x5,x6,x102000,x102001 => if 0 ≤ x102000 then (if x6 < (shl .i64 1 x102000) then (if 0 ≤ x6 then (if 0 ≤ x1 then (if 0 ≤ (Go.bits .xor .i64 x6 (shl .i64 1 x1)) then (spec_InfluenceOf.l0 k x1 (wrap64 (x5 + (Go.bits .and .i64 (Go.bits .xor .i64 (shr .i64 x102001 x6) (shr .i64 x102001 (Go.bits .xor .i64 x6 (shl .i64 1 x1)))) 1))) (wrap64 (x6 + 1)) x102000 x102001) else (none)) else (none)) else (none)) else (some x5)) else (none)
end
def spec_InfluenceOf.f (k : Nat) (a0_0 : Int) (a0_1 : Int) (a1 : Int) : Option (Int) := (spec_IsTable.f a0_0 a0_1).bind fun t102 => (if t102 = true then ((spec_l1In.f a1 0 (wrap64 (a0_0 - 1))).bind fun t103 => (spec_InfluenceOf.j0 k a1 (!t103) a0_0 a0_1)) else (spec_InfluenceOf.j0 k a1 true a0_0 a0_1))
set_option maxHeartbeats 8000000 in
set_option maxRecDepth 100000 in
theorem spec_InfluenceOf.calls (k : Nat) (a0_0 : Int) (a0_1 : Int) (a1 : Int) (r : Int) (w : World) (h : spec_InfluenceOf.f k a0_0 a0_1 a1 = some r) :
  Calls Try.prog 39 #[.agg #[.int .i64 a0_0,.int .i64 a0_1],.int .i64 a1] w fun e w' => e = .returned (.int .i64 r) ∧ Below w.heap.size w w' := by
 have hu25 := Try.underlying25
 have HB := aZ_ (Below.refl w.heap.size w)
 have H : ((spec_IsTable.f a0_0 a0_1).bind fun t102 => (if t102 = true then ((spec_l1In.f a1 0 (wrap64 (a0_0 - 1))).bind fun t103 => (spec_InfluenceOf.j0 k a1 (!t103) a0_0 a0_1)) else (spec_InfluenceOf.j0 k a1 true a0_0 a0_1))) = some r := h
 clear h
 have HC3 := aZ_ H
 clear H
 go_enter Try.func39,Try.ntmps39
 go_upto_region 1 with (first | ((with_reducible refine gate_dst (N := 2) rfl ?_);refine box_event ?hg (N := 2) ?hd (cs := #[.int .i64 a0_0,.int .i64 a0_1]) (t := 25) ?hr ?_;(case hd => rfl);(case hg => rfl);(case hr => first | (go_simp;done) | (go_simp;rfl));intro gb101 hg w4 hbox hb;have n0_ := aZ_ (below_step T5_ hb);have n1_ := aZ_ (hbox);have n2_ := aZ_ ((T3_ : w.heap.size ≤ gb101));have n3_ := aZ_ ((T3_ : w.heap.size ≤ gb101));clear HB;have HB := n0_;have BK101 := n1_;have GW101 := n2_;have GE101 := n3_;clear n0_ n1_ n2_ n3_;clear hb hbox hg))
 repeat (go_quiet (first | ((with_reducible refine gate_dst (N := 2) rfl ?_);refine box_event ?hg (N := 2) ?hd (cs := #[.int .i64 a0_0,.int .i64 a0_1]) (t := 25) ?hr ?_;(case hd => rfl);(case hg => rfl);(case hr => first | (go_simp;done) | (go_simp;rfl));intro gb101 hg w4 hbox hb;have n0_ := aZ_ (below_step T5_ hb);have n1_ := aZ_ (hbox);have n2_ := aZ_ ((T3_ : w.heap.size ≤ gb101));have n3_ := aZ_ ((T3_ : w.heap.size ≤ gb101));clear HB;have HB := n0_;have BK101 := n1_;have GW101 := n2_;have GE101 := n3_;clear n0_ n1_ n2_ n3_;clear hb hbox hg));go_upto_region 1 with (first | ((with_reducible refine gate_dst (N := 2) rfl ?_);refine box_event ?hg (N := 2) ?hd (cs := #[.int .i64 a0_0,.int .i64 a0_1]) (t := 25) ?hr ?_;(case hd => rfl);(case hg => rfl);(case hr => first | (go_simp;done) | (go_simp;rfl));intro gb101 hg w4 hbox hb;have n0_ := aZ_ (below_step T5_ hb);have n1_ := aZ_ (hbox);have n2_ := aZ_ ((T3_ : w.heap.size ≤ gb101));have n3_ := aZ_ ((T3_ : w.heap.size ≤ gb101));clear HB;have HB := n0_;have BK101 := n1_;have GW101 := n2_;have GE101 := n3_;clear n0_ n1_ n2_ n3_;clear hb hbox hg)))
 (try simp only [Act.put,List.setIfInBounds_toArray,List.set_cons_zero,List.set_cons_succ])
 go_cut [17] (fun v17 wc => ∃ (kq : Nat) (x17_2 : Bool),v17 = .bool x17_2 ∧ Aside0 (spec_InfluenceOf.j0 kq a1 x17_2 a0_0 a0_1 = some r) ∧ Aside0 (kq ≤ k) ∧ Aside0 (wc.heap[gb101]? = some (.cells #[.int .i64 a0_0,.int .i64 a0_1] 25 (0,0))) ∧ Aside0 (Below w.heap.size w wc))
 case first =>
  have H := HC3.out
  clear HC3
  replace H := Option.bind_eq_some_iff.mp H
  obtain ⟨t102,A50,H⟩ := H
  replace H : (if t102 = true then ((spec_l1In.f a1 0 (wrap64 (a0_0 - 1))).bind fun t103 => (spec_InfluenceOf.j0 k a1 (!t103) a0_0 a0_1)) else (spec_InfluenceOf.j0 k a1 true a0_0 a0_1)) = some r := H
  have A5 := aZ_ A50
  clear A50
  by_cases c6 : t102 = true
  ·subst c6
   have H1 : ((spec_l1In.f a1 0 (wrap64 (a0_0 - 1))).bind fun t103 => (spec_InfluenceOf.j0 k a1 (!t103) a0_0 a0_1)) = some r := by rw [if_pos rfl] at H;exact H
   clear H
   have H := H1
   clear H1
   replace H := Option.bind_eq_some_iff.mp H
   obtain ⟨t103,A70,H⟩ := H
   replace H : (spec_InfluenceOf.j0 k a1 (!t103) a0_0 a0_1) = some r := H
   have A7 := aZ_ A70
   clear A70
   have H' := aZ_ H
   clear H
   have hcz8_0 : w4.cell? ⟨gb101,0,none⟩ = some (.int .i64 a0_0) := (blk_cell BK101.out 0).trans rfl
   have hcz8_1 : w4.cell? ⟨gb101,1,none⟩ = some (.int .i64 a0_1) := (blk_cell BK101.out 1).trans rfl
   have hfz8_0 := blk_frozen BK101.out 0
   have hfz8_1 := blk_frozen BK101.out 1
   go_wp2_with (first | (go_at_call 42;(with_reducible refine (spec_IsTable.calls a0_0 a0_1 true _ A5.out).mono ?_);rintro e w9 ⟨rfl,hb⟩;have n0_ := aZ_ (blk_below (g := gb101) (o := .cells #[.int .i64 a0_0,.int .i64 a0_1] 25 (0,0)) T2_ hb);have n1_ := aZ_ (below_step T1_ hb);clear BK101;clear HB;have BK101 := n0_;have HB := n1_;clear n0_ n1_;(try clear hb);(try clear hb2);(try clear hk);(try clear hi);have hcz10_0 : w9.cell? ⟨gb101,0,none⟩ = some (.int .i64 a0_0) := (blk_cell BK101.out 0).trans rfl;have hcz10_1 : w9.cell? ⟨gb101,1,none⟩ = some (.int .i64 a0_1) := (blk_cell BK101.out 1).trans rfl;have hfz10_0 := blk_frozen BK101.out 0;have hfz10_1 := blk_frozen BK101.out 1) | (go_at_call 50;(with_reducible refine (spec_l1In.calls a1 0 (wrap64 (a0_0 - 1)) t103 _ A7.out).mono ?_);rintro e w' ⟨rfl,⟨nd,rfl⟩⟩;(try first | exact ⟨rfl,_,World.drewN_drewN _ _ _⟩ | exact ⟨rfl,_,Eq.trans (World.drewN_drewN _ _ _) (congrArg (World.drewN _) (Nat.add_assoc _ _ _))⟩)))
   repeat (go_quiet (first | (go_at_call 42;(with_reducible refine (spec_IsTable.calls a0_0 a0_1 true _ A5.out).mono ?_);rintro e w9 ⟨rfl,hb⟩;have n0_ := aZ_ (blk_below (g := gb101) (o := .cells #[.int .i64 a0_0,.int .i64 a0_1] 25 (0,0)) T2_ hb);have n1_ := aZ_ (below_step T1_ hb);clear BK101;clear HB;have BK101 := n0_;have HB := n1_;clear n0_ n1_;(try clear hb);(try clear hb2);(try clear hk);(try clear hi);have hcz10_0 : w9.cell? ⟨gb101,0,none⟩ = some (.int .i64 a0_0) := (blk_cell BK101.out 0).trans rfl;have hcz10_1 : w9.cell? ⟨gb101,1,none⟩ = some (.int .i64 a0_1) := (blk_cell BK101.out 1).trans rfl;have hfz10_0 := blk_frozen BK101.out 0;have hfz10_1 := blk_frozen BK101.out 1) | (go_at_call 50;(with_reducible refine (spec_l1In.calls a1 0 (wrap64 (a0_0 - 1)) t103 _ A7.out).mono ?_);rintro e w' ⟨rfl,⟨nd,rfl⟩⟩;(try first | exact ⟨rfl,_,World.drewN_drewN _ _ _⟩ | exact ⟨rfl,_,Eq.trans (World.drewN_drewN _ _ _) (congrArg (World.drewN _) (Nat.add_assoc _ _ _))⟩)));try go_wp2_with (first | (go_at_call 42;(with_reducible refine (spec_IsTable.calls a0_0 a0_1 true _ A5.out).mono ?_);rintro e w9 ⟨rfl,hb⟩;have n0_ := aZ_ (blk_below (g := gb101) (o := .cells #[.int .i64 a0_0,.int .i64 a0_1] 25 (0,0)) T2_ hb);have n1_ := aZ_ (below_step T1_ hb);clear BK101;clear HB;have BK101 := n0_;have HB := n1_;clear n0_ n1_;(try clear hb);(try clear hb2);(try clear hk);(try clear hi);have hcz10_0 : w9.cell? ⟨gb101,0,none⟩ = some (.int .i64 a0_0) := (blk_cell BK101.out 0).trans rfl;have hcz10_1 : w9.cell? ⟨gb101,1,none⟩ = some (.int .i64 a0_1) := (blk_cell BK101.out 1).trans rfl;have hfz10_0 := blk_frozen BK101.out 0;have hfz10_1 := blk_frozen BK101.out 1) | (go_at_call 50;(with_reducible refine (spec_l1In.calls a1 0 (wrap64 (a0_0 - 1)) t103 _ A7.out).mono ?_);rintro e w' ⟨rfl,⟨nd,rfl⟩⟩;(try first | exact ⟨rfl,_,World.drewN_drewN _ _ _⟩ | exact ⟨rfl,_,Eq.trans (World.drewN_drewN _ _ _) (congrArg (World.drewN _) (Nat.add_assoc _ _ _))⟩))))
   go_meet
   case rel => exact ⟨_,(!t103),T6_,H',⟨by first | omega | exact Nat.le_refl _⟩,⟨by (with_reducible repeat (first | refine blk_drewN ?_ _ | refine blk_drew ?_ | refine blk_alloc ?_ _));exact BK101.out⟩,⟨by repeat (first | (with_reducible first | exact HB.out | apply below_alloc | apply pw_below_drewN | apply below_drew1 | refine below_set ?_ GE101.out) | exact HB.out)⟩⟩
  ·replace c6 := Bool.eq_false_iff.mpr c6
   subst c6
   have H1 : (spec_InfluenceOf.j0 k a1 true a0_0 a0_1) = some r := by rw [if_neg (show ¬ (false = true) by decide)] at H;exact H
   clear H
   have H := H1
   clear H1
   have H' := aZ_ H
   clear H
   have hcz11_0 : w4.cell? ⟨gb101,0,none⟩ = some (.int .i64 a0_0) := (blk_cell BK101.out 0).trans rfl
   have hcz11_1 : w4.cell? ⟨gb101,1,none⟩ = some (.int .i64 a0_1) := (blk_cell BK101.out 1).trans rfl
   have hfz11_0 := blk_frozen BK101.out 0
   have hfz11_1 := blk_frozen BK101.out 1
   go_wp2_with (first | (go_at_call 42;(with_reducible refine (spec_IsTable.calls a0_0 a0_1 false _ A5.out).mono ?_);rintro e w12 ⟨rfl,hb⟩;have n0_ := aZ_ (blk_below (g := gb101) (o := .cells #[.int .i64 a0_0,.int .i64 a0_1] 25 (0,0)) T2_ hb);have n1_ := aZ_ (below_step T1_ hb);clear BK101;clear HB;have BK101 := n0_;have HB := n1_;clear n0_ n1_;(try clear hb);(try clear hb2);(try clear hk);(try clear hi)))
   repeat (go_quiet (first | (go_at_call 42;(with_reducible refine (spec_IsTable.calls a0_0 a0_1 false _ A5.out).mono ?_);rintro e w12 ⟨rfl,hb⟩;have n0_ := aZ_ (blk_below (g := gb101) (o := .cells #[.int .i64 a0_0,.int .i64 a0_1] 25 (0,0)) T2_ hb);have n1_ := aZ_ (below_step T1_ hb);clear BK101;clear HB;have BK101 := n0_;have HB := n1_;clear n0_ n1_;(try clear hb);(try clear hb2);(try clear hk);(try clear hi)));try go_wp2_with (first | (go_at_call 42;(with_reducible refine (spec_IsTable.calls a0_0 a0_1 false _ A5.out).mono ?_);rintro e w12 ⟨rfl,hb⟩;have n0_ := aZ_ (blk_below (g := gb101) (o := .cells #[.int .i64 a0_0,.int .i64 a0_1] 25 (0,0)) T2_ hb);have n1_ := aZ_ (below_step T1_ hb);clear BK101;clear HB;have BK101 := n0_;have HB := n1_;clear n0_ n1_;(try clear hb);(try clear hb2);(try clear hk);(try clear hi))))
   go_meet
   case rel => exact ⟨_,(true),T6_,H',⟨by first | omega | exact Nat.le_refl _⟩,⟨by (with_reducible repeat (first | refine blk_drewN ?_ _ | refine blk_drew ?_ | refine blk_alloc ?_ _));exact BK101.out⟩,⟨by repeat (first | (with_reducible first | exact HB.out | apply below_alloc | apply pw_below_drewN | apply below_drew1 | refine below_set ?_ GE101.out) | exact HB.out)⟩⟩
 case rest =>
  clear HC3
  try clear p2
  try clear c3
  try clear c6
  try clear p6
  try clear hcz10_0
  try clear hcz10_1
  try clear hcz11_0
  try clear hcz11_1
  try clear hcz8_0
  try clear hcz8_1
  try clear hfz10_0
  try clear hfz10_1
  try clear hfz11_0
  try clear hfz11_1
  try clear hfz8_0
  try clear hfz8_1
  obtain ⟨kq,x17_2,rfl,HA,HJ2,BK101,HB⟩ := hcut
  cases kq with
  | zero => exact absurd HA.out (by simp [spec_InfluenceOf.j0])
  | succ kj2 =>
   have H := HA.out
   clear HA
   simp only [spec_InfluenceOf.j0] at H
   by_cases c13 : x17_2 = true
   ·subst c13
    have H1 : (some (-1)) = some r := by rw [if_pos rfl] at H;exact H
    clear H
    have H := H1
    clear H1
    obtain rfl := Option.some.inj H
    go_wp2
    repeat (go_quiet (fail);try go_wp2)
    go_ret
    exact ⟨by first | rfl | (simp [errW_none,errW_some] <;> rfl) | (simp [*,errW_none,errW_some] <;> rfl),by repeat (first | (with_reducible first | exact HB.out | apply below_alloc | apply pw_below_drewN | apply below_drew1 | refine below_set ?_ GE101.out) | exact HB.out)⟩
   ·replace c13 := Bool.eq_false_iff.mpr c13
    subst c13
    have H1 : (spec_InfluenceOf.l0 kj2 a1 0 0 a0_0 a0_1) = some r := by rw [if_neg (show ¬ (false = true) by decide)] at H;exact H
    clear H
    have H := H1
    clear H1
    have H' := aZ_ H
    clear H
    go_wp2
    repeat (go_quiet (fail);try go_wp2)
    go_loopg [5,6] kj2 (fun kq v5 v6 w' => ∃ (x5_2 : Int) (x6_2 : Int),v5 = .int .i64 x5_2 ∧ v6 = .int .i64 x6_2 ∧ Aside0 (spec_InfluenceOf.l0 kq a1 x5_2 x6_2 a0_0 a0_1 = some r) ∧ Aside0 (kq ≤ kj2) ∧ Aside0 (w'.heap[gb101]? = some (.cells #[.int .i64 a0_0,.int .i64 a0_1] 25 (0,0))) ∧ Aside0 (Below w.heap.size w w'))
    case atStart => exact ⟨(0),(0),T6_,T6_,H',⟨Nat.le_refl _⟩,⟨by (with_reducible repeat (first | refine blk_drewN ?_ _ | refine blk_drew ?_ | refine blk_alloc ?_ _));exact BK101.out⟩,⟨by repeat (first | (with_reducible first | exact HB.out | apply below_alloc | apply pw_below_drewN | apply below_drew1 | refine below_set ?_ GE101.out) | exact HB.out)⟩⟩
    case round =>
     clear H'
     try clear c1
     try clear p2
     try clear c3
     try clear c6
     try clear p6
     try clear c13
     try clear hcz10_0
     try clear hcz10_1
     try clear hcz11_0
     try clear hcz11_1
     try clear hcz8_0
     try clear hcz8_1
     try clear hfz10_0
     try clear hfz10_1
     try clear hfz11_0
     try clear hfz11_1
     try clear hfz8_0
     try clear hfz8_1
     try clear p2
     try clear p6
     obtain ⟨x5_2,x6_2,rfl,rfl,HA,HK2,BK101,HB⟩ := hrel
     cases gk with
     | zero => exact absurd HA.out (by simp [spec_InfluenceOf.l0])
     | succ k2 =>
      have H := HA.out
      clear HA
      simp only [spec_InfluenceOf.l0] at H
      by_cases c14 : 0 ≤ a0_0
      ·rw [if_pos c14] at H
       have c14b0 := eq_true c14
       have c14b1 : decide (0 ≤ a0_0) = true := decide_eq_true c14
       clear c14
       obtain ⟨ji15,hji15⟩ : ∃ j_ : Int,(shl .i64 1 a0_0) = j_ := ⟨_,rfl⟩
       replace H : (if x6_2 < (ji15) then (if 0 ≤ x6_2 then (if 0 ≤ a1 then (if 0 ≤ (Go.bits .xor .i64 x6_2 (shl .i64 1 a1)) then (spec_InfluenceOf.l0 k2 a1 (wrap64 (x5_2 + (Go.bits .and .i64 (Go.bits .xor .i64 (shr .i64 a0_1 x6_2) (shr .i64 a0_1 (Go.bits .xor .i64 x6_2 (shl .i64 1 a1)))) 1))) (wrap64 (x6_2 + 1)) a0_0 a0_1) else (none)) else (none)) else (none)) else (some x5_2)) = some r := by first | (rw [hji15] at H;exact H) | (simp only [hji15] at H ⊢;exact H)
       have hji15_ : (IntKind.i64.wrap (1 * 2 ^ min a0_0.toNat 64)) = ji15 := hji15
       have hji15z : a0_0 ≤ 64 → (IntKind.i64.wrap (1 * 2 ^ a0_0.toNat)) = ji15 := shl_small hji15
       have hji15u : (IntKind.i64.wrap (2 ^ min a0_0.toNat 64)) = ji15 := by have h_ := hji15_;rw [Int.one_mul] at h_;exact h_
       have hji15v : a0_0 ≤ 64 → (IntKind.i64.wrap (2 ^ a0_0.toNat)) = ji15 := fun hle_ => by have h_ := hji15z hle_;rw [Int.one_mul] at h_;exact h_
       have hji15y : (wrap64 (1 * 2 ^ min a0_0.toNat 64)) = ji15 := (i64_w _).symm.trans hji15_
       have hji15x : a0_0 ≤ 64 → (wrap64 (1 * 2 ^ a0_0.toNat)) = ji15 := fun h_ => (i64_w _).symm.trans (hji15z h_)
       by_cases c16 : x6_2 < (ji15)
       ·rw [if_pos c16] at H
        have c16b0 : decide (x6_2 < (ji15)) = true := decide_eq_true c16
        clear c16
        by_cases c17 : 0 ≤ x6_2
        ·rw [if_pos c17] at H
         have c17b0 := eq_true c17
         have c17b1 : decide (0 ≤ x6_2) = true := decide_eq_true c17
         clear c17
         obtain ⟨ji18,hji18⟩ : ∃ j_ : Int,(shr .i64 a0_1 x6_2) = j_ := ⟨_,rfl⟩
         replace H : (if 0 ≤ a1 then (if 0 ≤ (Go.bits .xor .i64 x6_2 (shl .i64 1 a1)) then (spec_InfluenceOf.l0 k2 a1 (wrap64 (x5_2 + (Go.bits .and .i64 (Go.bits .xor .i64 (ji18) (shr .i64 a0_1 (Go.bits .xor .i64 x6_2 (shl .i64 1 a1)))) 1))) (wrap64 (x6_2 + 1)) a0_0 a0_1) else (none)) else (none)) = some r := by first | (rw [hji18] at H;exact H) | (simp only [hji18] at H ⊢;exact H)
         have hji18_ : (a0_1 / 2 ^ min x6_2.toNat 64) = ji18 := hji18
         have hji18z : x6_2 ≤ 64 → (a0_1 / 2 ^ x6_2.toNat) = ji18 := shr_small hji18
         by_cases c19 : 0 ≤ a1
         ·rw [if_pos c19] at H
          have c19b0 := eq_true c19
          have c19b1 : decide (0 ≤ a1) = true := decide_eq_true c19
          clear c19
          obtain ⟨ji20,hji20⟩ : ∃ j_ : Int,(shl .i64 1 a1) = j_ := ⟨_,rfl⟩
          replace H : (if 0 ≤ (Go.bits .xor .i64 x6_2 (ji20)) then (spec_InfluenceOf.l0 k2 a1 (wrap64 (x5_2 + (Go.bits .and .i64 (Go.bits .xor .i64 (ji18) (shr .i64 a0_1 (Go.bits .xor .i64 x6_2 (ji20)))) 1))) (wrap64 (x6_2 + 1)) a0_0 a0_1) else (none)) = some r := by first | (rw [hji20] at H;exact H) | (simp only [hji20] at H ⊢;exact H)
          have hji20_ : (IntKind.i64.wrap (1 * 2 ^ min a1.toNat 64)) = ji20 := hji20
          have hji20z : a1 ≤ 64 → (IntKind.i64.wrap (1 * 2 ^ a1.toNat)) = ji20 := shl_small hji20
          have hji20u : (IntKind.i64.wrap (2 ^ min a1.toNat 64)) = ji20 := by have h_ := hji20_;rw [Int.one_mul] at h_;exact h_
          have hji20v : a1 ≤ 64 → (IntKind.i64.wrap (2 ^ a1.toNat)) = ji20 := fun hle_ => by have h_ := hji20z hle_;rw [Int.one_mul] at h_;exact h_
          have hji20y : (wrap64 (1 * 2 ^ min a1.toNat 64)) = ji20 := (i64_w _).symm.trans hji20_
          have hji20x : a1 ≤ 64 → (wrap64 (1 * 2 ^ a1.toNat)) = ji20 := fun h_ => (i64_w _).symm.trans (hji20z h_)
          by_cases c21 : 0 ≤ (Go.bits .xor .i64 x6_2 (ji20))
          ·rw [if_pos c21] at H
           have c21b0 := eq_true c21
           have c21b1 : decide (0 ≤ (Go.bits .xor .i64 x6_2 (ji20))) = true := decide_eq_true c21
           clear c21
           obtain ⟨ji22,hji22⟩ : ∃ j_ : Int,(shr .i64 a0_1 (Go.bits .xor .i64 x6_2 (ji20))) = j_ := ⟨_,rfl⟩
           replace H : (spec_InfluenceOf.l0 k2 a1 (wrap64 (x5_2 + (Go.bits .and .i64 (Go.bits .xor .i64 (ji18) (ji22)) 1))) (wrap64 (x6_2 + 1)) a0_0 a0_1) = some r := by first | (rw [hji22] at H;exact H) | (simp only [hji22] at H ⊢;exact H)
           have hji22_ : (a0_1 / 2 ^ min (Go.bits .xor .i64 x6_2 (ji20)).toNat 64) = ji22 := hji22
           have hji22z : (Go.bits .xor .i64 x6_2 (ji20)) ≤ 64 → (a0_1 / 2 ^ (Go.bits .xor .i64 x6_2 (ji20)).toNat) = ji22 := shr_small hji22
           have H' := aZ_ H
           clear H
           have hcz23_0 : wr.cell? ⟨gb101,0,none⟩ = some (.int .i64 a0_0) := (blk_cell BK101.out 0).trans rfl
           have hcz23_1 : wr.cell? ⟨gb101,1,none⟩ = some (.int .i64 a0_1) := (blk_cell BK101.out 1).trans rfl
           have hfz23_0 := blk_frozen BK101.out 0
           have hfz23_1 := blk_frozen BK101.out 1
           go_wp2
           repeat (go_quiet (fail);try go_wp2)
           go_roundg k2
           case measure => have := HJ2.out;have := HK2.out;omega
           case rel => exact ⟨(wrap64 (x5_2 + (Go.bits .and .i64 (Go.bits .xor .i64 (ji18) (ji22)) 1))),(wrap64 (x6_2 + 1)),(by first | rfl | (simp;done) | (simp only [← hji18,← hji22] <;> (first | rfl | simp)) | (simp [*];done)),T6_,H',⟨by have := HJ2.out;have := HK2.out;omega⟩,⟨by (with_reducible repeat (first | refine blk_drewN ?_ _ | refine blk_drew ?_ | refine blk_alloc ?_ _));exact BK101.out⟩,⟨by repeat (first | (with_reducible first | exact HB.out | apply below_alloc | apply pw_below_drewN | apply below_drew1 | refine below_set ?_ GE101.out) | exact HB.out)⟩⟩
          ·rw [if_neg c21] at H
           exact absurd H T40_
         ·rw [if_neg c19] at H
          exact absurd H T40_
        ·rw [if_neg c17] at H
         exact absurd H T40_
       ·rw [if_neg c16] at H
        have c16b0 : decide (x6_2 < (ji15)) = false := decide_eq_false c16
        clear c16
        obtain rfl := Option.some.inj H
        have hcz24_0 : wr.cell? ⟨gb101,0,none⟩ = some (.int .i64 a0_0) := (blk_cell BK101.out 0).trans rfl
        have hcz24_1 : wr.cell? ⟨gb101,1,none⟩ = some (.int .i64 a0_1) := (blk_cell BK101.out 1).trans rfl
        have hfz24_0 := blk_frozen BK101.out 0
        have hfz24_1 := blk_frozen BK101.out 1
        go_wp2
        repeat (go_quiet (fail);try go_wp2)
        go_ret
        exact ⟨by first | rfl | (simp [errW_none,errW_some] <;> rfl) | (simp only [← hji15];first | rfl | (simp [errW_none,errW_some] <;> rfl)) | (simp [*,errW_none,errW_some] <;> rfl),by repeat (first | (with_reducible first | exact HB.out | apply below_alloc | apply pw_below_drewN | apply below_drew1 | refine below_set ?_ GE101.out) | exact HB.out)⟩
      ·rw [if_neg c14] at H
       exact absurd H T40_
def spec_BanzhafNumbers.l0 : Nat → List Int → Int → Int → Int → Option (List Int)
 | 0,_,_,_,_ => none
 | k + 1,x3,x4,x102000,x102001 => (spec_IsSimpleGame.f k x102000 x102001).bind fun t105 => (if t105 = true then (if x4 < x102000 then ((spec_InfluenceOf.f k x102000 x102001 x4).bind fun t106 => (if x3.length < 17592186044416 then (spec_BanzhafNumbers.l0 k (x3 ++ [wrap64 (Int.tdiv t106 2)]) (wrap64 (x4 + 1)) x102000 x102001) else (none))) else (some x3)) else (some x3))
def spec_BanzhafNumbers.f (k : Nat) (a0_0 : Int) (a0_1 : Int) : Option (List Int) := spec_BanzhafNumbers.l0 k (([] : List Int)) 0 a0_0 a0_1
set_option maxHeartbeats 8000000 in
set_option maxRecDepth 100000 in
theorem spec_BanzhafNumbers.calls (k : Nat) (a0_0 : Int) (a0_1 : Int) (r : List Int) (w : World) (h : spec_BanzhafNumbers.f k a0_0 a0_1 = some r) :
  Calls Try.prog 13 #[.agg #[.int .i64 a0_0,.int .i64 a0_1]] w fun e w' => ∃ v0_ : Value,e = .returned (v0_) ∧ Kd.R (Kd.int .i64) 3 w' w.heap.size (fun _ => True) v0_ r ∧ Below w.heap.size w w' := by
 have hu25 := Try.underlying25
 have HB := aZ_ (Below.refl w.heap.size w)
 have H : (spec_BanzhafNumbers.l0 k (([] : List Int)) 0 a0_0 a0_1) = some r := h
 clear h
 obtain ⟨y102,hy102⟩ : ∃ y_ : List Int,y_ = (([] : List Int)) := ⟨_,rfl⟩
 replace H : (spec_BanzhafNumbers.l0 k y102 0 a0_0 a0_1) = some r := by first | (rw [hy102];with_reducible exact H) | (have H2_ := (Option.bind_some _ _).symm.trans H;rw [hy102];with_reducible exact H2_) | (have H2_ := (Option.bind_some _ _).symm.trans H;with_reducible exact H2_) | with_reducible exact H | (rw [hy102];exact H) | exact H
 have Ny102 := aZ_ hy102
 clear hy102
 have H' := aZ_ H
 clear H
 go_enter Try.func13,Try.ntmps13
 go_wp2_with (first | ((with_reducible refine gate_dst (N := 1) rfl ?_);refine box_event ?hg (N := 1) ?hd (cs := #[.int .i64 a0_0,.int .i64 a0_1]) (t := 25) ?hr ?_;(case hd => rfl);(case hg => rfl);(case hr => first | (go_simp;done) | (go_simp;rfl));intro gb101 hg w2 hbox hb;have n0_ := aZ_ (below_step T5_ hb);have n1_ := aZ_ (hbox);have n2_ := aZ_ ((T3_ : w.heap.size ≤ gb101));have n3_ := aZ_ ((T3_ : w.heap.size ≤ gb101));clear HB;have HB := n0_;have BK101 := n1_;have GW101 := n2_;have GE101 := n3_;clear n0_ n1_ n2_ n3_;clear hb hbox hg) | ((with_reducible refine gate_dst (N := 5) rfl ?_);refine Kd.R_lit (Kd.int .i64) _ 3 ?hg (N := 5) ?hd (xs := ([] : List Int)) (inner := []) (ok := fun _ => True) (okp := fun _ => True) ?hr ?hp (fun _ hk => hk) trivial (Below.refl _ _) (Nat.le_refl _) T40_ ?_;(case hd => rfl);(case hg => rfl);(case hr => first | (go_simp;done) | (go_simp;rfl));(case hp => exact (Reps.none _ _));intro v103 w3 ho4 hb hg_ hnew_;clear hg_ hnew_;(first | rw [← Ny102.out] at ho4 | (simp only [Int.reduceToNat] at ho4;rw [← Ny102.out] at ho4));have n0_ := aZ_ (Kd.R_lower ho4 (below_size T1_));have n1_ := aZ_ (blk_below (g := gb101) (o := .cells #[.int .i64 a0_0,.int .i64 a0_1] 25 (0,0)) T2_ hb);have n2_ := aZ_ (below_step T1_ hb);clear BK101;clear HB;have HO104 := n0_;have BK101 := n1_;have HB := n2_;clear n0_ n1_ n2_;clear hb ho4))
 go_loopg [3,4] k (fun kq v3 v4 w' => ∃ (x3_1 : List Int) (x4_1 : Int),v4 = .int .i64 x4_1 ∧ Aside0 (spec_BanzhafNumbers.l0 kq x3_1 x4_1 a0_0 a0_1 = some r) ∧ Aside0 (kq ≤ k) ∧ Aside0 (Kd.R (Kd.int .i64) 3 w' w.heap.size (fun _ => True) v3 x3_1) ∧ Aside0 (w'.heap[gb101]? = some (.cells #[.int .i64 a0_0,.int .i64 a0_1] 25 (0,0))) ∧ Aside0 (Below w.heap.size w w'))
 case atStart => exact ⟨(y102),(0),T6_,H',⟨Nat.le_refl _⟩,⟨by (with_reducible repeat (first | apply Kd.R_alloc | apply Kd.R_drewN | apply Kd.R_drew));exact HO104.out⟩,⟨by (with_reducible repeat (first | refine blk_drewN ?_ _ | refine blk_drew ?_ | refine blk_alloc ?_ _));exact BK101.out⟩,⟨by repeat (first | (with_reducible first | exact HB.out | apply below_alloc | apply pw_below_drewN | apply below_drew1 | refine below_set ?_ GE101.out) | exact HB.out)⟩⟩
 case round =>
  clear H'
  try clear c1
  try clear p2
  obtain ⟨x3_1,x4_1,rfl,HA,HK1,HO_3,BK101,HB⟩ := hrel
  cases gk with
  | zero => exact absurd HA.out (by simp [spec_BanzhafNumbers.l0])
  | succ k1 =>
   have H := HA.out
   clear HA
   simp only [spec_BanzhafNumbers.l0] at H
   replace H := Option.bind_eq_some_iff.mp H
   obtain ⟨t105,A50,H⟩ := H
   replace H : (if t105 = true then (if x4_1 < a0_0 then ((spec_InfluenceOf.f k1 a0_0 a0_1 x4_1).bind fun t106 => (if x3_1.length < 17592186044416 then (spec_BanzhafNumbers.l0 k1 (x3_1 ++ [wrap64 (Int.tdiv t106 2)]) (wrap64 (x4_1 + 1)) a0_0 a0_1) else (none))) else (some x3_1)) else (some x3_1)) = some r := H
   have A5 := aZ_ A50
   clear A50
   by_cases c6 : t105 = true
   ·subst c6
    have H1 : (if x4_1 < a0_0 then ((spec_InfluenceOf.f k1 a0_0 a0_1 x4_1).bind fun t106 => (if x3_1.length < 17592186044416 then (spec_BanzhafNumbers.l0 k1 (x3_1 ++ [wrap64 (Int.tdiv t106 2)]) (wrap64 (x4_1 + 1)) a0_0 a0_1) else (none))) else (some x3_1)) = some r := by rw [if_pos rfl] at H;exact H
    clear H
    have H := H1
    clear H1
    by_cases c7 : x4_1 < a0_0
    ·rw [if_pos c7] at H
     have c7b0 : decide (x4_1 < a0_0) = true := decide_eq_true c7
     clear c7
     replace H := Option.bind_eq_some_iff.mp H
     obtain ⟨t106,A80,H⟩ := H
     replace H : (if x3_1.length < 17592186044416 then (spec_BanzhafNumbers.l0 k1 (x3_1 ++ [wrap64 (Int.tdiv t106 2)]) (wrap64 (x4_1 + 1)) a0_0 a0_1) else (none)) = some r := H
     have A8 := aZ_ A80
     clear A80
     by_cases c9 : x3_1.length < 17592186044416
     ·rw [if_pos c9] at H
      have LMc9 := aZ_ c9
      clear c9
      obtain ⟨y107,hy107⟩ : ∃ y_ : List Int,y_ = (x3_1 ++ [wrap64 (Int.tdiv t106 2)]) := ⟨_,rfl⟩
      replace H : (spec_BanzhafNumbers.l0 k1 y107 (wrap64 (x4_1 + 1)) a0_0 a0_1) = some r := by first | (rw [hy107];with_reducible exact H) | (have H2_ := (Option.bind_some _ _).symm.trans H;rw [hy107];with_reducible exact H2_) | (have H2_ := (Option.bind_some _ _).symm.trans H;with_reducible exact H2_) | with_reducible exact H | (rw [hy107];exact H) | exact H
      have Ny107 := aZ_ hy107
      clear hy107
      have H' := aZ_ H
      clear H
      have hcz10_0 : wr.cell? ⟨gb101,0,none⟩ = some (.int .i64 a0_0) := (blk_cell BK101.out 0).trans rfl
      have hcz10_1 : wr.cell? ⟨gb101,1,none⟩ = some (.int .i64 a0_1) := (blk_cell BK101.out 1).trans rfl
      have hfz10_0 := blk_frozen BK101.out 0
      have hfz10_1 := blk_frozen BK101.out 1
      go_wp2_with (first | ((with_reducible refine gate_callee (f := 16) rfl ?_);refine goesL_ (some 7) rfl rfl Try.func16 T12_ rfl #[.agg #[.int .i64 a0_0,.int .i64 a0_1]] rfl T4_ ?_;(with_reducible refine (spec_IsSimpleGame.calls k1 a0_0 a0_1 true _ A5.out).mono ?_);rintro e w11 ⟨rfl,hb⟩;refine ⟨_,rfl,?_⟩;have n0_ := aZ_ (Kd.R_below T17_ hb);have n1_ := aZ_ (blk_below (g := gb101) (o := .cells #[.int .i64 a0_0,.int .i64 a0_1] 25 (0,0)) T2_ hb);have n2_ := aZ_ (below_step T1_ hb);clear HO_3;clear BK101;clear HB;have HO_3 := n0_;have BK101 := n1_;have HB := n2_;clear n0_ n1_ n2_;(try clear hb);(try clear hb2);(try clear hk);(try clear hi);have hcz12_0 : w11.cell? ⟨gb101,0,none⟩ = some (.int .i64 a0_0) := (blk_cell BK101.out 0).trans rfl;have hcz12_1 : w11.cell? ⟨gb101,1,none⟩ = some (.int .i64 a0_1) := (blk_cell BK101.out 1).trans rfl;have hfz12_0 := blk_frozen BK101.out 0;have hfz12_1 := blk_frozen BK101.out 1) | ((with_reducible refine gate_callee (f := 39) rfl ?_);refine goesL_ (some 19) rfl rfl Try.func39 T12_ rfl #[.agg #[.int .i64 a0_0,.int .i64 a0_1],.int .i64 x4_1] rfl T4_ ?_;(with_reducible refine (spec_InfluenceOf.calls k1 a0_0 a0_1 x4_1 t106 _ A8.out).mono ?_);rintro e w13 ⟨rfl,hb⟩;refine ⟨_,rfl,?_⟩;have n0_ := aZ_ (Kd.R_below T17_ hb);have n1_ := aZ_ (blk_below (g := gb101) (o := .cells #[.int .i64 a0_0,.int .i64 a0_1] 25 (0,0)) T2_ hb);have n2_ := aZ_ (below_step T1_ hb);clear HO_3;clear BK101;clear HB;have HO_3 := n0_;have BK101 := n1_;have HB := n2_;clear n0_ n1_ n2_;(try clear hb);(try clear hb2);(try clear hk);(try clear hi)) | ((with_reducible refine gate_builtin (b := .append) (xs := #[.tmp 16,.tmp 21]) rfl ?_);at_builtin;refine Kd.R_append (Kd.int .i64) (w0 := w) w.heap.size rfl (.tmp 16) (.tmp 21) 27 3 (.int .i64 0) 8 rfl Try.underlying27 info3 rfl T35_ T50_ u3 x3_1 (wrap64 (Int.tdiv t106 2)) [.int .i64 (wrap64 (Int.tdiv t106 2))] (fun _ => True) (fun _ => False) rfl rfl ?aP (fun _ hk => hk.elim) ?aF ?aO ?aB ?aS ?aL ?_;(case aP => exact rfl);(case aB => exact T1_);(case aF => exact (fun _ _ => trivial));(case aO => exact T17_);(case aS => exact (below_size T1_));(case aL => have := LMc9.out;omega);intro v108 w14 ho hb hg hat;rw [← Ny107.out] at ho;have n0_ := aZ_ (blk_grown (g := gb101) (o := .cells #[.int .i64 a0_0,.int .i64 a0_1] 25 (0,0)) T2_ hg (Kd.R_ne HO_3.out BK101.out T35_));have n1_ := aZ_ (hb);have n2_ := aZ_ (ho);clear BK101;clear HB;clear HO_3;have BK101 := n0_;have HB := n1_;have HO109 := n2_;clear n0_ n1_ n2_;clear ho hb hg hat))
      go_roundg k1
      case measure => have := HK1.out;omega
      case rel => exact ⟨(y107),(wrap64 (x4_1 + 1)),T6_,H',⟨by have := HK1.out;omega⟩,⟨by (with_reducible repeat (first | apply Kd.R_alloc | apply Kd.R_drewN | apply Kd.R_drew));exact HO109.out⟩,⟨by (with_reducible repeat (first | refine blk_drewN ?_ _ | refine blk_drew ?_ | refine blk_alloc ?_ _));exact BK101.out⟩,⟨by repeat (first | (with_reducible first | exact HB.out | apply below_alloc | apply pw_below_drewN | apply below_drew1 | refine below_set ?_ GE101.out) | exact HB.out)⟩⟩
     ·rw [if_neg c9] at H
      exact absurd H T40_
    ·rw [if_neg c7] at H
     have c7b0 : decide (x4_1 < a0_0) = false := decide_eq_false c7
     clear c7
     obtain rfl := Option.some.inj H
     have hcz15_0 : wr.cell? ⟨gb101,0,none⟩ = some (.int .i64 a0_0) := (blk_cell BK101.out 0).trans rfl
     have hcz15_1 : wr.cell? ⟨gb101,1,none⟩ = some (.int .i64 a0_1) := (blk_cell BK101.out 1).trans rfl
     have hfz15_0 := blk_frozen BK101.out 0
     have hfz15_1 := blk_frozen BK101.out 1
     go_wp2_with (first | ((with_reducible refine gate_callee (f := 16) rfl ?_);refine goesL_ (some 7) rfl rfl Try.func16 T12_ rfl #[.agg #[.int .i64 a0_0,.int .i64 a0_1]] rfl T4_ ?_;(with_reducible refine (spec_IsSimpleGame.calls k1 a0_0 a0_1 true _ A5.out).mono ?_);rintro e w16 ⟨rfl,hb⟩;refine ⟨_,rfl,?_⟩;have n0_ := aZ_ (Kd.R_below T17_ hb);have n1_ := aZ_ (blk_below (g := gb101) (o := .cells #[.int .i64 a0_0,.int .i64 a0_1] 25 (0,0)) T2_ hb);have n2_ := aZ_ (below_step T1_ hb);clear HO_3;clear BK101;clear HB;have HO_3 := n0_;have BK101 := n1_;have HB := n2_;clear n0_ n1_ n2_;(try clear hb);(try clear hb2);(try clear hk);(try clear hi);have hcz17_0 : w16.cell? ⟨gb101,0,none⟩ = some (.int .i64 a0_0) := (blk_cell BK101.out 0).trans rfl;have hcz17_1 : w16.cell? ⟨gb101,1,none⟩ = some (.int .i64 a0_1) := (blk_cell BK101.out 1).trans rfl;have hfz17_0 := blk_frozen BK101.out 0;have hfz17_1 := blk_frozen BK101.out 1))
     go_ret
     exact ⟨_,by first | rfl | (simp [errW_none,errW_some] <;> rfl) | (simp [*,errW_none,errW_some] <;> rfl),by (with_reducible repeat (first | apply Kd.R_alloc | apply Kd.R_drewN | apply Kd.R_drew));exact HO_3.out,by repeat (first | (with_reducible first | exact HB.out | apply below_alloc | apply pw_below_drewN | apply below_drew1 | refine below_set ?_ GE101.out) | exact HB.out)⟩
   ·replace c6 := Bool.eq_false_iff.mpr c6
    subst c6
    have H1 : (some x3_1) = some r := by rw [if_neg (show ¬ (false = true) by decide)] at H;exact H
    clear H
    have H := H1
    clear H1
    obtain rfl := Option.some.inj H
    have hcz18_0 : wr.cell? ⟨gb101,0,none⟩ = some (.int .i64 a0_0) := (blk_cell BK101.out 0).trans rfl
    have hcz18_1 : wr.cell? ⟨gb101,1,none⟩ = some (.int .i64 a0_1) := (blk_cell BK101.out 1).trans rfl
    have hfz18_0 := blk_frozen BK101.out 0
    have hfz18_1 := blk_frozen BK101.out 1
    go_wp2_with (first | ((with_reducible refine gate_callee (f := 16) rfl ?_);refine goesL_ (some 7) rfl rfl Try.func16 T12_ rfl #[.agg #[.int .i64 a0_0,.int .i64 a0_1]] rfl T4_ ?_;(with_reducible refine (spec_IsSimpleGame.calls k1 a0_0 a0_1 false _ A5.out).mono ?_);rintro e w19 ⟨rfl,hb⟩;refine ⟨_,rfl,?_⟩;have n0_ := aZ_ (Kd.R_below T17_ hb);have n1_ := aZ_ (blk_below (g := gb101) (o := .cells #[.int .i64 a0_0,.int .i64 a0_1] 25 (0,0)) T2_ hb);have n2_ := aZ_ (below_step T1_ hb);clear HO_3;clear BK101;clear HB;have HO_3 := n0_;have BK101 := n1_;have HB := n2_;clear n0_ n1_ n2_;(try clear hb);(try clear hb2);(try clear hk);(try clear hi)))
    go_ret
    exact ⟨_,by first | rfl | (simp [errW_none,errW_some] <;> rfl) | (simp [*,errW_none,errW_some] <;> rfl),by (with_reducible repeat (first | apply Kd.R_alloc | apply Kd.R_drewN | apply Kd.R_drew));exact HO_3.out,by repeat (first | (with_reducible first | exact HB.out | apply below_alloc | apply pw_below_drewN | apply below_drew1 | refine below_set ?_ GE101.out) | exact HB.out)⟩
mutual
def spec_VetoPlayers.l0 : Nat → List Int → Int → Int → Int → Option (List Int)
 | 0,_,_,_,_ => none
 | k + 1,x3,x4,x102000,x102001 => (spec_IsSimpleGame.f k x102000 x102001).bind fun t105 => (if t105 = true then (spec_VetoPlayers.j1 k x3 x4 (decide (x4 < x102000)) x102000 x102001) else (spec_VetoPlayers.j1 k x3 x4 false x102000 x102001))
def spec_VetoPlayers.j1 : Nat → List Int → Int → Bool → Int → Int → Option (List Int)
 | 0,_,_,_,_,_ => none
 | k + 1,x3,x4,x13,x102000,x102001 => if x13 = true then ((spec_l2Variable.f k x102000 x4).bind fun t106 => (if (Go.bits .and .i64 x102001 t106) = x102001 then (if x3.length < 17592186044416 then (spec_VetoPlayers.l0 k (x3 ++ [x4]) (wrap64 (x4 + 1)) x102000 x102001) else (none)) else (spec_VetoPlayers.l0 k x3 (wrap64 (x4 + 1)) x102000 x102001))) else (some x3)
end
def spec_VetoPlayers.f (k : Nat) (a0_0 : Int) (a0_1 : Int) : Option (List Int) := spec_VetoPlayers.l0 k (([] : List Int)) 0 a0_0 a0_1
def spec_VetoPlayers.T5 : Bool × List (List Nat × List Nat) := (true,[([],[]),([0],[0]),([],[]),([2],[2]),([],[]),([3,4],[3,4]),([1,5],[1,5]),([],[]),([7],[7]),([6,8],[6,8])])
def spec_VetoPlayers.B5 : List Nat := [0,1,0,4,0,28,63,0,128,511]
theorem spec_VetoPlayers.tab5 : rtab .any (opsOf Try.f14 5) = spec_VetoPlayers.T5 := by kernel_rfl
theorem spec_VetoPlayers.bits5 : waitsOk spec_VetoPlayers.T5.2 spec_VetoPlayers.B5 = true := by kernel_rfl
set_option maxHeartbeats 8000000 in
set_option maxRecDepth 100000 in
theorem spec_VetoPlayers.calls (k : Nat) (a0_0 : Int) (a0_1 : Int) (r : List Int) (w : World) (h : spec_VetoPlayers.f k a0_0 a0_1 = some r) :
  Calls Try.prog 14 #[.agg #[.int .i64 a0_0,.int .i64 a0_1]] w fun e w' => ∃ v0_ : Value,e = .returned (v0_) ∧ Kd.R (Kd.int .i64) 3 w' w.heap.size (fun _ => True) v0_ r ∧ Below w.heap.size w w' := by
 have hu25 := Try.underlying25
 have HB := aZ_ (Below.refl w.heap.size w)
 have H : (spec_VetoPlayers.l0 k (([] : List Int)) 0 a0_0 a0_1) = some r := h
 clear h
 obtain ⟨y102,hy102⟩ : ∃ y_ : List Int,y_ = (([] : List Int)) := ⟨_,rfl⟩
 replace H : (spec_VetoPlayers.l0 k y102 0 a0_0 a0_1) = some r := by first | (rw [hy102];with_reducible exact H) | (have H2_ := (Option.bind_some _ _).symm.trans H;rw [hy102];with_reducible exact H2_) | (have H2_ := (Option.bind_some _ _).symm.trans H;with_reducible exact H2_) | with_reducible exact H | (rw [hy102];exact H) | exact H
 have Ny102 := aZ_ hy102
 clear hy102
 have H' := aZ_ H
 clear H
 go_enter Try.func14,Try.ntmps14
 go_wp2_with (first | ((with_reducible refine gate_dst (N := 1) rfl ?_);refine box_event ?hg (N := 1) ?hd (cs := #[.int .i64 a0_0,.int .i64 a0_1]) (t := 25) ?hr ?_;(case hd => rfl);(case hg => rfl);(case hr => first | (go_simp;done) | (go_simp;rfl));intro gb101 hg w2 hbox hb;have n0_ := aZ_ (below_step T5_ hb);have n1_ := aZ_ (hbox);have n2_ := aZ_ ((T3_ : w.heap.size ≤ gb101));have n3_ := aZ_ ((T3_ : w.heap.size ≤ gb101));clear HB;have HB := n0_;have BK101 := n1_;have GW101 := n2_;have GE101 := n3_;clear n0_ n1_ n2_ n3_;clear hb hbox hg) | ((with_reducible refine gate_dst (N := 5) rfl ?_);refine Kd.R_lit (Kd.int .i64) _ 3 ?hg (N := 5) ?hd (xs := ([] : List Int)) (inner := []) (ok := fun _ => True) (okp := fun _ => True) ?hr ?hp (fun _ hk => hk) trivial (Below.refl _ _) (Nat.le_refl _) T40_ ?_;(case hd => rfl);(case hg => rfl);(case hr => first | (go_simp;done) | (go_simp;rfl));(case hp => exact (Reps.none _ _));intro v103 w3 ho4 hb hg_ hnew_;clear hg_ hnew_;(first | rw [← Ny102.out] at ho4 | (simp only [Int.reduceToNat] at ho4;rw [← Ny102.out] at ho4));have n0_ := aZ_ (Kd.R_lower ho4 (below_size T1_));have n1_ := aZ_ (blk_below (g := gb101) (o := .cells #[.int .i64 a0_0,.int .i64 a0_1] 25 (0,0)) T2_ hb);have n2_ := aZ_ (below_step T1_ hb);clear BK101;clear HB;have HO104 := n0_;have BK101 := n1_;have HB := n2_;clear n0_ n1_ n2_;clear hb ho4))
 go_loopg [3,4] k (fun kq v3 v4 w' => ∃ (x3_1 : List Int) (x4_1 : Int),v4 = .int .i64 x4_1 ∧ Aside0 (spec_VetoPlayers.l0 kq x3_1 x4_1 a0_0 a0_1 = some r) ∧ Aside0 (kq ≤ k) ∧ Aside0 (Kd.R (Kd.int .i64) 3 w' w.heap.size (fun _ => True) v3 x3_1) ∧ Aside0 (w'.heap[gb101]? = some (.cells #[.int .i64 a0_0,.int .i64 a0_1] 25 (0,0))) ∧ Aside0 (Below w.heap.size w w'))
 case atStart => exact ⟨(y102),(0),T6_,H',⟨Nat.le_refl _⟩,⟨by (with_reducible repeat (first | apply Kd.R_alloc | apply Kd.R_drewN | apply Kd.R_drew));exact HO104.out⟩,⟨by (with_reducible repeat (first | refine blk_drewN ?_ _ | refine blk_drew ?_ | refine blk_alloc ?_ _));exact BK101.out⟩,⟨by repeat (first | (with_reducible first | exact HB.out | apply below_alloc | apply pw_below_drewN | apply below_drew1 | refine below_set ?_ GE101.out) | exact HB.out)⟩⟩
 case round =>
  clear H'
  try clear c1
  try clear p2
  obtain ⟨x3_1,x4_1,rfl,HA,HK1,HO_3,BK101,HB⟩ := hrel
  cases gk with
  | zero => exact absurd HA.out (by simp [spec_VetoPlayers.l0])
  | succ k1 =>
   have H := HA.out
   clear HA
   simp only [spec_VetoPlayers.l0] at H
   have HC5 := aZ_ H
   clear H
   go_upto_region 3 with (fail)
   go_cut [13] (fun v13 wc => ∃ (kq : Nat) (x13_4 : Bool),v13 = .bool x13_4 ∧ Aside0 (spec_VetoPlayers.j1 kq x3_1 x4_1 x13_4 a0_0 a0_1 = some r) ∧ Aside0 (kq ≤ k1) ∧ Aside0 (Kd.R (Kd.int .i64) 3 wc w.heap.size (fun _ => True) u3 x3_1) ∧ Aside0 (wc.heap[gb101]? = some (.cells #[.int .i64 a0_0,.int .i64 a0_1] 25 (0,0))) ∧ Aside0 (Below w.heap.size w wc))
   case first =>
    have H := HC5.out
    clear HC5
    replace H := Option.bind_eq_some_iff.mp H
    obtain ⟨t105,A60,H⟩ := H
    replace H : (if t105 = true then (spec_VetoPlayers.j1 k1 x3_1 x4_1 (decide (x4_1 < a0_0)) a0_0 a0_1) else (spec_VetoPlayers.j1 k1 x3_1 x4_1 false a0_0 a0_1)) = some r := H
    have A6 := aZ_ A60
    clear A60
    by_cases c7 : t105 = true
    ·subst c7
     have H1 : (spec_VetoPlayers.j1 k1 x3_1 x4_1 (decide (x4_1 < a0_0)) a0_0 a0_1) = some r := by rw [if_pos rfl] at H;exact H
     clear H
     have H := H1
     clear H1
     have H' := aZ_ H
     clear H
     have hcz8_0 : wr.cell? ⟨gb101,0,none⟩ = some (.int .i64 a0_0) := (blk_cell BK101.out 0).trans rfl
     have hcz8_1 : wr.cell? ⟨gb101,1,none⟩ = some (.int .i64 a0_1) := (blk_cell BK101.out 1).trans rfl
     have hfz8_0 := blk_frozen BK101.out 0
     have hfz8_1 := blk_frozen BK101.out 1
     go_wp2_with (first | ((with_reducible refine gate_callee (f := 16) rfl ?_);refine goesL_ (some 7) rfl rfl Try.func16 T12_ rfl #[.agg #[.int .i64 a0_0,.int .i64 a0_1]] rfl T4_ ?_;(with_reducible refine (spec_IsSimpleGame.calls k1 a0_0 a0_1 true _ A6.out).mono ?_);rintro e w9 ⟨rfl,hb⟩;refine ⟨_,rfl,?_⟩;have n0_ := aZ_ (Kd.R_below T17_ hb);have n1_ := aZ_ (blk_below (g := gb101) (o := .cells #[.int .i64 a0_0,.int .i64 a0_1] 25 (0,0)) T2_ hb);have n2_ := aZ_ (below_step T1_ hb);clear HO_3;clear BK101;clear HB;have HO_3 := n0_;have BK101 := n1_;have HB := n2_;clear n0_ n1_ n2_;(try clear hb);(try clear hb2);(try clear hk);(try clear hi);have hcz10_0 : w9.cell? ⟨gb101,0,none⟩ = some (.int .i64 a0_0) := (blk_cell BK101.out 0).trans rfl;have hcz10_1 : w9.cell? ⟨gb101,1,none⟩ = some (.int .i64 a0_1) := (blk_cell BK101.out 1).trans rfl;have hfz10_0 := blk_frozen BK101.out 0;have hfz10_1 := blk_frozen BK101.out 1))
     go_meet
     case rel => exact ⟨_,(decide (x4_1 < a0_0)),T6_,H',⟨by have := HK1.out;first | omega | exact Nat.le_refl _⟩,⟨by (with_reducible repeat (first | apply Kd.R_alloc | apply Kd.R_drewN | apply Kd.R_drew));exact HO_3.out⟩,⟨by (with_reducible repeat (first | refine blk_drewN ?_ _ | refine blk_drew ?_ | refine blk_alloc ?_ _));exact BK101.out⟩,⟨by repeat (first | (with_reducible first | exact HB.out | apply below_alloc | apply pw_below_drewN | apply below_drew1 | refine below_set ?_ GE101.out) | exact HB.out)⟩⟩
    ·replace c7 := Bool.eq_false_iff.mpr c7
     subst c7
     have H1 : (spec_VetoPlayers.j1 k1 x3_1 x4_1 false a0_0 a0_1) = some r := by rw [if_neg (show ¬ (false = true) by decide)] at H;exact H
     clear H
     have H := H1
     clear H1
     have H' := aZ_ H
     clear H
     have hcz11_0 : wr.cell? ⟨gb101,0,none⟩ = some (.int .i64 a0_0) := (blk_cell BK101.out 0).trans rfl
     have hcz11_1 : wr.cell? ⟨gb101,1,none⟩ = some (.int .i64 a0_1) := (blk_cell BK101.out 1).trans rfl
     have hfz11_0 := blk_frozen BK101.out 0
     have hfz11_1 := blk_frozen BK101.out 1
     go_wp2_with (first | ((with_reducible refine gate_callee (f := 16) rfl ?_);refine goesL_ (some 7) rfl rfl Try.func16 T12_ rfl #[.agg #[.int .i64 a0_0,.int .i64 a0_1]] rfl T4_ ?_;(with_reducible refine (spec_IsSimpleGame.calls k1 a0_0 a0_1 false _ A6.out).mono ?_);rintro e w12 ⟨rfl,hb⟩;refine ⟨_,rfl,?_⟩;have n0_ := aZ_ (Kd.R_below T17_ hb);have n1_ := aZ_ (blk_below (g := gb101) (o := .cells #[.int .i64 a0_0,.int .i64 a0_1] 25 (0,0)) T2_ hb);have n2_ := aZ_ (below_step T1_ hb);clear HO_3;clear BK101;clear HB;have HO_3 := n0_;have BK101 := n1_;have HB := n2_;clear n0_ n1_ n2_;(try clear hb);(try clear hb2);(try clear hk);(try clear hi)))
     go_meet
     case rel => exact ⟨_,(false),T6_,H',⟨by have := HK1.out;first | omega | exact Nat.le_refl _⟩,⟨by (with_reducible repeat (first | apply Kd.R_alloc | apply Kd.R_drewN | apply Kd.R_drew));exact HO_3.out⟩,⟨by (with_reducible repeat (first | refine blk_drewN ?_ _ | refine blk_drew ?_ | refine blk_alloc ?_ _));exact BK101.out⟩,⟨by repeat (first | (with_reducible first | exact HB.out | apply below_alloc | apply pw_below_drewN | apply below_drew1 | refine below_set ?_ GE101.out) | exact HB.out)⟩⟩
   case rest =>
    clear HC5
    try clear c1
    try clear p2
    try clear c7
    try clear hcz10_0
    try clear hcz10_1
    try clear hcz11_0
    try clear hcz11_1
    try clear hcz8_0
    try clear hcz8_1
    try clear hfz10_0
    try clear hfz10_1
    try clear hfz11_0
    try clear hfz11_1
    try clear hfz8_0
    try clear hfz8_1
    try clear p2
    obtain ⟨kq,x13_4,rfl,HA,HJ4,HO_3,BK101,HB⟩ := hcut
    cases kq with
    | zero => exact absurd HA.out (by simp [spec_VetoPlayers.j1])
    | succ kj4 =>
     have H := HA.out
     clear HA
     simp only [spec_VetoPlayers.j1] at H
     by_cases c13 : x13_4 = true
     ·subst c13
      have H1 : ((spec_l2Variable.f kj4 a0_0 x4_1).bind fun t106 => (if (Go.bits .and .i64 a0_1 t106) = a0_1 then (if x3_1.length < 17592186044416 then (spec_VetoPlayers.l0 kj4 (x3_1 ++ [x4_1]) (wrap64 (x4_1 + 1)) a0_0 a0_1) else (none)) else (spec_VetoPlayers.l0 kj4 x3_1 (wrap64 (x4_1 + 1)) a0_0 a0_1))) = some r := by rw [if_pos rfl] at H;exact H
      clear H
      have H := H1
      clear H1
      replace H := Option.bind_eq_some_iff.mp H
      obtain ⟨t106,A140,H⟩ := H
      replace H : (if (Go.bits .and .i64 a0_1 t106) = a0_1 then (if x3_1.length < 17592186044416 then (spec_VetoPlayers.l0 kj4 (x3_1 ++ [x4_1]) (wrap64 (x4_1 + 1)) a0_0 a0_1) else (none)) else (spec_VetoPlayers.l0 kj4 x3_1 (wrap64 (x4_1 + 1)) a0_0 a0_1)) = some r := H
      have A14 := aZ_ A140
      clear A140
      by_cases c15 : (Go.bits .and .i64 a0_1 t106) = a0_1
      ·rw [if_pos c15] at H
       have c15b0 : ((Go.bits .and .i64 a0_1 t106) == a0_1) = true := beq_iff_eq.mpr c15
       have c15b1 : ((Go.bits .and .i64 a0_1 t106) != a0_1) = false := bne_eq_false_iff_eq.mpr c15
       clear c15
       by_cases c16 : x3_1.length < 17592186044416
       ·rw [if_pos c16] at H
        have LMc16 := aZ_ c16
        clear c16
        obtain ⟨y107,hy107⟩ : ∃ y_ : List Int,y_ = (x3_1 ++ [x4_1]) := ⟨_,rfl⟩
        replace H : (spec_VetoPlayers.l0 kj4 y107 (wrap64 (x4_1 + 1)) a0_0 a0_1) = some r := by first | (rw [hy107];with_reducible exact H) | (have H2_ := (Option.bind_some _ _).symm.trans H;rw [hy107];with_reducible exact H2_) | (have H2_ := (Option.bind_some _ _).symm.trans H;with_reducible exact H2_) | with_reducible exact H | (rw [hy107];exact H) | exact H
        have Ny107 := aZ_ hy107
        clear hy107
        have H' := aZ_ H
        clear H
        try go_wp2
        have n0_ := aZ_ (Kd.R_drew HO_3.out)
        have n1_ := aZ_ (blk_drew BK101.out)
        have n2_ := aZ_ (below_drew1 HB.out)
        clear HO_3
        clear BK101
        clear HB
        have HO_3 := n0_
        have BK101 := n1_
        have HB := n2_
        clear n0_ n1_ n2_
        refine start_ (n := 10) (S := fun w' => w'.cell? ⟨gb101,0,none⟩ = some (.int .i64 a0_0) ∧ w'.cell? ⟨gb101,1,none⟩ = some (.int .i64 a0_1)) (ds := []) #[false,false,false,false,false,false,false,false,false,false] T12_ rfl rfl ⟨(blk_cell BK101.out 0).trans rfl,(blk_cell BK101.out 1).trans rfl⟩ (fun hHeld => ?_);refine with_tabW spec_VetoPlayers.tab5 spec_VetoPlayers.bits5 (fun HT_ HW_ => ?_)
        generalize wc.drew = w17 at HO_3 BK101 HB hHeld ⊢
        refine pZ_ 0 (some 16) #[true,false,false,false,false,false,false,false,false,false] ?_
        refine pZ_ 2 (some 18) #[true,false,true,false,false,false,false,false,false,false] ?_
        refine pZ_ 4 (some 20) #[true,false,true,false,true,false,false,false,false,false] ?_
        refine pZ_ 7 (some 23) #[true,false,true,false,true,false,false,true,false,false] ?_
        refine tZ2_ 1 (some 17) #[true,true,true,false,true,false,false,true,false,false] hHeld ?_
        refine tZ2_ 3 (some 19) #[true,true,true,true,true,false,false,true,false,false] hHeld ?_
        refine tZ2_ 8 (some 24) #[true,true,true,true,true,false,false,true,true,false] hHeld ?_
        refine one_ (i := 5) (N := some 21) #[true,true,true,true,true,true,false,true,true,false] rfl rfl (one_of HT_.out T12_) T35_ (fun K hK => ?_)
        refine gZ_ Try.func40 #[.int .i64 a0_0,.int .i64 x4_1] ?_
        with_reducible refine (spec_l2Variable.calls kj4 a0_0 x4_1 t106 _ A14.out).mono ?_
        rintro e w' ⟨rfl,⟨nd,rfl⟩⟩
        refine ⟨_,rfl,?_⟩
        refine hK.out _ _ ⟨(blk_cell BK101.out 0).trans rfl,(blk_cell BK101.out 1).trans rfl⟩ (fun hHeld => ?_)
        clear hK K
        refine norm_ (a' := ?_) ?_ ?_
        rotate_left
        ·show Act.put _ (some 21) _ = _
         simp only [Act.put,List.setIfInBounds_toArray,List.set_cons_zero,List.set_cons_succ,i64_w,i32_w]
         rfl
        refine pZ_ 6 (some 22) #[true,true,true,true,true,true,true,true,true,false] ?_
        refine pZ_ 9 (some 25) #[true,true,true,true,true,true,true,true,true,true] ?_
        refine done_ (done_of HT_.out T12_) ?_
        try go_wp2_with (first | ((with_reducible refine gate_builtin (b := .append) (xs := #[.tmp 26,.tmp 28]) rfl ?_);at_builtin;refine Kd.R_append (Kd.int .i64) (w0 := w) w.heap.size rfl (.tmp 26) (.tmp 28) 27 3 (.int .i64 0) 8 rfl Try.underlying27 info3 rfl T35_ T50_ u3 x3_1 x4_1 [.int .i64 x4_1] (fun _ => True) (fun _ => False) rfl rfl ?aP (fun _ hk => hk.elim) ?aF ?aO ?aB ?aS ?aL ?_;(case aP => exact rfl);(case aB => exact T1_);(case aF => exact (fun _ _ => trivial));(case aO => exact T17_);(case aS => exact (below_size T1_));(case aL => have := LMc16.out;omega);intro v108 w18 ho hb hg hat;rw [← Ny107.out] at ho;have n0_ := aZ_ (blk_grown (g := gb101) (o := .cells #[.int .i64 a0_0,.int .i64 a0_1] 25 (0,0)) T2_ hg (Kd.R_ne HO_3.out BK101.out T35_));have n1_ := aZ_ (hb);have n2_ := aZ_ (ho);clear BK101;clear HB;clear HO_3;have BK101 := n0_;have HB := n1_;have HO109 := n2_;clear n0_ n1_ n2_;clear ho hb hg hat))
        go_roundg kj4
        case measure => have := HK1.out;have := HJ4.out;omega
        case rel => exact ⟨(y107),(wrap64 (x4_1 + 1)),T6_,H',⟨by have := HK1.out;have := HJ4.out;omega⟩,⟨by (with_reducible repeat (first | apply Kd.R_alloc | apply Kd.R_drewN | apply Kd.R_drew));exact HO109.out⟩,⟨by (with_reducible repeat (first | refine blk_drewN ?_ _ | refine blk_drew ?_ | refine blk_alloc ?_ _));exact BK101.out⟩,⟨by repeat (first | (with_reducible first | exact HB.out | apply below_alloc | apply pw_below_drewN | apply below_drew1 | refine below_set ?_ GE101.out) | exact HB.out)⟩⟩
       ·rw [if_neg c16] at H
        exact absurd H T40_
      ·rw [if_neg c15] at H
       have c15b0 : ((Go.bits .and .i64 a0_1 t106) == a0_1) = false := beq_eq_false_iff_ne.mpr c15
       have c15b1 : ((Go.bits .and .i64 a0_1 t106) != a0_1) = true := bne_iff_ne.mpr c15
       have H' := aZ_ H
       clear H
       try go_wp2
       have n0_ := aZ_ (Kd.R_drew HO_3.out)
       have n1_ := aZ_ (blk_drew BK101.out)
       have n2_ := aZ_ (below_drew1 HB.out)
       clear HO_3
       clear BK101
       clear HB
       have HO_3 := n0_
       have BK101 := n1_
       have HB := n2_
       clear n0_ n1_ n2_
       refine start_ (n := 10) (S := fun w' => w'.cell? ⟨gb101,0,none⟩ = some (.int .i64 a0_0) ∧ w'.cell? ⟨gb101,1,none⟩ = some (.int .i64 a0_1)) (ds := []) #[false,false,false,false,false,false,false,false,false,false] T12_ rfl rfl ⟨(blk_cell BK101.out 0).trans rfl,(blk_cell BK101.out 1).trans rfl⟩ (fun hHeld => ?_);refine with_tabW spec_VetoPlayers.tab5 spec_VetoPlayers.bits5 (fun HT_ HW_ => ?_)
       generalize wc.drew = w19 at HO_3 BK101 HB hHeld ⊢
       refine pZ_ 0 (some 16) #[true,false,false,false,false,false,false,false,false,false] ?_
       refine pZ_ 2 (some 18) #[true,false,true,false,false,false,false,false,false,false] ?_
       refine pZ_ 4 (some 20) #[true,false,true,false,true,false,false,false,false,false] ?_
       refine pZ_ 7 (some 23) #[true,false,true,false,true,false,false,true,false,false] ?_
       refine tZ2_ 1 (some 17) #[true,true,true,false,true,false,false,true,false,false] hHeld ?_
       refine tZ2_ 3 (some 19) #[true,true,true,true,true,false,false,true,false,false] hHeld ?_
       refine tZ2_ 8 (some 24) #[true,true,true,true,true,false,false,true,true,false] hHeld ?_
       refine one_ (i := 5) (N := some 21) #[true,true,true,true,true,true,false,true,true,false] rfl rfl (one_of HT_.out T12_) T35_ (fun K hK => ?_)
       refine gZ_ Try.func40 #[.int .i64 a0_0,.int .i64 x4_1] ?_
       with_reducible refine (spec_l2Variable.calls kj4 a0_0 x4_1 t106 _ A14.out).mono ?_
       rintro e w' ⟨rfl,⟨nd,rfl⟩⟩
       refine ⟨_,rfl,?_⟩
       refine hK.out _ _ ⟨(blk_cell BK101.out 0).trans rfl,(blk_cell BK101.out 1).trans rfl⟩ (fun hHeld => ?_)
       clear hK K
       refine norm_ (a' := ?_) ?_ ?_
       rotate_left
       ·show Act.put _ (some 21) _ = _
        simp only [Act.put,List.setIfInBounds_toArray,List.set_cons_zero,List.set_cons_succ,i64_w,i32_w]
        rfl
       refine pZ_ 6 (some 22) #[true,true,true,true,true,true,true,true,true,false] ?_
       refine pZ_ 9 (some 25) #[true,true,true,true,true,true,true,true,true,true] ?_
       refine done_ (done_of HT_.out T12_) ?_
       try go_wp2
       go_roundg kj4
       case measure => have := HK1.out;have := HJ4.out;omega
       case rel => exact ⟨(x3_1),(wrap64 (x4_1 + 1)),T6_,H',⟨by have := HK1.out;have := HJ4.out;omega⟩,⟨by (with_reducible repeat (first | apply Kd.R_alloc | apply Kd.R_drewN | apply Kd.R_drew));exact HO_3.out⟩,⟨by (with_reducible repeat (first | refine blk_drewN ?_ _ | refine blk_drew ?_ | refine blk_alloc ?_ _));exact BK101.out⟩,⟨by repeat (first | (with_reducible first | exact HB.out | apply below_alloc | apply pw_below_drewN | apply below_drew1 | refine below_set ?_ GE101.out) | exact HB.out)⟩⟩
     ·replace c13 := Bool.eq_false_iff.mpr c13
      subst c13
      have H1 : (some x3_1) = some r := by rw [if_neg (show ¬ (false = true) by decide)] at H;exact H
      clear H
      have H := H1
      clear H1
      obtain rfl := Option.some.inj H
      go_wp2
      go_ret
      exact ⟨_,by first | rfl | (simp [errW_none,errW_some] <;> rfl) | (simp [*,errW_none,errW_some] <;> rfl),by (with_reducible repeat (first | apply Kd.R_alloc | apply Kd.R_drewN | apply Kd.R_drew));exact HO_3.out,by repeat (first | (with_reducible first | exact HB.out | apply below_alloc | apply pw_below_drewN | apply below_drew1 | refine below_set ?_ GE101.out) | exact HB.out)⟩
end Go.Proofs.Ytmmdcbdchifniaa.F
