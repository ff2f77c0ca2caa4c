/- Walks of Go functions and lemmas on what they compute, for the row of FnTables (a part of several): each call ends as the Lean function of its name tells; the conditions are those of each theorem. -/
import Derived.Test.YtgojehaneegaeaaM1FnTables
import Derived.Test.YtgojehaneegaeaaM2FnTables
import Derived.Test.YtgojehaneegaeaaM3FnTables
import Derived.Test.YtgojehaneegaeaaM4FnTables
import Derived.Test.YtgojehaneegaeaaM5FnTables
import Derived.Test.YtgojehaneegaeaaM7FnTables
namespace Go.Proofs.Ytgojehaneegaeaa.F
open Go.RowKit Go.Proofs.YtgojehaneegaeaaW.PrintWords Go.Proofs.YtgojehaneegaeaaW.PrintLast Go.Proofs.YtgojehaneegaeaaW.PrintMore
attribute [local go_sem] max2_int min2_int max_two min_two max_three min_three max_four min_four 
set_option linter.unusedVariables false
set_option linter.unusedSimpArgs false
def impl_NotTable.f (a0_0 : Int) (a0_1 : Int) : Option (Int × Int × Bool) := (impl_IsTable.f a0_0 a0_1).bind fun t103 => (if t103 = true then ((impl_Table_not.f a0_0 a0_1).bind fun bt104 => (some (bt104.1,bt104.2,true))) else (some (0,0,false)))
set_option maxHeartbeats 8000000 in
set_option maxRecDepth 100000 in
theorem impl_NotTable.calls (a0_0 : Int) (a0_1 : Int) (r1 : Int) (r2 : Int) (r3 : Bool) (w : World) (h : impl_NotTable.f a0_0 a0_1 = some (r1,r2,r3)) :
  Calls Try.prog 12 #[.agg #[.int .i64 a0_0,.int .i64 a0_1]] w fun e w' => e = .returned (.tuple #[.agg #[.int .i64 r1,.int .i64 r2],.bool r3]) ∧ Below w.heap.size w w' := by
 have hu25 := Try.underlying25
 have HB := aZ_ (Below.refl w.heap.size w)
 have H : ((impl_IsTable.f a0_0 a0_1).bind fun t103 => (if t103 = true then ((impl_Table_not.f a0_0 a0_1).bind fun bt104 => (some (bt104.1,bt104.2,true))) else (some (0,0,false)))) = some (r1,r2,r3) := h
 clear h
 replace H := Option.bind_eq_some_iff.mp H
 obtain ⟨t103,A20,H⟩ := H
 replace H : (if t103 = true then ((impl_Table_not.f a0_0 a0_1).bind fun bt104 => (some (bt104.1,bt104.2,true))) else (some (0,0,false))) = some (r1,r2,r3) := H
 have A2 := aZ_ A20
 clear A20
 by_cases c3 : t103 = true
 ·subst c3
  have H1 : ((impl_Table_not.f a0_0 a0_1).bind fun bt104 => (some (bt104.1,bt104.2,true))) = some (r1,r2,r3) := by rw [if_pos rfl] at H;exact H
  clear H
  have H := H1
  clear H1
  replace H := Option.bind_eq_some_iff.mp H
  obtain ⟨⟨t104,t105⟩,A40,H⟩ := H
  replace H : (some (t104,t105,true)) = some (r1,r2,r3) := H
  have A4 := aZ_ A40
  clear A40
  simp only [Option.some.injEq,Prod.mk.injEq] at H
  obtain ⟨rfl,rfl,rfl⟩ := H
  go_enter Try.func12,Try.ntmps12
  go_wp2_with (first | ((with_reducible refine gate_dst (N := 1) rfl ?_);refine box_event ?hg (N := 1) ?hd (cs := #[.int .i64 a0_0,.int .i64 a0_1]) (t := 25) ?hr ?_;(case hd => rfl);(case hg => rfl);(case hr => first | (go_simp;done) | (go_simp;rfl));intro gb101 hg w5 hbox hb;have n0_ := aZ_ (below_step T6_ hb);have n1_ := aZ_ (hbox);have n2_ := aZ_ ((T1_ : w.heap.size ≤ gb101));have n3_ := aZ_ ((T1_ : w.heap.size ≤ gb101));clear HB;have HB := n0_;have BK101 := n1_;have GW101 := n2_;have GE101 := n3_;clear n0_ n1_ n2_ n3_;clear hb hbox hg) | ((with_reducible refine gate_dst (N := 2) rfl ?_);refine box_event ?hg (N := 2) ?hd (cs := #[.int .i64 0,.int .i64 0]) (t := 25) ?hr ?_;(case hd => rfl);(case hg => rfl);(case hr => first | (go_simp;done) | (go_simp;rfl));intro gb102 hg w6 hbox hb;have n0_ := aZ_ (blk_below (g := gb101) (o := .cells #[.int .i64 a0_0,.int .i64 a0_1] 25 (0,0)) T2_ hb);have n1_ := aZ_ (below_step T5_ hb);have n2_ := aZ_ (hbox);have n3_ := aZ_ ((T4_ : w.heap.size ≤ gb102));have n4_ := aZ_ ((T4_ : w.heap.size ≤ gb102));have n5_ := aZ_ ((T7_ : gb101 ≠ gb102));have n6_ := aZ_ ((T8_ : gb102 ≠ gb101));clear BK101;clear HB;have BK101 := n0_;have HB := n1_;have BK102 := n2_;have GW102 := n3_;have GE102 := n4_;have NB101_102 := n5_;have NB102_101 := n6_;clear n0_ n1_ n2_ n3_ n4_ n5_ n6_;clear hb hbox hg;have hnb7 := NB101_102.out;have hnc7 := NB102_101.out;have hcz8_0 : w6.cell? ⟨gb101,0,none⟩ = some (.int .i64 a0_0) := (blk_cell BK101.out 0).trans rfl;have hcz8_1 : w6.cell? ⟨gb101,1,none⟩ = some (.int .i64 a0_1) := (blk_cell BK101.out 1).trans rfl;have hfz8_0 := blk_frozen BK101.out 0;have hfz8_1 := blk_frozen BK101.out 1) | ((with_reducible refine gate_callee (f := 19) rfl ?_);refine goesL_ (some 5) rfl rfl Try.func19 T17_ rfl #[.agg #[.int .i64 a0_0,.int .i64 a0_1]] rfl T3_ ?_;(with_reducible refine (impl_IsTable.calls a0_0 a0_1 true _ A2.out).mono ?_);rintro e w9 ⟨rfl,hb⟩;refine ⟨_,rfl,?_⟩;have n0_ := aZ_ (blk_below (g := gb101) (o := .cells #[.int .i64 a0_0,.int .i64 a0_1] 25 (0,0)) T2_ hb);have n1_ := aZ_ (blk_below (g := gb102) (o := .cells #[.int .i64 0,.int .i64 0] 25 (0,0)) T11_ hb);have n2_ := aZ_ (below_step T9_ hb);clear BK101;clear BK102;clear HB;have BK101 := n0_;have BK102 := n1_;have HB := n2_;clear n0_ n1_ n2_;(try clear hb);(try clear hb2);(try clear hk);(try clear hi);have hcz10_0 : w9.cell? ⟨gb101,0,none⟩ = some (.int .i64 a0_0) := (blk_cell BK101.out 0).trans rfl;have hcz10_1 : w9.cell? ⟨gb101,1,none⟩ = some (.int .i64 a0_1) := (blk_cell BK101.out 1).trans rfl;have hfz10_0 := blk_frozen BK101.out 0;have hfz10_1 := blk_frozen BK101.out 1) | ((with_reducible refine gate_callee (f := 39) rfl ?_);refine goesL_ (some 9) rfl rfl Try.func39 T17_ rfl #[.agg #[.int .i64 a0_0,.int .i64 a0_1]] rfl T3_ ?_;(with_reducible refine (impl_Table_not.calls a0_0 a0_1 t104 t105 _ A4.out).mono ?_);rintro e w11 ⟨rfl,hb⟩;refine ⟨_,rfl,?_⟩;have n0_ := aZ_ (blk_below (g := gb101) (o := .cells #[.int .i64 a0_0,.int .i64 a0_1] 25 (0,0)) T2_ hb);have n1_ := aZ_ (blk_below (g := gb102) (o := .cells #[.int .i64 0,.int .i64 0] 25 (0,0)) T11_ hb);have n2_ := aZ_ (below_step T9_ hb);clear BK101;clear BK102;clear HB;have BK101 := n0_;have BK102 := n1_;have HB := n2_;clear n0_ n1_ n2_;(try clear hb);(try clear hb2);(try clear hk);(try clear hi);have hcz12_0 : w11.cell? ⟨gb102,0,none⟩ = some (.int .i64 0) := (blk_cell BK102.out 0).trans rfl;have hcz12_1 : w11.cell? ⟨gb102,1,none⟩ = some (.int .i64 0) := (blk_cell BK102.out 1).trans rfl;have hfz12_0 := blk_frozen BK102.out 0;have hfz12_1 := blk_frozen BK102.out 1))
  refine bodyPost_ret (results_ct rfl _ _ gb102 25 #[.int .i64 t104,.int .i64 t105] (0,0) _ rfl (by (with_reducible repeat (first | refine blk_drewN ?_ _ | refine blk_drew ?_ | refine blk_alloc ?_ _));refine blk_put (cs := #[.int .i64 t104,.int .i64 0]) ?_ 1 _ rfl;(with_reducible repeat (first | refine blk_drewN ?_ _ | refine blk_drew ?_ | refine blk_alloc ?_ _));refine blk_put (cs := #[.int .i64 0,.int .i64 0]) ?_ 0 _ rfl;(with_reducible repeat (first | refine blk_drewN ?_ _ | refine blk_drew ?_ | refine blk_alloc ?_ _));exact BK102.out) Try.underlying25 rfl T17_) rfl ?_
  exact ⟨by first | rfl | (simp [errW_none,errW_some] <;> rfl) | (simp [*,errW_none,errW_some] <;> rfl),by repeat (first | (with_reducible first | exact HB.out | apply below_alloc | apply pw_below_drewN | apply below_drew1 | refine below_set ?_ GE101.out | refine below_set ?_ GE102.out) | exact HB.out)⟩
 ·replace c3 := Bool.eq_false_iff.mpr c3
  subst c3
  have H1 : (some (0,0,false)) = some (r1,r2,r3) := by rw [if_neg (show ¬ (false = true) by decide)] at H;exact H
  clear H
  have H := H1
  clear H1
  simp only [Option.some.injEq,Prod.mk.injEq] at H
  obtain ⟨rfl,rfl,rfl⟩ := H
  go_enter Try.func12,Try.ntmps12
  go_wp2_with (first | ((with_reducible refine gate_dst (N := 1) rfl ?_);refine box_event ?hg (N := 1) ?hd (cs := #[.int .i64 a0_0,.int .i64 a0_1]) (t := 25) ?hr ?_;(case hd => rfl);(case hg => rfl);(case hr => first | (go_simp;done) | (go_simp;rfl));intro gb101 hg w13 hbox hb;have n0_ := aZ_ (below_step T6_ hb);have n1_ := aZ_ (hbox);have n2_ := aZ_ ((T1_ : w.heap.size ≤ gb101));have n3_ := aZ_ ((T1_ : w.heap.size ≤ gb101));clear HB;have HB := n0_;have BK101 := n1_;have GW101 := n2_;have GE101 := n3_;clear n0_ n1_ n2_ n3_;clear hb hbox hg) | ((with_reducible refine gate_dst (N := 2) rfl ?_);refine box_event ?hg (N := 2) ?hd (cs := #[.int .i64 0,.int .i64 0]) (t := 25) ?hr ?_;(case hd => rfl);(case hg => rfl);(case hr => first | (go_simp;done) | (go_simp;rfl));intro gb102 hg w14 hbox hb;have n0_ := aZ_ (blk_below (g := gb101) (o := .cells #[.int .i64 a0_0,.int .i64 a0_1] 25 (0,0)) T2_ hb);have n1_ := aZ_ (below_step T5_ hb);have n2_ := aZ_ (hbox);have n3_ := aZ_ ((T4_ : w.heap.size ≤ gb102));have n4_ := aZ_ ((T4_ : w.heap.size ≤ gb102));have n5_ := aZ_ ((T7_ : gb101 ≠ gb102));have n6_ := aZ_ ((T8_ : gb102 ≠ gb101));clear BK101;clear HB;have BK101 := n0_;have HB := n1_;have BK102 := n2_;have GW102 := n3_;have GE102 := n4_;have NB101_102 := n5_;have NB102_101 := n6_;clear n0_ n1_ n2_ n3_ n4_ n5_ n6_;clear hb hbox hg;have hnb15 := NB101_102.out;have hnc15 := NB102_101.out;have hcz16_0 : w14.cell? ⟨gb101,0,none⟩ = some (.int .i64 a0_0) := (blk_cell BK101.out 0).trans rfl;have hcz16_1 : w14.cell? ⟨gb101,1,none⟩ = some (.int .i64 a0_1) := (blk_cell BK101.out 1).trans rfl;have hfz16_0 := blk_frozen BK101.out 0;have hfz16_1 := blk_frozen BK101.out 1) | ((with_reducible refine gate_callee (f := 19) rfl ?_);refine goesL_ (some 5) rfl rfl Try.func19 T17_ rfl #[.agg #[.int .i64 a0_0,.int .i64 a0_1]] rfl T3_ ?_;(with_reducible refine (impl_IsTable.calls a0_0 a0_1 false _ A2.out).mono ?_);rintro e w17 ⟨rfl,hb⟩;refine ⟨_,rfl,?_⟩;have n0_ := aZ_ (blk_below (g := gb101) (o := .cells #[.int .i64 a0_0,.int .i64 a0_1] 25 (0,0)) T2_ hb);have n1_ := aZ_ (blk_below (g := gb102) (o := .cells #[.int .i64 0,.int .i64 0] 25 (0,0)) T11_ hb);have n2_ := aZ_ (below_step T9_ hb);clear BK101;clear BK102;clear HB;have BK101 := n0_;have BK102 := n1_;have HB := n2_;clear n0_ n1_ n2_;(try clear hb);(try clear hb2);(try clear hk);(try clear hi);have hcz18_0 : w17.cell? ⟨gb102,0,none⟩ = some (.int .i64 0) := (blk_cell BK102.out 0).trans rfl;have hcz18_1 : w17.cell? ⟨gb102,1,none⟩ = some (.int .i64 0) := (blk_cell BK102.out 1).trans rfl;have hfz18_0 := blk_frozen BK102.out 0;have hfz18_1 := blk_frozen BK102.out 1))
  refine bodyPost_ret (results_ct rfl _ _ gb102 25 #[.int .i64 0,.int .i64 0] (0,0) _ rfl T48_ Try.underlying25 rfl T17_) rfl ?_
  exact ⟨by first | rfl | (simp [errW_none,errW_some] <;> rfl) | (simp [*,errW_none,errW_some] <;> rfl),by repeat (first | (with_reducible first | exact HB.out | apply below_alloc | apply pw_below_drewN | apply below_drew1 | refine below_set ?_ GE101.out | refine below_set ?_ GE102.out) | exact HB.out)⟩
def impl_CountOnes.f (a0_0 : Int) (a0_1 : Int) : Option (Int) := (impl_IsTable.f a0_0 a0_1).bind fun t102 => (if t102 = true then ((impl_ones.f a0_1).bind fun t103 => (some t103)) else (some (-1)))
set_option maxHeartbeats 8000000 in
set_option maxRecDepth 100000 in
theorem impl_CountOnes.calls (a0_0 : Int) (a0_1 : Int) (r : Int) (w : World) (h : impl_CountOnes.f a0_0 a0_1 = some r) :
  Calls Try.prog 13 #[.agg #[.int .i64 a0_0,.int .i64 a0_1]] w fun e w' => e = .returned (.int .i64 r) ∧ Below w.heap.size w w' := by
 have hu25 := Try.underlying25
 have HB := aZ_ (Below.refl w.heap.size w)
 have H : ((impl_IsTable.f a0_0 a0_1).bind fun t102 => (if t102 = true then ((impl_ones.f a0_1).bind fun t103 => (some t103)) else (some (-1)))) = some r := h
 clear h
 replace H := Option.bind_eq_some_iff.mp H
 obtain ⟨t102,A20,H⟩ := H
 replace H : (if t102 = true then ((impl_ones.f a0_1).bind fun t103 => (some t103)) else (some (-1))) = some r := H
 have A2 := aZ_ A20
 clear A20
 by_cases c3 : t102 = true
 ·subst c3
  have H1 : ((impl_ones.f a0_1).bind fun t103 => (some t103)) = some r := by rw [if_pos rfl] at H;exact H
  clear H
  have H := H1
  clear H1
  replace H := Option.bind_eq_some_iff.mp H
  obtain ⟨t103,A40,H⟩ := H
  replace H : (some t103) = some r := H
  have A4 := aZ_ A40
  clear A40
  obtain rfl := Option.some.inj H
  go_enter Try.func13,Try.ntmps13
  go_wp2_with (first | ((with_reducible refine gate_dst (N := 1) rfl ?_);refine box_event ?hg (N := 1) ?hd (cs := #[.int .i64 a0_0,.int .i64 a0_1]) (t := 25) ?hr ?_;(case hd => rfl);(case hg => rfl);(case hr => first | (go_simp;done) | (go_simp;rfl));intro gb101 hg w5 hbox hb;have n0_ := aZ_ (below_step T6_ hb);have n1_ := aZ_ (hbox);have n2_ := aZ_ ((T1_ : w.heap.size ≤ gb101));have n3_ := aZ_ ((T1_ : w.heap.size ≤ gb101));clear HB;have HB := n0_;have BK101 := n1_;have GW101 := n2_;have GE101 := n3_;clear n0_ n1_ n2_ n3_;clear hb hbox hg;have hcz6_0 : w5.cell? ⟨gb101,0,none⟩ = some (.int .i64 a0_0) := (blk_cell BK101.out 0).trans rfl;have hcz6_1 : w5.cell? ⟨gb101,1,none⟩ = some (.int .i64 a0_1) := (blk_cell BK101.out 1).trans rfl;have hfz6_0 := blk_frozen BK101.out 0;have hfz6_1 := blk_frozen BK101.out 1) | ((with_reducible refine gate_callee (f := 19) rfl ?_);refine goesL_ (some 4) rfl rfl Try.func19 T17_ rfl #[.agg #[.int .i64 a0_0,.int .i64 a0_1]] rfl T3_ ?_;(with_reducible refine (impl_IsTable.calls a0_0 a0_1 true _ A2.out).mono ?_);rintro e w7 ⟨rfl,hb⟩;refine ⟨_,rfl,?_⟩;have n0_ := aZ_ (blk_below (g := gb101) (o := .cells #[.int .i64 a0_0,.int .i64 a0_1] 25 (0,0)) T2_ hb);have n1_ := aZ_ (below_step T5_ hb);clear BK101;clear HB;have BK101 := n0_;have HB := n1_;clear n0_ n1_;(try clear hb);(try clear hb2);(try clear hk);(try clear hi);have hcz8_0 : w7.cell? ⟨gb101,0,none⟩ = some (.int .i64 a0_0) := (blk_cell BK101.out 0).trans rfl;have hcz8_1 : w7.cell? ⟨gb101,1,none⟩ = some (.int .i64 a0_1) := (blk_cell BK101.out 1).trans rfl;have hfz8_0 := blk_frozen BK101.out 0;have hfz8_1 := blk_frozen BK101.out 1) | ((with_reducible refine gate_callee (f := 40) rfl ?_);refine goesL_ (some 8) rfl rfl Try.func40 T17_ rfl #[.int .i64 a0_1] rfl T3_ ?_;(with_reducible refine (impl_ones.calls a0_1 t103 _ A4.out).mono ?_);rintro e w' ⟨rfl,⟨nd,rfl⟩⟩;refine ⟨_,rfl,?_⟩))
  go_ret
  exact ⟨by first | rfl | (simp [errW_none,errW_some] <;> rfl) | (simp [*,errW_none,errW_some] <;> rfl),by repeat (first | (with_reducible first | exact HB.out | apply below_alloc | apply pw_below_drewN | apply below_drew1 | refine below_set ?_ GE101.out) | exact HB.out)⟩
 ·replace c3 := Bool.eq_false_iff.mpr c3
  subst c3
  have H1 : (some (-1)) = some r := by rw [if_neg (show ¬ (false = true) by decide)] at H;exact H
  clear H
  have H := H1
  clear H1
  obtain rfl := Option.some.inj H
  go_enter Try.func13,Try.ntmps13
  go_wp2_with (first | ((with_reducible refine gate_dst (N := 1) rfl ?_);refine box_event ?hg (N := 1) ?hd (cs := #[.int .i64 a0_0,.int .i64 a0_1]) (t := 25) ?hr ?_;(case hd => rfl);(case hg => rfl);(case hr => first | (go_simp;done) | (go_simp;rfl));intro gb101 hg w9 hbox hb;have n0_ := aZ_ (below_step T6_ hb);have n1_ := aZ_ (hbox);have n2_ := aZ_ ((T1_ : w.heap.size ≤ gb101));have n3_ := aZ_ ((T1_ : w.heap.size ≤ gb101));clear HB;have HB := n0_;have BK101 := n1_;have GW101 := n2_;have GE101 := n3_;clear n0_ n1_ n2_ n3_;clear hb hbox hg;have hcz10_0 : w9.cell? ⟨gb101,0,none⟩ = some (.int .i64 a0_0) := (blk_cell BK101.out 0).trans rfl;have hcz10_1 : w9.cell? ⟨gb101,1,none⟩ = some (.int .i64 a0_1) := (blk_cell BK101.out 1).trans rfl;have hfz10_0 := blk_frozen BK101.out 0;have hfz10_1 := blk_frozen BK101.out 1) | ((with_reducible refine gate_callee (f := 19) rfl ?_);refine goesL_ (some 4) rfl rfl Try.func19 T17_ rfl #[.agg #[.int .i64 a0_0,.int .i64 a0_1]] rfl T3_ ?_;(with_reducible refine (impl_IsTable.calls a0_0 a0_1 false _ A2.out).mono ?_);rintro e w11 ⟨rfl,hb⟩;refine ⟨_,rfl,?_⟩;have n0_ := aZ_ (blk_below (g := gb101) (o := .cells #[.int .i64 a0_0,.int .i64 a0_1] 25 (0,0)) T2_ hb);have n1_ := aZ_ (below_step T5_ hb);clear BK101;clear HB;have BK101 := n0_;have HB := n1_;clear n0_ n1_;(try clear hb);(try clear hb2);(try clear hk);(try clear hi)))
  go_ret
  exact ⟨by first | rfl | (simp [errW_none,errW_some] <;> rfl) | (simp [*,errW_none,errW_some] <;> rfl),by repeat (first | (with_reducible first | exact HB.out | apply below_alloc | apply pw_below_drewN | apply below_drew1 | refine below_set ?_ GE101.out) | exact HB.out)⟩
def impl_DistanceBetween.f (a0_0 : Int) (a0_1 : Int) (a1_0 : Int) (a1_1 : Int) : Option (Int) := (impl_areTables.f a0_0 a0_1 a1_0 a1_1).bind fun t103 => (if t103 = true then ((impl_ones.f (Go.bits .xor .i64 a0_1 a1_1)).bind fun t104 => (some t104)) else (some (-1)))
set_option maxHeartbeats 8000000 in
set_option maxRecDepth 100000 in
theorem impl_DistanceBetween.calls (a0_0 : Int) (a0_1 : Int) (a1_0 : Int) (a1_1 : Int) (r : Int) (w : World) (h : impl_DistanceBetween.f a0_0 a0_1 a1_0 a1_1 = some r) :
  Calls Try.prog 14 #[.agg #[.int .i64 a0_0,.int .i64 a0_1],.agg #[.int .i64 a1_0,.int .i64 a1_1]] w fun e w' => e = .returned (.int .i64 r) ∧ Below w.heap.size w w' := by
 have hu25 := Try.underlying25
 have HB := aZ_ (Below.refl w.heap.size w)
 have H : ((impl_areTables.f a0_0 a0_1 a1_0 a1_1).bind fun t103 => (if t103 = true then ((impl_ones.f (Go.bits .xor .i64 a0_1 a1_1)).bind fun t104 => (some t104)) else (some (-1)))) = some r := h
 clear h
 replace H := Option.bind_eq_some_iff.mp H
 obtain ⟨t103,A30,H⟩ := H
 replace H : (if t103 = true then ((impl_ones.f (Go.bits .xor .i64 a0_1 a1_1)).bind fun t104 => (some t104)) else (some (-1))) = some r := H
 have A3 := aZ_ A30
 clear A30
 by_cases c4 : t103 = true
 ·subst c4
  have H1 : ((impl_ones.f (Go.bits .xor .i64 a0_1 a1_1)).bind fun t104 => (some t104)) = some r := by rw [if_pos rfl] at H;exact H
  clear H
  have H := H1
  clear H1
  replace H := Option.bind_eq_some_iff.mp H
  obtain ⟨t104,A50,H⟩ := H
  replace H : (some t104) = some r := H
  have A5 := aZ_ A50
  clear A50
  obtain rfl := Option.some.inj H
  go_enter Try.func14,Try.ntmps14
  go_wp2_with (first | ((with_reducible refine gate_dst (N := 2) rfl ?_);refine box_event ?hg (N := 2) ?hd (cs := #[.int .i64 a0_0,.int .i64 a0_1]) (t := 25) ?hr ?_;(case hd => rfl);(case hg => rfl);(case hr => first | (go_simp;done) | (go_simp;rfl));intro gb101 hg w6 hbox hb;have n0_ := aZ_ (below_step T6_ hb);have n1_ := aZ_ (hbox);have n2_ := aZ_ ((T1_ : w.heap.size ≤ gb101));have n3_ := aZ_ ((T1_ : w.heap.size ≤ gb101));clear HB;have HB := n0_;have BK101 := n1_;have GW101 := n2_;have GE101 := n3_;clear n0_ n1_ n2_ n3_;clear hb hbox hg) | ((with_reducible refine gate_dst (N := 3) rfl ?_);refine box_event ?hg (N := 3) ?hd (cs := #[.int .i64 a1_0,.int .i64 a1_1]) (t := 25) ?hr ?_;(case hd => rfl);(case hg => rfl);(case hr => first | (go_simp;done) | (go_simp;rfl));intro gb102 hg w7 hbox hb;have n0_ := aZ_ (blk_below (g := gb101) (o := .cells #[.int .i64 a0_0,.int .i64 a0_1] 25 (0,0)) T2_ hb);have n1_ := aZ_ (below_step T5_ hb);have n2_ := aZ_ (hbox);have n3_ := aZ_ ((T4_ : w.heap.size ≤ gb102));have n4_ := aZ_ ((T4_ : w.heap.size ≤ gb102));have n5_ := aZ_ ((T7_ : gb101 ≠ gb102));have n6_ := aZ_ ((T8_ : gb102 ≠ gb101));clear BK101;clear HB;have BK101 := n0_;have HB := n1_;have BK102 := n2_;have GW102 := n3_;have GE102 := n4_;have NB101_102 := n5_;have NB102_101 := n6_;clear n0_ n1_ n2_ n3_ n4_ n5_ n6_;clear hb hbox hg;have hnb8 := NB101_102.out;have hnc8 := NB102_101.out;have hcz9_0 : w7.cell? ⟨gb101,0,none⟩ = some (.int .i64 a0_0) := (blk_cell BK101.out 0).trans rfl;have hcz9_1 : w7.cell? ⟨gb101,1,none⟩ = some (.int .i64 a0_1) := (blk_cell BK101.out 1).trans rfl;have hfz9_0 := blk_frozen BK101.out 0;have hfz9_1 := blk_frozen BK101.out 1;have hcz10_0 : w7.cell? ⟨gb102,0,none⟩ = some (.int .i64 a1_0) := (blk_cell BK102.out 0).trans rfl;have hcz10_1 : w7.cell? ⟨gb102,1,none⟩ = some (.int .i64 a1_1) := (blk_cell BK102.out 1).trans rfl;have hfz10_0 := blk_frozen BK102.out 0;have hfz10_1 := blk_frozen BK102.out 1) | ((with_reducible refine gate_callee (f := 37) rfl ?_);refine goesL_ (some 7) rfl rfl Try.func37 T17_ rfl #[.agg #[.int .i64 a0_0,.int .i64 a0_1],.agg #[.int .i64 a1_0,.int .i64 a1_1]] rfl T3_ ?_;(with_reducible refine (impl_areTables.calls a0_0 a0_1 a1_0 a1_1 true _ A3.out).mono ?_);rintro e w11 ⟨rfl,hb⟩;refine ⟨_,rfl,?_⟩;have n0_ := aZ_ (blk_below (g := gb101) (o := .cells #[.int .i64 a0_0,.int .i64 a0_1] 25 (0,0)) T2_ hb);have n1_ := aZ_ (blk_below (g := gb102) (o := .cells #[.int .i64 a1_0,.int .i64 a1_1] 25 (0,0)) T11_ hb);have n2_ := aZ_ (below_step T9_ hb);clear BK101;clear BK102;clear HB;have BK101 := n0_;have BK102 := n1_;have HB := n2_;clear n0_ n1_ n2_;(try clear hb);(try clear hb2);(try clear hk);(try clear hi);have hcz12_0 : w11.cell? ⟨gb101,0,none⟩ = some (.int .i64 a0_0) := (blk_cell BK101.out 0).trans rfl;have hcz12_1 : w11.cell? ⟨gb101,1,none⟩ = some (.int .i64 a0_1) := (blk_cell BK101.out 1).trans rfl;have hfz12_0 := blk_frozen BK101.out 0;have hfz12_1 := blk_frozen BK101.out 1;have hcz13_0 : w11.cell? ⟨gb102,0,none⟩ = some (.int .i64 a1_0) := (blk_cell BK102.out 0).trans rfl;have hcz13_1 : w11.cell? ⟨gb102,1,none⟩ = some (.int .i64 a1_1) := (blk_cell BK102.out 1).trans rfl;have hfz13_0 := blk_frozen BK102.out 0;have hfz13_1 := blk_frozen BK102.out 1) | ((with_reducible refine gate_callee (f := 40) rfl ?_);refine goesL_ (some 14) rfl rfl Try.func40 T17_ rfl #[.int .i64 (Go.bits .xor .i64 a0_1 a1_1)] rfl T3_ ?_;(with_reducible refine (impl_ones.calls (Go.bits .xor .i64 a0_1 a1_1) t104 _ A5.out).mono ?_);rintro e w' ⟨rfl,⟨nd,rfl⟩⟩;refine ⟨_,rfl,?_⟩))
  go_ret
  exact ⟨by first | rfl | (simp [errW_none,errW_some] <;> rfl) | (simp [*,errW_none,errW_some] <;> rfl),by repeat (first | (with_reducible first | exact HB.out | apply below_alloc | apply pw_below_drewN | apply below_drew1 | refine below_set ?_ GE101.out | refine below_set ?_ GE102.out) | exact HB.out)⟩
 ·replace c4 := Bool.eq_false_iff.mpr c4
  subst c4
  have H1 : (some (-1)) = some r := by rw [if_neg (show ¬ (false = true) by decide)] at H;exact H
  clear H
  have H := H1
  clear H1
  obtain rfl := Option.some.inj H
  go_enter Try.func14,Try.ntmps14
  go_wp2_with (first | ((with_reducible refine gate_dst (N := 2) rfl ?_);refine box_event ?hg (N := 2) ?hd (cs := #[.int .i64 a0_0,.int .i64 a0_1]) (t := 25) ?hr ?_;(case hd => rfl);(case hg => rfl);(case hr => first | (go_simp;done) | (go_simp;rfl));intro gb101 hg w14 hbox hb;have n0_ := aZ_ (below_step T6_ hb);have n1_ := aZ_ (hbox);have n2_ := aZ_ ((T1_ : w.heap.size ≤ gb101));have n3_ := aZ_ ((T1_ : w.heap.size ≤ gb101));clear HB;have HB := n0_;have BK101 := n1_;have GW101 := n2_;have GE101 := n3_;clear n0_ n1_ n2_ n3_;clear hb hbox hg) | ((with_reducible refine gate_dst (N := 3) rfl ?_);refine box_event ?hg (N := 3) ?hd (cs := #[.int .i64 a1_0,.int .i64 a1_1]) (t := 25) ?hr ?_;(case hd => rfl);(case hg => rfl);(case hr => first | (go_simp;done) | (go_simp;rfl));intro gb102 hg w15 hbox hb;have n0_ := aZ_ (blk_below (g := gb101) (o := .cells #[.int .i64 a0_0,.int .i64 a0_1] 25 (0,0)) T2_ hb);have n1_ := aZ_ (below_step T5_ hb);have n2_ := aZ_ (hbox);have n3_ := aZ_ ((T4_ : w.heap.size ≤ gb102));have n4_ := aZ_ ((T4_ : w.heap.size ≤ gb102));have n5_ := aZ_ ((T7_ : gb101 ≠ gb102));have n6_ := aZ_ ((T8_ : gb102 ≠ gb101));clear BK101;clear HB;have BK101 := n0_;have HB := n1_;have BK102 := n2_;have GW102 := n3_;have GE102 := n4_;have NB101_102 := n5_;have NB102_101 := n6_;clear n0_ n1_ n2_ n3_ n4_ n5_ n6_;clear hb hbox hg;have hnb16 := NB101_102.out;have hnc16 := NB102_101.out;have hcz17_0 : w15.cell? ⟨gb101,0,none⟩ = some (.int .i64 a0_0) := (blk_cell BK101.out 0).trans rfl;have hcz17_1 : w15.cell? ⟨gb101,1,none⟩ = some (.int .i64 a0_1) := (blk_cell BK101.out 1).trans rfl;have hfz17_0 := blk_frozen BK101.out 0;have hfz17_1 := blk_frozen BK101.out 1;have hcz18_0 : w15.cell? ⟨gb102,0,none⟩ = some (.int .i64 a1_0) := (blk_cell BK102.out 0).trans rfl;have hcz18_1 : w15.cell? ⟨gb102,1,none⟩ = some (.int .i64 a1_1) := (blk_cell BK102.out 1).trans rfl;have hfz18_0 := blk_frozen BK102.out 0;have hfz18_1 := blk_frozen BK102.out 1) | ((with_reducible refine gate_callee (f := 37) rfl ?_);refine goesL_ (some 7) rfl rfl Try.func37 T17_ rfl #[.agg #[.int .i64 a0_0,.int .i64 a0_1],.agg #[.int .i64 a1_0,.int .i64 a1_1]] rfl T3_ ?_;(with_reducible refine (impl_areTables.calls a0_0 a0_1 a1_0 a1_1 false _ A3.out).mono ?_);rintro e w19 ⟨rfl,hb⟩;refine ⟨_,rfl,?_⟩;have n0_ := aZ_ (blk_below (g := gb101) (o := .cells #[.int .i64 a0_0,.int .i64 a0_1] 25 (0,0)) T2_ hb);have n1_ := aZ_ (blk_below (g := gb102) (o := .cells #[.int .i64 a1_0,.int .i64 a1_1] 25 (0,0)) T11_ hb);have n2_ := aZ_ (below_step T9_ hb);clear BK101;clear BK102;clear HB;have BK101 := n0_;have BK102 := n1_;have HB := n2_;clear n0_ n1_ n2_;(try clear hb);(try clear hb2);(try clear hk);(try clear hi)))
  go_ret
  exact ⟨by first | rfl | (simp [errW_none,errW_some] <;> rfl) | (simp [*,errW_none,errW_some] <;> rfl),by repeat (first | (with_reducible first | exact HB.out | apply below_alloc | apply pw_below_drewN | apply below_drew1 | refine below_set ?_ GE101.out | refine below_set ?_ GE102.out) | exact HB.out)⟩
def impl_FormatTable.l0 : Nat → List Int → Int → Int → Int → Int → Option (ByteArray)
 | 0,_,_,_,_,_ => none
 | k + 1,x3,x12,x13,x102000,x102001 => if x13 < x12 then ((impl_Table_at.f x102000 x102001 x13).bind fun t107 => (if 0 ≤ x13 then (if x13 < (x3.length : Int) then (impl_FormatTable.l0 k (x3.set (x13 : Int).toNat ((48 + ((t107) % 256)) % 256)) x12 (wrap64 (x13 + 1)) x102000 x102001) else (none)) else (none))) else (some (strOfNums x3))
def impl_FormatTable.f (k : Nat) (a0_0 : Int) (a0_1 : Int) : Option (ByteArray) := (impl_IsTable.f a0_0 a0_1).bind fun t102 => (if t102 = true then ((impl_Table_size.f a0_0 a0_1).bind fun t103 => (if 0 ≤ t103 then (if (t103 : Int).toNat ≤ 281474976710656 then ((some (List.replicate (t103 : Int).toNat 0 : List Int)).bind fun y104 => (impl_FormatTable.l0 k y104 (y104.length : Int) 0 a0_0 a0_1)) else (none)) else (none))) else (some (⟨#[]⟩ : ByteArray)))
set_option maxHeartbeats 8000000 in
set_option maxRecDepth 100000 in
theorem impl_FormatTable.calls (k : Nat) (a0_0 : Int) (a0_1 : Int) (r : ByteArray) (w : World) (h : impl_FormatTable.f k a0_0 a0_1 = some r) :
  Calls Try.prog 15 #[.agg #[.int .i64 a0_0,.int .i64 a0_1]] w fun e w' => e = .returned (.string r) ∧ Below w.heap.size w w' := by
 have hu25 := Try.underlying25
 have HB := aZ_ (Below.refl w.heap.size w)
 have H : ((impl_IsTable.f a0_0 a0_1).bind fun t102 => (if t102 = true then ((impl_Table_size.f a0_0 a0_1).bind fun t103 => (if 0 ≤ t103 then (if (t103 : Int).toNat ≤ 281474976710656 then ((some (List.replicate (t103 : Int).toNat 0 : List Int)).bind fun y104 => (impl_FormatTable.l0 k y104 (y104.length : Int) 0 a0_0 a0_1)) else (none)) else (none))) else (some (⟨#[]⟩ : ByteArray)))) = some r := h
 clear h
 replace H := Option.bind_eq_some_iff.mp H
 obtain ⟨t102,A20,H⟩ := H
 replace H : (if t102 = true then ((impl_Table_size.f a0_0 a0_1).bind fun t103 => (if 0 ≤ t103 then (if (t103 : Int).toNat ≤ 281474976710656 then ((some (List.replicate (t103 : Int).toNat 0 : List Int)).bind fun y104 => (impl_FormatTable.l0 k y104 (y104.length : Int) 0 a0_0 a0_1)) else (none)) else (none))) else (some (⟨#[]⟩ : ByteArray))) = some r := H
 have A2 := aZ_ A20
 clear A20
 by_cases c3 : t102 = true
 ·subst c3
  have H1 : ((impl_Table_size.f a0_0 a0_1).bind fun t103 => (if 0 ≤ t103 then (if (t103 : Int).toNat ≤ 281474976710656 then ((some (List.replicate (t103 : Int).toNat 0 : List Int)).bind fun y104 => (impl_FormatTable.l0 k y104 (y104.length : Int) 0 a0_0 a0_1)) else (none)) else (none))) = some r := by rw [if_pos rfl] at H;exact H
  clear H
  have H := H1
  clear H1
  replace H := Option.bind_eq_some_iff.mp H
  obtain ⟨t103,A40,H⟩ := H
  replace H : (if 0 ≤ t103 then (if (t103 : Int).toNat ≤ 281474976710656 then ((some (List.replicate (t103 : Int).toNat 0 : List Int)).bind fun y104 => (impl_FormatTable.l0 k y104 (y104.length : Int) 0 a0_0 a0_1)) else (none)) else (none)) = some r := H
  have A4 := aZ_ A40
  clear A40
  by_cases c5 : 0 ≤ t103
  ·rw [if_pos c5] at H
   have c5b0 := eq_true c5
   have c5b1 : decide (0 ≤ t103) = true := decide_eq_true c5
   clear c5
   by_cases c6 : (t103 : Int).toNat ≤ 281474976710656
   ·rw [if_pos c6] at H
    have c6b0 := eq_true c6
    have c6b1 : decide ((t103 : Int).toNat ≤ 281474976710656) = true := decide_eq_true c6
    clear c6
    obtain ⟨y104,hy104⟩ : ∃ y_ : List Int,y_ = (List.replicate (t103 : Int).toNat 0) := ⟨_,rfl⟩
    replace H : (impl_FormatTable.l0 k y104 (y104.length : Int) 0 a0_0 a0_1) = some r := by first | (rw [hy104];with_reducible exact H) | (have H2_ := (Option.bind_some _ _).symm.trans H;rw [hy104];with_reducible exact H2_) | (have H2_ := (Option.bind_some _ _).symm.trans H;with_reducible exact H2_) | with_reducible exact H | (rw [hy104];exact H) | exact H
    have Ny104 := aZ_ hy104
    clear hy104
    have H' := aZ_ H
    clear H
    go_enter Try.func15,Try.ntmps15
    go_wp2_with (first | ((with_reducible refine gate_dst (N := 1) rfl ?_);refine box_event ?hg (N := 1) ?hd (cs := #[.int .i64 a0_0,.int .i64 a0_1]) (t := 25) ?hr ?_;(case hd => rfl);(case hg => rfl);(case hr => first | (go_simp;done) | (go_simp;rfl));intro gb101 hg w7 hbox hb;have n0_ := aZ_ (below_step T6_ hb);have n1_ := aZ_ (hbox);have n2_ := aZ_ ((T1_ : w.heap.size ≤ gb101));have n3_ := aZ_ ((T1_ : w.heap.size ≤ gb101));clear HB;have HB := n0_;have BK101 := n1_;have GW101 := n2_;have GE101 := n3_;clear n0_ n1_ n2_ n3_;clear hb hbox hg;have hcz8_0 : w7.cell? ⟨gb101,0,none⟩ = some (.int .i64 a0_0) := (blk_cell BK101.out 0).trans rfl;have hcz8_1 : w7.cell? ⟨gb101,1,none⟩ = some (.int .i64 a0_1) := (blk_cell BK101.out 1).trans rfl;have hfz8_0 := blk_frozen BK101.out 0;have hfz8_1 := blk_frozen BK101.out 1) | ((with_reducible refine gate_callee (f := 19) rfl ?_);refine goesL_ (some 6) rfl rfl Try.func19 T17_ rfl #[.agg #[.int .i64 a0_0,.int .i64 a0_1]] rfl T3_ ?_;(with_reducible refine (impl_IsTable.calls a0_0 a0_1 true _ A2.out).mono ?_);rintro e w9 ⟨rfl,hb⟩;refine ⟨_,rfl,?_⟩;have n0_ := aZ_ (blk_below (g := gb101) (o := .cells #[.int .i64 a0_0,.int .i64 a0_1] 25 (0,0)) T2_ hb);have n1_ := aZ_ (below_step T5_ hb);clear BK101;clear HB;have BK101 := n0_;have HB := n1_;clear n0_ n1_;(try clear hb);(try clear hb2);(try clear hk);(try clear hi);have hcz10_0 : w9.cell? ⟨gb101,0,none⟩ = some (.int .i64 a0_0) := (blk_cell BK101.out 0).trans rfl;have hcz10_1 : w9.cell? ⟨gb101,1,none⟩ = some (.int .i64 a0_1) := (blk_cell BK101.out 1).trans rfl;have hfz10_0 := blk_frozen BK101.out 0;have hfz10_1 := blk_frozen BK101.out 1) | ((with_reducible refine gate_callee (f := 41) rfl ?_);refine goesL_ (some 9) rfl rfl Try.func41 T17_ rfl #[.agg #[.int .i64 a0_0,.int .i64 a0_1]] rfl T3_ ?_;(with_reducible refine (impl_Table_size.calls a0_0 a0_1 t103 _ A4.out).mono ?_);rintro e w11 ⟨rfl,hb⟩;refine ⟨_,rfl,?_⟩;have n0_ := aZ_ (blk_below (g := gb101) (o := .cells #[.int .i64 a0_0,.int .i64 a0_1] 25 (0,0)) T2_ hb);have n1_ := aZ_ (below_step T5_ hb);clear BK101;clear HB;have BK101 := n0_;have HB := n1_;clear n0_ n1_;(try clear hb);(try clear hb2);(try clear hk);(try clear hi)) | ((with_reducible refine gate_dst (N := 10) rfl ?_);refine Kd.R_make (Kd.int .u8) _ 5 rfl (N := 10) rfl 22 _ _ rfl t103 rfl rfl Try.underlying22 (.int .u8 0) 1 info5 rfl T58_ (by omega) 0 (ok := fun _ => True) (okp := fun _ => True) rfl (fun _ hk => hk) trivial (of_decide_eq_true T44_) (Nat.le_trans (Nat.mul_le_mul_right _ (of_decide_eq_true T44_ : t103.toNat ≤ 281474976710656)) (by omega)) (Below.refl _ _) (Nat.le_refl _) ?_;intro v105 w12 ho13 hb hg_ hnew_;clear hg_ hnew_;(first | rw [← Ny104.out] at ho13 | (simp only [Int.reduceToNat] at ho13;rw [← Ny104.out] at ho13));have n0_ := aZ_ (Kd.R_lower ho13 (below_size T5_));have n1_ := aZ_ (blk_below (g := gb101) (o := .cells #[.int .i64 a0_0,.int .i64 a0_1] 25 (0,0)) T2_ hb);have n2_ := aZ_ (below_step T5_ hb);clear BK101;clear HB;have HO106 := n0_;have BK101 := n1_;have HB := n2_;clear n0_ n1_ n2_;clear hb ho13;obtain ⟨Ao14,co14,eo14⟩ := Kd.R_slice HO106.out;subst eo14))
    go_loopg [13] k (fun kq v13 w' => ∃ (x3_1 : List Int) (x13_1 : Int),v13 = .int .i64 x13_1 ∧ Aside0 (impl_FormatTable.l0 kq x3_1 (y104.length : Int) x13_1 a0_0 a0_1 = some r) ∧ Aside0 (kq ≤ k) ∧ Aside0 (Kd.R (Kd.int .u8) 5 w' w.heap.size (fun _ => True) (.slice Ao14 y104.length co14) x3_1) ∧ Aside0 (w'.heap[gb101]? = some (.cells #[.int .i64 a0_0,.int .i64 a0_1] 25 (0,0))) ∧ Aside0 (Below w.heap.size w w'))
    case atStart => exact ⟨(y104),(0),T29_,H',⟨Nat.le_refl _⟩,⟨by (with_reducible repeat (first | apply Kd.R_alloc | apply Kd.R_drewN | apply Kd.R_drew));exact HO106.out⟩,⟨by (with_reducible repeat (first | refine blk_drewN ?_ _ | refine blk_drew ?_ | refine blk_alloc ?_ _));exact BK101.out⟩,⟨by repeat (first | (with_reducible first | exact HB.out | apply below_alloc | apply pw_below_drewN | apply below_drew1 | refine below_set ?_ GE101.out) | exact HB.out)⟩⟩
    case round =>
     clear H'
     try clear c1
     try clear p2
     try clear c3
     try clear c4
     try clear c5
     try clear c5b0
     try clear c5b1
     try clear c6
     try clear c6b0
     try clear c6b1
     try clear hcz10_0
     try clear hcz10_1
     try clear hcz8_0
     try clear hcz8_1
     try clear hfz10_0
     try clear hfz10_1
     try clear hfz8_0
     try clear hfz8_1
     obtain ⟨x3_1,x13_1,rfl,HA,HK1,HO_3,BK101,HB⟩ := hrel
     have hl3_1 := (Kd.R_reads' HO_3.out).1
     rw [hl3_1] at HO_3
     (try simp only [hl3_1])
     (try simp only [hl3_1] at BK101)
     cases gk with
     | zero => exact absurd HA.out (by simp [impl_FormatTable.l0])
     | succ k1 =>
      have H := HA.out
      clear HA
      simp only [impl_FormatTable.l0] at H
      by_cases c15 : x13_1 < (y104.length : Int)
      ·rw [if_pos c15] at H
       have c15b0 : decide (x13_1 < (y104.length : Int)) = true := decide_eq_true c15
       (try rw [hl3_1] at c15b0)
       clear c15
       replace H := Option.bind_eq_some_iff.mp H
       obtain ⟨t107,A160,H⟩ := H
       replace H : (if 0 ≤ x13_1 then (if x13_1 < (x3_1.length : Int) then (impl_FormatTable.l0 k1 (x3_1.set (x13_1 : Int).toNat ((48 + ((t107) % 256)) % 256)) (y104.length : Int) (wrap64 (x13_1 + 1)) a0_0 a0_1) else (none)) else (none)) = some r := H
       have A16 := aZ_ A160
       clear A160
       by_cases c17 : 0 ≤ x13_1
       ·rw [if_pos c17] at H
        have c17b0 : decide (0 ≤ x13_1) = true := decide_eq_true c17
        clear c17
        by_cases c18 : x13_1 < (x3_1.length : Int)
        ·rw [if_pos c18] at H
         have c18b0 : decide (x13_1 < (x3_1.length : Int)) = true := decide_eq_true c18
         (try rw [hl3_1] at c18b0)
         clear c18
         obtain ⟨y108,hy108⟩ : ∃ y_ : List Int,y_ = (x3_1.set (x13_1 : Int).toNat ((48 + ((t107) % 256)) % 256)) := ⟨_,rfl⟩
         replace H : (impl_FormatTable.l0 k1 y108 (y104.length : Int) (wrap64 (x13_1 + 1)) a0_0 a0_1) = some r := by first | (rw [hy108];with_reducible exact H) | (have H2_ := (Option.bind_some _ _).symm.trans H;rw [hy108];with_reducible exact H2_) | (have H2_ := (Option.bind_some _ _).symm.trans H;with_reducible exact H2_) | with_reducible exact H | (rw [hy108];exact H) | exact H
         have Ny108 := aZ_ hy108
         clear hy108
         have H' := aZ_ H
         clear H
         have hcz20_0 : wr.cell? ⟨gb101,0,none⟩ = some (.int .i64 a0_0) := (blk_cell BK101.out 0).trans rfl
         have hcz20_1 : wr.cell? ⟨gb101,1,none⟩ = some (.int .i64 a0_1) := (blk_cell BK101.out 1).trans rfl
         have hfz20_0 := blk_frozen BK101.out 0
         have hfz20_1 := blk_frozen BK101.out 1
         go_wp2_with (first | ((with_reducible refine gate_callee (f := 42) rfl ?_);refine goesL_ (some 20) rfl rfl Try.func42 T17_ rfl #[.agg #[.int .i64 a0_0,.int .i64 a0_1],.int .i64 x13_1] rfl T3_ ?_;(with_reducible refine (impl_Table_at.calls a0_0 a0_1 x13_1 t107 _ A16.out).mono ?_);rintro e w21 ⟨rfl,hb⟩;refine ⟨_,rfl,?_⟩;have n0_ := aZ_ (Kd.R_below (by (with_reducible repeat (first | apply Kd.R_alloc | apply Kd.R_drewN | apply Kd.R_drew));exact HO_3.out) hb);have n1_ := aZ_ (blk_below (g := gb101) (o := .cells #[.int .i64 a0_0,.int .i64 a0_1] 25 (0,0)) T2_ hb);have n2_ := aZ_ (below_step T5_ hb);clear HO_3;clear BK101;clear HB;have HO_3 := n0_;have BK101 := n1_;have HB := n2_;clear n0_ n1_ n2_;(try clear hb);(try clear hb2);(try clear hk);(try clear hi);have p19 : 0 ≤ (x13_1 : Int) := of_decide_eq_true T44_;have q19 : (x13_1 : Int) < ((x3_1.length : Int) : Int) := of_decide_eq_true T44_;obtain ⟨go19,co19,eo19,gb19,gl19,cl19,HG19⟩ := Kd.R_form HO_3.out (by omega);(first | cases eo19 | (injection eo19 with ea_ en_ ec_;(first | subst ea_ | (injection ea_ with ea_;subst ea_));subst ec_;clear en_));have GB19 := aZ_ gb19;have GG19 := aZ_ HG19;clear gb19 gl19 HG19;obtain ⟨hx19_0,hf19_0⟩ := Kd.R_celln 0 HO_3.out (x13_1 : Int) p19 q19;replace p19 := eq_true p19;replace q19 := eq_true q19;obtain ⟨hy22_,hz22_⟩ := Kd.R_celln 0 HO_3.out (x13_1 : Int) (of_decide_eq_true T44_) (of_decide_eq_true T44_);have HP22 := Kd.R_putg HO_3.out (x13_1 : Int) ((48 + ((t107) % 256)) % 256)) | ((with_reducible refine gate_store (t := 5) (p := 23) rfl ?_);refine store_event (t := 5) (p := 23) (v := ?vo_w23) (w1 := (w21.setCell ⟨go19,(x13_1 : Int).toNat,none⟩ (.int .u8 ((48 + ((t107) % 256)) % 256)))) ?hg ?ho ?hn ?hr ?_;(case ho => rfl);(case hg => rfl);(case hn => rfl);(case hr => first | (go_simp;done) | (go_simp;rfl));intro w23 hw;have hg : w21.grownBy w23 (some go19) := (by rw [hw];exact HP22.2);have hp_ : Kd.R (Kd.int .u8) 5 w23 w.heap.size (fun _ => True) (.slice (some ⟨go19,0,none⟩) x3_1.length co14) y108 := (by rw [hw,Ny108.out];exact HP22.1);clear HP22;have n0_ := aZ_ (hp_);have n1_ := aZ_ (blk_grown (g := gb101) (o := .cells #[.int .i64 a0_0,.int .i64 a0_1] 25 (0,0)) T2_ hg (Kd.R_ne HO_3.out BK101.out T58_));have n2_ := aZ_ ((by rw [hw];exact below_set (HB.out) GB19.out : Below w.heap.size w w23));clear HO_3;clear BK101;clear HB;have HO_3 := n0_;have BK101 := n1_;have HB := n2_;clear n0_ n1_ n2_;clear hg hw hp_))
         (try simp only [← hl3_1])
         go_roundg k1
         case measure => have := HK1.out;omega
         case rel => exact ⟨(y108),(wrap64 (x13_1 + 1)),T29_,H',⟨by have := HK1.out;omega⟩,⟨by (try simp only [hl3_1]);(with_reducible repeat (first | apply Kd.R_alloc | apply Kd.R_drewN | apply Kd.R_drew));exact HO_3.out⟩,⟨by (try simp only [hl3_1]);(with_reducible repeat (first | refine blk_drewN ?_ _ | refine blk_drew ?_ | refine blk_alloc ?_ _));exact BK101.out⟩,⟨by repeat (first | (with_reducible first | exact HB.out | apply below_alloc | apply pw_below_drewN | apply below_drew1 | refine below_set ?_ GE101.out) | exact HB.out)⟩⟩
        ·rw [if_neg c18] at H
         exact absurd H (by simp)
       ·rw [if_neg c17] at H
        exact absurd H (by simp)
      ·rw [if_neg c15] at H
       have c15b0 : decide (x13_1 < (y104.length : Int)) = false := decide_eq_false c15
       (try rw [hl3_1] at c15b0)
       clear c15
       obtain rfl := Option.some.inj H
       have hcv24 := own_string (P := Try.prog) Try.underlying22 Try.underlying5 Try.underlying9 (Kd.own_of_R HO_3.out)
       go_wp2
       go_ret
       exact ⟨by first | rfl | (simp [errW_none,errW_some] <;> rfl) | (simp [*,errW_none,errW_some] <;> rfl),by repeat (first | (with_reducible first | exact HB.out | apply below_alloc | apply pw_below_drewN | apply below_drew1 | refine below_set ?_ GE101.out) | exact HB.out)⟩
   ·rw [if_neg c6] at H
    exact absurd H (by simp)
  ·rw [if_neg c5] at H
   exact absurd H (by simp)
 ·replace c3 := Bool.eq_false_iff.mpr c3
  subst c3
  have H1 : (some (⟨#[]⟩ : ByteArray)) = some r := by rw [if_neg (show ¬ (false = true) by decide)] at H;exact H
  clear H
  have H := H1
  clear H1
  obtain rfl := Option.some.inj H
  go_enter Try.func15,Try.ntmps15
  go_wp2_with (first | ((with_reducible refine gate_dst (N := 1) rfl ?_);refine box_event ?hg (N := 1) ?hd (cs := #[.int .i64 a0_0,.int .i64 a0_1]) (t := 25) ?hr ?_;(case hd => rfl);(case hg => rfl);(case hr => first | (go_simp;done) | (go_simp;rfl));intro gb101 hg w25 hbox hb;have n0_ := aZ_ (below_step T6_ hb);have n1_ := aZ_ (hbox);have n2_ := aZ_ ((T1_ : w.heap.size ≤ gb101));have n3_ := aZ_ ((T1_ : w.heap.size ≤ gb101));clear HB;have HB := n0_;have BK101 := n1_;have GW101 := n2_;have GE101 := n3_;clear n0_ n1_ n2_ n3_;clear hb hbox hg;have hcz26_0 : w25.cell? ⟨gb101,0,none⟩ = some (.int .i64 a0_0) := (blk_cell BK101.out 0).trans rfl;have hcz26_1 : w25.cell? ⟨gb101,1,none⟩ = some (.int .i64 a0_1) := (blk_cell BK101.out 1).trans rfl;have hfz26_0 := blk_frozen BK101.out 0;have hfz26_1 := blk_frozen BK101.out 1) | ((with_reducible refine gate_callee (f := 19) rfl ?_);refine goesL_ (some 6) rfl rfl Try.func19 T17_ rfl #[.agg #[.int .i64 a0_0,.int .i64 a0_1]] rfl T3_ ?_;(with_reducible refine (impl_IsTable.calls a0_0 a0_1 false _ A2.out).mono ?_);rintro e w27 ⟨rfl,hb⟩;refine ⟨_,rfl,?_⟩;have n0_ := aZ_ (blk_below (g := gb101) (o := .cells #[.int .i64 a0_0,.int .i64 a0_1] 25 (0,0)) T2_ hb);have n1_ := aZ_ (below_step T5_ hb);clear BK101;clear HB;have BK101 := n0_;have HB := n1_;clear n0_ n1_;(try clear hb);(try clear hb2);(try clear hk);(try clear hi)))
  go_ret
  exact ⟨by first | rfl | (simp [errW_none,errW_some] <;> rfl) | (simp [*,errW_none,errW_some] <;> rfl),by repeat (first | (with_reducible first | exact HB.out | apply below_alloc | apply pw_below_drewN | apply below_drew1 | refine below_set ?_ GE101.out) | exact HB.out)⟩
def impl_ParseTable.p (s : ByteArray) (x : Nat) : Bool := bt s x == 49
set_option maxHeartbeats 400000 in
theorem impl_ParseTable_1.any (s : ByteArray) (x : Nat) (hx : x < s.size) (g1 : Nat) (W : World) (h1 : W.heap[g1]? = some (.cells #[.string s] 9 (0,0))) :
  Gives Try.prog 44 #[.pointer (some ⟨g1,0,none⟩)] #[.int .i64 x] (.bool (impl_ParseTable.p s x)) W := by
 show Calls Try.prog 44 #[.int .i64 x,.pointer (some ⟨g1,0,none⟩)] W _
 have hc0 : W.cell? ⟨g1,0,none⟩ = some (.string s) := (blk_cell h1 0).trans rfl
 have hx0 : ∀ h : x < s.size,((s[x]'h).toNat : Int) = bt s x := fun h => bt_at s x h
 have h0z : (0 : Int) ≤ (x : Int) := by omega
 have hlz : (x : Int) < (s.size : Int) := by omega
 unfold impl_ParseTable.p
 clear h1
 generalize bt s x = b at hx0 ⊢
 go_enter Try.func44,Try.ntmps44
 go_wp2
 repeat (go_quiet (fail);try go_wp2)
 go_ret
 exact ⟨rfl,by repeat (first | (with_reducible first | exact Below.refl _ _ | apply pw_below_drewN | apply below_drew1) | exact Below.refl _ _)⟩
def impl_ParseTable.l0 (k : Nat) (s : ByteArray) : Nat → Nat → Option (Int × Int × Bool)
 | 0,_ => some (0,0,false)
 | d + 1,n => if s.size = 2 ^ n then (impl_FormatTable.f k n (B.tabN (impl_ParseTable.p s) (2 ^ n) : Nat)).bind fun t => if t = s then some ((n : Int),((B.tabN (impl_ParseTable.p s) (2 ^ n) : Nat) : Int),true) else some (0,0,false) else impl_ParseTable.l0 k s d (n + 1)
def impl_ParseTable.f (k : Nat) (s : ByteArray) : Option (Int × Int × Bool) := impl_ParseTable.l0 k s 6 0
set_option maxHeartbeats 2000000 in
set_option maxRecDepth 100000 in
theorem impl_ParseTable.calls (k : Nat) (s : ByteArray) (r1 r2 : Int) (r3 : Bool) (w : World) (h : impl_ParseTable.f k s = some (r1,r2,r3)) :
  Calls Try.prog 16 #[.string s] w fun e w' => e = .returned (.tuple #[.agg #[.int .i64 r1,.int .i64 r2],.bool r3]) ∧ Below w.heap.size w w' := by
 have hu := Try.underlying25
 have H : Aside0 (impl_ParseTable.l0 k s 6 0 = some (r1,r2,r3)) := ⟨h⟩
 clear h
 go_enter Try.func16,Try.ntmps16
 go_wp2
 go_loopg [6] 6 (fun gg v6 wr => ∃ n d : Nat,n + d = 6 ∧ d ≤ gg ∧ v6 = .int .i64 n ∧ Aside0 (impl_ParseTable.l0 k s d n = some (r1,r2,r3)) ∧ Aside0 (wr.heap[w.heap.size]? = some (.cells #[.string s] 9 (0,0))) ∧ Aside0 (wr.heap[w.heap.size + 1]? = some (.cells #[.int .i64 0,.int .i64 0] 25 (0,0))) ∧ Aside0 (Below w.heap.size w wr))
 case atStart => exact ⟨0,6,rfl,by omega,rfl,H,⟨blk_alloc (blk_new w _) _⟩,⟨by simpa using blk_new (w.alloc (.cells #[.string s] 9 (0,0))) (.cells #[.int .i64 0,.int .i64 0] 25 (0,0))⟩,⟨below_alloc (below_alloc (Below.refl _ _) _) _⟩⟩
 case round =>
  clear H
  obtain ⟨n,d,hnd,hg,rfl,HP,BK0,BK1,HB⟩ := hrel
  have hs0 : wr.cell? ⟨w.heap.size,0,none⟩ = some (.string s) := (blk_cell BK0.out 0).trans rfl
  cases d with
  | zero =>
   have hltz : ¬ (n : Int) < 6 := by omega
   have hd0 : wr.cell? ⟨w.heap.size + 1,0,none⟩ = some (.int .i64 0) := (blk_cell BK1.out 0).trans rfl
   have hd1 : wr.cell? ⟨w.heap.size + 1,1,none⟩ = some (.int .i64 0) := (blk_cell BK1.out 1).trans rfl
   have hf0 := blk_frozen BK1.out 0
   have hf1 := blk_frozen BK1.out 1
   have hp : some ((0 : Int),(0 : Int),false) = some (r1,r2,r3) := HP.out
   cases hp
   go_wp2
   refine bodyPost_ret (results_ct rfl _ _ (w.heap.size + 1) 25 #[.int .i64 0,.int .i64 0] (0,0) _ rfl T69_ Try.underlying25 rfl T17_) rfl ?_
   exact ⟨rfl,below_set (below_set HB.out (Nat.le_succ _)) (Nat.le_succ _)⟩
  | succ d =>
   have hn5 : n ≤ 5 := by omega
   have hltz : (n : Int) < 6 := by omega
   have h63 : (n : Int) ≤ 64 := by omega
   have h0 : (0 : Int) ≤ n := by omega
   obtain ⟨M,hM⟩ : ∃ M : Nat,M = 2 ^ n := ⟨_,rfl⟩
   have hpw : (2 : Int) ^ n = (M : Int) := by rw [hM];simp
   have hM32 : M ≤ 32 := by rw [hM];exact B.pow_le hn5
   have hwr : wrap64 (2 ^ n) = (M : Int) := by rw [hpw];exact B.wrap64_of (by omega) (by omega)
   obtain ⟨v,hv⟩ : ∃ v : Nat,v = B.tabN (impl_ParseTable.p s) (2 ^ n) := ⟨_,rfl⟩
   have HV := aZ_ hv
   have hp := HP.out
   rw [impl_ParseTable.l0,← hv,← hM] at hp
   clear HP hpw hv
   have HM := aZ_ hM
   have HN5 := aZ_ hn5
   have HGG := aZ_ (And.intro hnd hg)
   clear hM hn5 hnd hg
   by_cases hc : s.size = M
   ·rw [if_pos hc] at hp
    obtain ⟨t,hft,hp⟩ := Option.bind_eq_some_iff.mp hp
    have HFT := aZ_ hft
    have HPP := aZ_ hp
    have HC := aZ_ hc
    have hcz1 : ((s.size : Int) == (M : Int)) = true := by rw [hc];exact beq_self_eq_true _
    have hcz2 : decide ((s.size : Int) = (M : Int)) = true := decide_eq_true (by omega)
    have EG := aZ_ (enters_of Try.func44 T17_ rfl)
    clear hft hp hc
    have hcl : ((s.size : Int) = (M : Int)) := by have := HC.out;omega
    go_upto_region 4 with (fail)
    go_region
    have n0_ := aZ_ (blk_drew BK0.out)
    have n1_ := aZ_ (blk_drew BK1.out)
    have n2_ := aZ_ (below_drew1 HB.out)
    clear BK0 BK1 HB hs0
    have BK0 := n0_
    have BK1 := n1_
    have HB := n2_
    clear n0_ n1_ n2_
    generalize wr.drew = wd at BK0 BK1 HB ⊢
    have hs0 : wd.cell? ⟨w.heap.size,0,none⟩ = some (.string s) := (blk_cell BK0.out 0).trans rfl
    go_upto_region 6 with (go_at_call 43;have hmk := fun W_ hk_ => impl_makeTable.any n HN5.out (impl_ParseTable.p s) 44 #[.pointer (some ⟨w.heap.size,0,none⟩)] EG.out W_ (fun W x hx hb => impl_ParseTable_1.any s x (by rw [HC.out,HM.out];exact hx) _ W (blk_below hk_ hb));rw [← HV.out] at hmk;refine (hmk _ BK0.out).mono ?_;rintro e w2 ⟨rfl,hb⟩;clear hmk;have n0_ := aZ_ (blk_below BK0.out hb);have n1_ := aZ_ (blk_below BK1.out hb);have n2_ := aZ_ (below_step HB.out hb);clear BK0 BK1 HB hs0 hb;have BK0 := n0_;have BK1 := n1_;have HB := n2_;clear n0_ n1_ n2_)
    have BF := aZ_ (blk_new w2 (.cells #[.int .i64 n,.int .i64 v] 25 (0,0)))
    have hb := below_alloc (Below.refl w2.heap.size w2) (.cells #[.int .i64 n,.int .i64 v] 25 (0,0))
    have n0_ := aZ_ (blk_below BK0.out hb)
    have n1_ := aZ_ (blk_below BK1.out hb)
    have n2_ := aZ_ (below_step HB.out hb)
    clear BK0 BK1 HB hb
    have BK0 := n0_
    have BK1 := n1_
    have HB := n2_
    clear n0_ n1_ n2_
    obtain ⟨gf,hgf_⟩ : ∃ gf,gf = w2.heap.size := ⟨_,rfl⟩
    rw [← hgf_] at BF ⊢
    clear hgf_
    generalize w2.alloc (.cells #[.int .i64 n,.int .i64 v] 25 (0,0)) = w3 at BK0 BK1 HB BF ⊢
    have C0 := aZ_ ((blk_cell BF.out 0).trans rfl : w3.cell? ⟨gf,0,none⟩ = some (.int .i64 n))
    have C1 := aZ_ ((blk_cell BF.out 1).trans rfl : w3.cell? ⟨gf,1,none⟩ = some (.int .i64 v))
    have C2 := aZ_ ((blk_cell BK0.out 0).trans rfl : w3.cell? ⟨w.heap.size,0,none⟩ = some (.string s))
    by_cases hts : t = s
    ·subst hts
     have hne2 : decide (t = t) = true := decide_eq_true rfl
     have hz := HPP.out
     rw [if_pos rfl] at hz
     cases hz
     clear HPP
     have hb := below_drew (Below.refl w3.heap.size w3)
     have n_ : Aside0 (w3.drew.cell? ⟨gf,0,none⟩ = some (.int .i64 n)) := ⟨pw_cell_below hb C0.out⟩
     clear C0
     have C0 := n_
     clear n_
     have n_ : Aside0 (w3.drew.cell? ⟨gf,1,none⟩ = some (.int .i64 v)) := ⟨pw_cell_below hb C1.out⟩
     clear C1
     have C1 := n_
     clear n_
     have n_ : Aside0 (w3.drew.cell? ⟨w.heap.size,0,none⟩ = some (.string t)) := ⟨pw_cell_below hb C2.out⟩
     clear C2
     have C2 := n_
     clear n_
     have n_ := aZ_ (blk_below BK1.out hb)
     clear BK1
     have BK1 := n_
     clear n_
     have n_ := aZ_ (blk_below BF.out hb)
     clear BF
     have BF := n_
     clear n_
     have n_ := aZ_ (below_step HB.out hb)
     clear HB
     have HB := n_
     clear n_
     clear hb
     refine start_ (n := 4) (S := (fun w_ => w_.cell? ⟨gf,0,none⟩ = some (.int .i64 n) ∧ w_.cell? ⟨gf,1,none⟩ = some (.int .i64 v) ∧ w_.cell? ⟨w.heap.size,0,none⟩ = some (.string t))) (ds := []) #[false,false,false,false] T17_ rfl rfl ⟨C0.out,C1.out,C2.out⟩ (fun hHeld => ?_)
     generalize w3.drew = W0_ at C0 C1 C2 BK1 BF HB hHeld ⊢
     refine tZ3_ 0 (some 17) #[true,false,false,false] hHeld ?_
     refine tZ3_ 2 (some 19) #[true,false,true,false] hHeld ?_
     refine one_ (i := 1) (N := some 18) #[true,true,true,false] rfl rfl T17_ T58_ (fun K hK => ?_)
     refine gZ_ Try.func15 #[.agg #[.int .i64 n,.int .i64 v]] ?_
     with_reducible refine (impl_FormatTable.calls k n v t _ HFT.out).mono ?_
     rintro e W1_ ⟨rfl,hb⟩
     refine ⟨_,rfl,?_⟩
     have n_ : Aside0 (W1_.cell? ⟨gf,0,none⟩ = some (.int .i64 n)) := ⟨pw_cell_below hb C0.out⟩
     clear C0
     have C0 := n_
     clear n_
     have n_ : Aside0 (W1_.cell? ⟨gf,1,none⟩ = some (.int .i64 v)) := ⟨pw_cell_below hb C1.out⟩
     clear C1
     have C1 := n_
     clear n_
     have n_ : Aside0 (W1_.cell? ⟨w.heap.size,0,none⟩ = some (.string t)) := ⟨pw_cell_below hb C2.out⟩
     clear C2
     have C2 := n_
     clear n_
     have n_ := aZ_ (blk_below BK1.out hb)
     clear BK1
     have BK1 := n_
     clear n_
     have n_ := aZ_ (blk_below BF.out hb)
     clear BF
     have BF := n_
     clear n_
     have n_ := aZ_ (below_step HB.out hb)
     clear HB
     have HB := n_
     clear n_
     clear hb
     refine hK.out _ _ ⟨C0.out,C1.out,C2.out⟩ (fun hHeld => ?_)
     clear hK K
     refine norm_ (a' := ?_) ?_ ?_
     rotate_left
     ·show Act.put _ (some 18) _ = _
      simp only [Act.put,List.setIfInBounds_toArray,List.set_cons_zero,List.set_cons_succ,i64_w,i32_w]
      rfl
     refine pZ_ 3 (some 20) #[true,true,true,true] ?_
     refine done_ T17_ ?_
     have hd0 : W1_.cell? ⟨w.heap.size + 1,0,none⟩ = some (.int .i64 0) := (blk_cell BK1.out 0).trans rfl
     have hd1 : W1_.cell? ⟨w.heap.size + 1,1,none⟩ = some (.int .i64 0) := (blk_cell BK1.out 1).trans rfl
     have hf0 := blk_frozen BK1.out 0
     have hf1 := blk_frozen BK1.out 1
     have hg0 : W1_.cell? ⟨gf,0,none⟩ = some (.int .i64 n) := (blk_cell BF.out 0).trans rfl
     have hg1 : W1_.cell? ⟨gf,1,none⟩ = some (.int .i64 v) := (blk_cell BF.out 1).trans rfl
     clear C0 C1 C2
     go_wp2
     refine bodyPost_ret (results_ct rfl _ _ (w.heap.size + 1) 25 #[.int .i64 n,.int .i64 v] (0,0) _ rfl (by refine blk_put (cs := #[.int .i64 n,.int .i64 0]) ?_ 1 _ rfl;refine blk_put (cs := #[.int .i64 0,.int .i64 0]) ?_ 0 _ rfl;exact BK1.out) Try.underlying25 rfl T17_) rfl ?_
     exact ⟨rfl,below_set (below_set HB.out (Nat.le_succ _)) (Nat.le_succ _)⟩
    ·skip
     have hne2 : decide (t = s) = false := decide_eq_false hts
     have hls : (t.toList == s.toList) = false := beq_eq_false_iff_ne.mpr (fun e => hts (by rw [ByteArray.toList_eq,ByteArray.toList_eq] at e;exact ByteArray.ext (Array.toList_inj.mp e)))
     have hz := HPP.out
     rw [if_neg hts] at hz
     cases hz
     clear HPP
     have hb := below_drew (Below.refl w3.heap.size w3)
     have n_ : Aside0 (w3.drew.cell? ⟨gf,0,none⟩ = some (.int .i64 n)) := ⟨pw_cell_below hb C0.out⟩
     clear C0
     have C0 := n_
     clear n_
     have n_ : Aside0 (w3.drew.cell? ⟨gf,1,none⟩ = some (.int .i64 v)) := ⟨pw_cell_below hb C1.out⟩
     clear C1
     have C1 := n_
     clear n_
     have n_ : Aside0 (w3.drew.cell? ⟨w.heap.size,0,none⟩ = some (.string s)) := ⟨pw_cell_below hb C2.out⟩
     clear C2
     have C2 := n_
     clear n_
     have n_ := aZ_ (blk_below BK1.out hb)
     clear BK1
     have BK1 := n_
     clear n_
     have n_ := aZ_ (blk_below BF.out hb)
     clear BF
     have BF := n_
     clear n_
     have n_ := aZ_ (below_step HB.out hb)
     clear HB
     have HB := n_
     clear n_
     clear hb
     refine start_ (n := 4) (S := (fun w_ => w_.cell? ⟨gf,0,none⟩ = some (.int .i64 n) ∧ w_.cell? ⟨gf,1,none⟩ = some (.int .i64 v) ∧ w_.cell? ⟨w.heap.size,0,none⟩ = some (.string s))) (ds := []) #[false,false,false,false] T17_ rfl rfl ⟨C0.out,C1.out,C2.out⟩ (fun hHeld => ?_)
     generalize w3.drew = W0_ at C0 C1 C2 BK1 BF HB hHeld ⊢
     refine tZ3_ 0 (some 17) #[true,false,false,false] hHeld ?_
     refine tZ3_ 2 (some 19) #[true,false,true,false] hHeld ?_
     refine one_ (i := 1) (N := some 18) #[true,true,true,false] rfl rfl T17_ T58_ (fun K hK => ?_)
     refine gZ_ Try.func15 #[.agg #[.int .i64 n,.int .i64 v]] ?_
     with_reducible refine (impl_FormatTable.calls k n v t _ HFT.out).mono ?_
     rintro e W1_ ⟨rfl,hb⟩
     refine ⟨_,rfl,?_⟩
     have n_ : Aside0 (W1_.cell? ⟨gf,0,none⟩ = some (.int .i64 n)) := ⟨pw_cell_below hb C0.out⟩
     clear C0
     have C0 := n_
     clear n_
     have n_ : Aside0 (W1_.cell? ⟨gf,1,none⟩ = some (.int .i64 v)) := ⟨pw_cell_below hb C1.out⟩
     clear C1
     have C1 := n_
     clear n_
     have n_ : Aside0 (W1_.cell? ⟨w.heap.size,0,none⟩ = some (.string s)) := ⟨pw_cell_below hb C2.out⟩
     clear C2
     have C2 := n_
     clear n_
     have n_ := aZ_ (blk_below BK1.out hb)
     clear BK1
     have BK1 := n_
     clear n_
     have n_ := aZ_ (blk_below BF.out hb)
     clear BF
     have BF := n_
     clear n_
     have n_ := aZ_ (below_step HB.out hb)
     clear HB
     have HB := n_
     clear n_
     clear hb
     refine hK.out _ _ ⟨C0.out,C1.out,C2.out⟩ (fun hHeld => ?_)
     clear hK K
     refine norm_ (a' := ?_) ?_ ?_
     rotate_left
     ·show Act.put _ (some 18) _ = _
      simp only [Act.put,List.setIfInBounds_toArray,List.set_cons_zero,List.set_cons_succ,i64_w,i32_w]
      rfl
     refine pZ_ 3 (some 20) #[true,true,true,true] ?_
     refine done_ T17_ ?_
     have hd0 : W1_.cell? ⟨w.heap.size + 1,0,none⟩ = some (.int .i64 0) := (blk_cell BK1.out 0).trans rfl
     have hd1 : W1_.cell? ⟨w.heap.size + 1,1,none⟩ = some (.int .i64 0) := (blk_cell BK1.out 1).trans rfl
     have hf0 := blk_frozen BK1.out 0
     have hf1 := blk_frozen BK1.out 1
     clear C0 C1 C2
     go_wp2
     refine bodyPost_ret (results_ct rfl _ _ (w.heap.size + 1) 25 #[.int .i64 0,.int .i64 0] (0,0) _ rfl T69_ Try.underlying25 rfl T17_) rfl ?_
     exact ⟨rfl,below_set (below_set HB.out (Nat.le_succ _)) (Nat.le_succ _)⟩
   ·rw [if_neg hc] at hp
    have HPP := aZ_ hp
    have HC := aZ_ hc
    have hcz1 : ((s.size : Int) == (M : Int)) = false := beq_eq_false_iff_ne.mpr (by omega)
    have hcz2 : decide ((s.size : Int) = (M : Int)) = false := decide_eq_false (by omega)
    have hcz3 : decide (s.size = M) = false := decide_eq_false hc
    have hcz4 : ((s.size : Int) = (M : Int)) = False := eq_false (by omega)
    clear hp hc
    go_upto_region 4 with (fail)
    go_region
    have n0_ := aZ_ (blk_drew BK0.out)
    have n1_ := aZ_ (blk_drew BK1.out)
    have n2_ := aZ_ (below_drew1 HB.out)
    clear BK0 BK1 HB hs0
    have BK0 := n0_
    have BK1 := n1_
    have HB := n2_
    clear n0_ n1_ n2_
    generalize wr.drew = wd at BK0 BK1 HB ⊢
    go_wp2
    go_roundg d
    case measure => have := HGG.out.2;omega
    case rel => exact ⟨n + 1,d,by have := HGG.out.1;omega,Nat.le_refl _,by have := HN5.out;go_num,HPP,BK0,BK1,HB⟩
mutual
def spec_FormatTable.l0 : Nat → ByteArray → Int → Int → Int → Option (ByteArray)
 | 0,_,_,_,_ => none
 | k + 1,x3,x4,x102000,x102001 => (spec_IsTable.f x102000 x102001).bind fun t102 => (if t102 = true then (if 0 ≤ x102000 then (spec_FormatTable.j1 k x3 x4 (decide (x4 < (shl .i64 1 x102000))) x102000 x102001) else (none)) else (spec_FormatTable.j1 k x3 x4 false x102000 x102001))
def spec_FormatTable.j1 : Nat → ByteArray → Int → Bool → Int → Int → Option (ByteArray)
 | 0,_,_,_,_,_ => none
 | k + 1,x3,x4,x13,x102000,x102001 => if x13 = true then (if 0 ≤ x4 then (if (Go.bits .and .i64 (shr .i64 x102001 x4) 1) = 1 then (if x3.size + 1 ≤ 9223372036854775807 then (spec_FormatTable.l0 k (x3 ++ (⟨#[49]⟩ : ByteArray)) (wrap64 (x4 + 1)) x102000 x102001) else (none)) else (if x3.size + 1 ≤ 9223372036854775807 then (spec_FormatTable.l0 k (x3 ++ (⟨#[48]⟩ : ByteArray)) (wrap64 (x4 + 1)) x102000 x102001) else (none))) else (none)) else (some x3)
end
def spec_FormatTable.f (k : Nat) (a0_0 : Int) (a0_1 : Int) : Option (ByteArray) := spec_FormatTable.l0 k (⟨#[]⟩ : ByteArray) 0 a0_0 a0_1
set_option maxHeartbeats 8000000 in
set_option maxRecDepth 100000 in
theorem spec_FormatTable.calls (k : Nat) (a0_0 : Int) (a0_1 : Int) (r : ByteArray) (w : World) (h : spec_FormatTable.f k a0_0 a0_1 = some r) :
  Calls Try.prog 17 #[.agg #[.int .i64 a0_0,.int .i64 a0_1]] w fun e w' => e = .returned (.string r) ∧ Below w.heap.size w w' := by
 have hu25 := Try.underlying25
 have HB := aZ_ (Below.refl w.heap.size w)
 have H : (spec_FormatTable.l0 k (⟨#[]⟩ : ByteArray) 0 a0_0 a0_1) = some r := h
 clear h
 have H' := aZ_ H
 clear H
 go_enter Try.func17,Try.ntmps17
 go_wp2_with (first | ((with_reducible refine gate_dst (N := 1) rfl ?_);refine box_event ?hg (N := 1) ?hd (cs := #[.int .i64 a0_0,.int .i64 a0_1]) (t := 25) ?hr ?_;(case hd => rfl);(case hg => rfl);(case hr => first | (go_simp;done) | (go_simp;rfl));intro gb101 hg w2 hbox hb;have n0_ := aZ_ (below_step T6_ hb);have n1_ := aZ_ (hbox);have n2_ := aZ_ ((T1_ : w.heap.size ≤ gb101));have n3_ := aZ_ ((T1_ : w.heap.size ≤ gb101));clear HB;have HB := n0_;have BK101 := n1_;have GW101 := n2_;have GE101 := n3_;clear n0_ n1_ n2_ n3_;clear hb hbox hg))
 go_loopg [3,4] k (fun kq v3 v4 w' => ∃ (x3_1 : ByteArray) (x4_1 : Int),v3 = .string x3_1 ∧ v4 = .int .i64 x4_1 ∧ Aside0 (spec_FormatTable.l0 kq x3_1 x4_1 a0_0 a0_1 = some r) ∧ Aside0 (kq ≤ k) ∧ Aside0 (w'.heap[gb101]? = some (.cells #[.int .i64 a0_0,.int .i64 a0_1] 25 (0,0))) ∧ Aside0 (Below w.heap.size w w'))
 case atStart => exact ⟨((⟨#[]⟩ : ByteArray)),(0),T29_,T29_,H',⟨Nat.le_refl _⟩,⟨by (with_reducible repeat (first | refine blk_drewN ?_ _ | refine blk_drew ?_ | refine blk_alloc ?_ _));exact BK101.out⟩,⟨by repeat (first | (with_reducible first | exact HB.out | apply below_alloc | apply pw_below_drewN | apply below_drew1 | refine below_set ?_ GE101.out) | exact HB.out)⟩⟩
 case round =>
  clear H'
  try clear c1
  try clear p2
  obtain ⟨x3_1,x4_1,rfl,rfl,HA,HK1,BK101,HB⟩ := hrel
  cases gk with
  | zero => exact absurd HA.out (by simp [spec_FormatTable.l0])
  | succ k1 =>
   have H := HA.out
   clear HA
   simp only [spec_FormatTable.l0] at H
   have HC3 := aZ_ H
   clear H
   go_upto_region 3 with (fail)
   go_cut [13] (fun v13 wc => ∃ (kq : Nat) (x13_2 : Bool),v13 = .bool x13_2 ∧ Aside0 (spec_FormatTable.j1 kq x3_1 x4_1 x13_2 a0_0 a0_1 = some r) ∧ Aside0 (kq ≤ k1) ∧ Aside0 (wc.heap[gb101]? = some (.cells #[.int .i64 a0_0,.int .i64 a0_1] 25 (0,0))) ∧ Aside0 (Below w.heap.size w wc))
   case first =>
    have H := HC3.out
    clear HC3
    replace H := Option.bind_eq_some_iff.mp H
    obtain ⟨t102,A40,H⟩ := H
    replace H : (if t102 = true then (if 0 ≤ a0_0 then (spec_FormatTable.j1 k1 x3_1 x4_1 (decide (x4_1 < (shl .i64 1 a0_0))) a0_0 a0_1) else (none)) else (spec_FormatTable.j1 k1 x3_1 x4_1 false a0_0 a0_1)) = some r := H
    have A4 := aZ_ A40
    clear A40
    by_cases c5 : t102 = true
    ·subst c5
     have H1 : (if 0 ≤ a0_0 then (spec_FormatTable.j1 k1 x3_1 x4_1 (decide (x4_1 < (shl .i64 1 a0_0))) a0_0 a0_1) else (none)) = some r := by rw [if_pos rfl] at H;exact H
     clear H
     have H := H1
     clear H1
     by_cases c6 : 0 ≤ a0_0
     ·rw [if_pos c6] at H
      have c6b0 := eq_true c6
      have c6b1 : decide (0 ≤ a0_0) = true := decide_eq_true c6
      clear c6
      obtain ⟨ji7,hji7⟩ : ∃ j_ : Int,(shl .i64 1 a0_0) = j_ := ⟨_,rfl⟩
      replace H : (spec_FormatTable.j1 k1 x3_1 x4_1 (decide (x4_1 < (ji7))) a0_0 a0_1) = some r := by first | (rw [hji7] at H;exact H) | (simp only [hji7] at H ⊢;exact H)
      (try rw [hji7] at A4)
      have hji7_ : (IntKind.i64.wrap (1 * 2 ^ min a0_0.toNat 64)) = ji7 := hji7
      have hji7z : a0_0 ≤ 64 → (IntKind.i64.wrap (1 * 2 ^ a0_0.toNat)) = ji7 := shl_small hji7
      have hji7u : (IntKind.i64.wrap (2 ^ min a0_0.toNat 64)) = ji7 := by have h_ := hji7_;rw [Int.one_mul] at h_;exact h_
      have hji7v : a0_0 ≤ 64 → (IntKind.i64.wrap (2 ^ a0_0.toNat)) = ji7 := fun hle_ => by have h_ := hji7z hle_;rw [Int.one_mul] at h_;exact h_
      have hji7y : (wrap64 (1 * 2 ^ min a0_0.toNat 64)) = ji7 := (i64_w _).symm.trans hji7_
      have hji7x : a0_0 ≤ 64 → (wrap64 (1 * 2 ^ a0_0.toNat)) = ji7 := fun h_ => (i64_w _).symm.trans (hji7z h_)
      have H' := aZ_ H
      clear H
      have hcz8_0 : wr.cell? ⟨gb101,0,none⟩ = some (.int .i64 a0_0) := (blk_cell BK101.out 0).trans rfl
      have hcz8_1 : wr.cell? ⟨gb101,1,none⟩ = some (.int .i64 a0_1) := (blk_cell BK101.out 1).trans rfl
      have hfz8_0 := blk_frozen BK101.out 0
      have hfz8_1 := blk_frozen BK101.out 1
      go_wp2_with (first | ((with_reducible refine gate_callee (f := 18) rfl ?_);refine goesL_ (some 6) rfl rfl Try.func18 T17_ rfl #[.agg #[.int .i64 a0_0,.int .i64 a0_1]] rfl T3_ ?_;(with_reducible refine (spec_IsTable.calls a0_0 a0_1 true _ A4.out).mono ?_);rintro e w9 ⟨rfl,hb⟩;refine ⟨_,rfl,?_⟩;have n0_ := aZ_ (blk_below (g := gb101) (o := .cells #[.int .i64 a0_0,.int .i64 a0_1] 25 (0,0)) T2_ hb);have n1_ := aZ_ (below_step T5_ hb);clear BK101;clear HB;have BK101 := n0_;have HB := n1_;clear n0_ n1_;(try clear hb);(try clear hb2);(try clear hk);(try clear hi);have hcz10_0 : w9.cell? ⟨gb101,0,none⟩ = some (.int .i64 a0_0) := (blk_cell BK101.out 0).trans rfl;have hcz10_1 : w9.cell? ⟨gb101,1,none⟩ = some (.int .i64 a0_1) := (blk_cell BK101.out 1).trans rfl;have hfz10_0 := blk_frozen BK101.out 0;have hfz10_1 := blk_frozen BK101.out 1))
      go_meet
      case rel => exact ⟨_,(decide (x4_1 < (ji7))),(by first | rfl | (simp;done) | (simp only [← hji7] <;> (first | rfl | simp)) | (simp [*];done)),H',⟨by have := HK1.out;first | omega | exact Nat.le_refl _⟩,⟨by (with_reducible repeat (first | refine blk_drewN ?_ _ | refine blk_drew ?_ | refine blk_alloc ?_ _));exact BK101.out⟩,⟨by repeat (first | (with_reducible first | exact HB.out | apply below_alloc | apply pw_below_drewN | apply below_drew1 | refine below_set ?_ GE101.out) | exact HB.out)⟩⟩
     ·rw [if_neg c6] at H
      exact absurd H (by simp)
    ·replace c5 := Bool.eq_false_iff.mpr c5
     subst c5
     have H1 : (spec_FormatTable.j1 k1 x3_1 x4_1 false a0_0 a0_1) = some r := by rw [if_neg (show ¬ (false = true) by decide)] at H;exact H
     clear H
     have H := H1
     clear H1
     have H' := aZ_ H
     clear H
     have hcz11_0 : wr.cell? ⟨gb101,0,none⟩ = some (.int .i64 a0_0) := (blk_cell BK101.out 0).trans rfl
     have hcz11_1 : wr.cell? ⟨gb101,1,none⟩ = some (.int .i64 a0_1) := (blk_cell BK101.out 1).trans rfl
     have hfz11_0 := blk_frozen BK101.out 0
     have hfz11_1 := blk_frozen BK101.out 1
     go_wp2_with (first | ((with_reducible refine gate_callee (f := 18) rfl ?_);refine goesL_ (some 6) rfl rfl Try.func18 T17_ rfl #[.agg #[.int .i64 a0_0,.int .i64 a0_1]] rfl T3_ ?_;(with_reducible refine (spec_IsTable.calls a0_0 a0_1 false _ A4.out).mono ?_);rintro e w12 ⟨rfl,hb⟩;refine ⟨_,rfl,?_⟩;have n0_ := aZ_ (blk_below (g := gb101) (o := .cells #[.int .i64 a0_0,.int .i64 a0_1] 25 (0,0)) T2_ hb);have n1_ := aZ_ (below_step T5_ hb);clear BK101;clear HB;have BK101 := n0_;have HB := n1_;clear n0_ n1_;(try clear hb);(try clear hb2);(try clear hk);(try clear hi)))
     go_meet
     case rel => exact ⟨_,(false),T29_,H',⟨by have := HK1.out;first | omega | exact Nat.le_refl _⟩,⟨by (with_reducible repeat (first | refine blk_drewN ?_ _ | refine blk_drew ?_ | refine blk_alloc ?_ _));exact BK101.out⟩,⟨by repeat (first | (with_reducible first | exact HB.out | apply below_alloc | apply pw_below_drewN | apply below_drew1 | refine below_set ?_ GE101.out) | exact HB.out)⟩⟩
   case rest =>
    clear HC3
    try clear c1
    try clear p2
    try clear c5
    try clear c6
    try clear c6b0
    try clear c6b1
    try clear p6
    try clear hcz10_0
    try clear hcz10_1
    try clear hcz11_0
    try clear hcz11_1
    try clear hcz8_0
    try clear hcz8_1
    try clear hfz10_0
    try clear hfz10_1
    try clear hfz11_0
    try clear hfz11_1
    try clear hfz8_0
    try clear hfz8_1
    try clear p2
    obtain ⟨kq,x13_2,rfl,HA,HJ2,BK101,HB⟩ := hcut
    cases kq with
    | zero => exact absurd HA.out (by simp [spec_FormatTable.j1])
    | succ kj2 =>
     have H := HA.out
     clear HA
     simp only [spec_FormatTable.j1] at H
     by_cases c13 : x13_2 = true
     ·subst c13
      have H1 : (if 0 ≤ x4_1 then (if (Go.bits .and .i64 (shr .i64 a0_1 x4_1) 1) = 1 then (if x3_1.size + 1 ≤ 9223372036854775807 then (spec_FormatTable.l0 kj2 (x3_1 ++ (⟨#[49]⟩ : ByteArray)) (wrap64 (x4_1 + 1)) a0_0 a0_1) else (none)) else (if x3_1.size + 1 ≤ 9223372036854775807 then (spec_FormatTable.l0 kj2 (x3_1 ++ (⟨#[48]⟩ : ByteArray)) (wrap64 (x4_1 + 1)) a0_0 a0_1) else (none))) else (none)) = some r := by rw [if_pos rfl] at H;exact H
      clear H
      have H := H1
      clear H1
      by_cases c14 : 0 ≤ x4_1
      ·rw [if_pos c14] at H
       have c14b0 := eq_true c14
       have c14b1 : decide (0 ≤ x4_1) = true := decide_eq_true c14
       clear c14
       obtain ⟨ji15,hji15⟩ : ∃ j_ : Int,(shr .i64 a0_1 x4_1) = j_ := ⟨_,rfl⟩
       replace H : (if (Go.bits .and .i64 (ji15) 1) = 1 then (if x3_1.size + 1 ≤ 9223372036854775807 then (spec_FormatTable.l0 kj2 (x3_1 ++ (⟨#[49]⟩ : ByteArray)) (wrap64 (x4_1 + 1)) a0_0 a0_1) else (none)) else (if x3_1.size + 1 ≤ 9223372036854775807 then (spec_FormatTable.l0 kj2 (x3_1 ++ (⟨#[48]⟩ : ByteArray)) (wrap64 (x4_1 + 1)) a0_0 a0_1) else (none))) = some r := by first | (rw [hji15] at H;exact H) | (simp only [hji15] at H ⊢;exact H)
       have hji15_ : (a0_1 / 2 ^ min x4_1.toNat 64) = ji15 := hji15
       have hji15z : x4_1 ≤ 64 → (a0_1 / 2 ^ x4_1.toNat) = ji15 := shr_small hji15
       by_cases c16 : (Go.bits .and .i64 (ji15) 1) = 1
       ·rw [if_pos c16] at H
        have c16b0 : ((Go.bits .and .i64 (ji15) 1) == 1) = true := beq_iff_eq.mpr c16
        have c16b1 : ((Go.bits .and .i64 (ji15) 1) != 1) = false := bne_eq_false_iff_eq.mpr c16
        clear c16
        by_cases c17 : x3_1.size + 1 ≤ 9223372036854775807
        ·rw [if_pos c17] at H
         have c17b0 := eq_true c17
         have c17b1 : decide (x3_1.size + 1 ≤ 9223372036854775807) = true := decide_eq_true c17
         try have c17b2 : (9223372036854775807 < x3_1.size + 1) = False := eq_false (Nat.not_lt.2 c17)
         have H' := aZ_ H
         clear H
         have hcz18_0 : wc.cell? ⟨gb101,0,none⟩ = some (.int .i64 a0_0) := (blk_cell BK101.out 0).trans rfl
         have hcz18_1 : wc.cell? ⟨gb101,1,none⟩ = some (.int .i64 a0_1) := (blk_cell BK101.out 1).trans rfl
         have hfz18_0 := blk_frozen BK101.out 0
         have hfz18_1 := blk_frozen BK101.out 1
         go_wp2
         go_roundg kj2
         case measure => have := HK1.out;have := HJ2.out;omega
         case rel => exact ⟨(x3_1 ++ (⟨#[49]⟩ : ByteArray)),(wrap64 (x4_1 + 1)),T29_,T29_,H',⟨by have := HK1.out;have := HJ2.out;omega⟩,⟨by (with_reducible repeat (first | refine blk_drewN ?_ _ | refine blk_drew ?_ | refine blk_alloc ?_ _));exact BK101.out⟩,⟨by repeat (first | (with_reducible first | exact HB.out | apply below_alloc | apply pw_below_drewN | apply below_drew1 | refine below_set ?_ GE101.out) | exact HB.out)⟩⟩
        ·rw [if_neg c17] at H
         exact absurd H (by simp)
       ·rw [if_neg c16] at H
        have c16b0 : ((Go.bits .and .i64 (ji15) 1) == 1) = false := beq_eq_false_iff_ne.mpr c16
        have c16b1 : ((Go.bits .and .i64 (ji15) 1) != 1) = true := bne_iff_ne.mpr c16
        by_cases c19 : x3_1.size + 1 ≤ 9223372036854775807
        ·rw [if_pos c19] at H
         have c19b0 := eq_true c19
         have c19b1 : decide (x3_1.size + 1 ≤ 9223372036854775807) = true := decide_eq_true c19
         try have c19b2 : (9223372036854775807 < x3_1.size + 1) = False := eq_false (Nat.not_lt.2 c19)
         have H' := aZ_ H
         clear H
         have hcz20_0 : wc.cell? ⟨gb101,0,none⟩ = some (.int .i64 a0_0) := (blk_cell BK101.out 0).trans rfl
         have hcz20_1 : wc.cell? ⟨gb101,1,none⟩ = some (.int .i64 a0_1) := (blk_cell BK101.out 1).trans rfl
         have hfz20_0 := blk_frozen BK101.out 0
         have hfz20_1 := blk_frozen BK101.out 1
         go_wp2
         go_roundg kj2
         case measure => have := HK1.out;have := HJ2.out;omega
         case rel => exact ⟨(x3_1 ++ (⟨#[48]⟩ : ByteArray)),(wrap64 (x4_1 + 1)),T29_,T29_,H',⟨by have := HK1.out;have := HJ2.out;omega⟩,⟨by (with_reducible repeat (first | refine blk_drewN ?_ _ | refine blk_drew ?_ | refine blk_alloc ?_ _));exact BK101.out⟩,⟨by repeat (first | (with_reducible first | exact HB.out | apply below_alloc | apply pw_below_drewN | apply below_drew1 | refine below_set ?_ GE101.out) | exact HB.out)⟩⟩
        ·rw [if_neg c19] at H
         exact absurd H (by simp)
      ·rw [if_neg c14] at H
       exact absurd H (by simp)
     ·replace c13 := Bool.eq_false_iff.mpr c13
      subst c13
      have H1 : (some x3_1) = some r := by rw [if_neg (show ¬ (false = true) by decide)] at H;exact H
      clear H
      have H := H1
      clear H1
      obtain rfl := Option.some.inj H
      go_wp2
      go_ret
      exact ⟨by first | rfl | (simp [errW_none,errW_some] <;> rfl) | (simp [*,errW_none,errW_some] <;> rfl),by repeat (first | (with_reducible first | exact HB.out | apply below_alloc | apply pw_below_drewN | apply below_drew1 | refine below_set ?_ GE101.out) | exact HB.out)⟩
def spec_l1Text.l0 : Nat → List Int → Int → Int → List Int → Int → Int → Option (ByteArray × Int × Int)
 | 0,_,_,_,_,_,_ => none
 | k + 1,x5,x6,x7,x1000,x1001,x1002 => if x7 > 0 then ((spec_l1Byte.f x1000 x1001 x1002).bind fun bt110 => (if x6 = 1 then (if x6 = 2 then (if x5.length < 140737488355328 then (spec_l1Text.l0 k (x5 ++ [(wrap64 (97 + (Int.tmod (Int.tmod bt110.1 2) 4))) % 256]) x6 (wrap64 (x7 - 1)) x1000 bt110.2.1 bt110.2.2) else (none)) else (if x5.length < 140737488355328 then (spec_l1Text.l0 k (x5 ++ [(Int.tmod bt110.1 2) % 256]) x6 (wrap64 (x7 - 1)) x1000 bt110.2.1 bt110.2.2) else (none))) else (if x6 = 2 then (if x5.length < 140737488355328 then (spec_l1Text.l0 k (x5 ++ [(wrap64 (97 + (Int.tmod bt110.1 4))) % 256]) x6 (wrap64 (x7 - 1)) x1000 bt110.2.1 bt110.2.2) else (none)) else (if x5.length < 140737488355328 then (spec_l1Text.l0 k (x5 ++ [(bt110.1) % 256]) x6 (wrap64 (x7 - 1)) x1000 bt110.2.1 bt110.2.2) else (none))))) else (some (strOfNums x5,x1001,x1002))
def spec_l1Text.f (k : Nat) (s0_0 : List Int) (s0_1 : Int) (s0_2 : Int) (a1 : Int) : Option (ByteArray × Int × Int) := (spec_l1Below.f s0_0 s0_1 s0_2 4).bind fun bt104 => ((spec_l1Below.f s0_0 bt104.2.1 bt104.2.2 (wrap64 (a1 + 1))).bind fun bt107 => (spec_l1Text.l0 k (([] : List Int)) bt104.1 bt107.1 s0_0 bt107.2.1 bt107.2.2))
set_option maxHeartbeats 8000000 in
set_option maxRecDepth 100000 in
theorem spec_l1Text.calls (k : Nat) (g : Nat) (s0_0 : List Int) (s0_1 : Int) (s0_2 : Int) (a1 : Int) (r1 : ByteArray) (r2 : Int) (r3 : Int) (w0 w : World) (hI : IsS66 w0 w g s0_0 s0_1 s0_2) (hB : Below w0.heap.size w0 w) (h : spec_l1Text.f k s0_0 s0_1 s0_2 a1 = some (r1,r2,r3)) :
  Calls Try.prog 61 #[.pointer (some ⟨g,0,none⟩),.int .i64 a1] w fun e w' => e = .returned (.string r1) ∧ IsS66 w0 w' g s0_0 r2 r3 ∧ Below w0.heap.size w0 w' ∧ KeepBut w w' g none := by
 have HI0 := aZ_ hI
 have HK := aZ_ (KeepBut.refl w g none)
 have HL := aZ_ hB.size
 clear hI
 have HW0 := aZ_ hB.size
 have HB := aZ_ hB
 clear hB
 have H : ((spec_l1Below.f s0_0 s0_1 s0_2 4).bind fun bt104 => ((spec_l1Below.f s0_0 bt104.2.1 bt104.2.2 (wrap64 (a1 + 1))).bind fun bt107 => (spec_l1Text.l0 k (([] : List Int)) bt104.1 bt107.1 s0_0 bt107.2.1 bt107.2.2))) = some (r1,r2,r3) := h
 clear h
 obtain ⟨y101,hy101⟩ : ∃ y_ : List Int,y_ = (([] : List Int)) := ⟨_,rfl⟩
 replace H : ((spec_l1Below.f s0_0 s0_1 s0_2 4).bind fun bt104 => ((spec_l1Below.f s0_0 bt104.2.1 bt104.2.2 (wrap64 (a1 + 1))).bind fun bt107 => (spec_l1Text.l0 k y101 bt104.1 bt107.1 s0_0 bt107.2.1 bt107.2.2))) = some (r1,r2,r3) := by first | (rw [hy101];with_reducible exact H) | (have H2_ := (Option.bind_some _ _).symm.trans H;rw [hy101];with_reducible exact H2_) | (have H2_ := (Option.bind_some _ _).symm.trans H;with_reducible exact H2_) | with_reducible exact H | (rw [hy101];exact H) | exact H
 have Ny101 := aZ_ hy101
 clear hy101
 replace H := Option.bind_eq_some_iff.mp H
 obtain ⟨⟨t104,t105,t106⟩,A30,H⟩ := H
 replace H : ((spec_l1Below.f s0_0 t105 t106 (wrap64 (a1 + 1))).bind fun bt107 => (spec_l1Text.l0 k y101 t104 bt107.1 s0_0 bt107.2.1 bt107.2.2)) = some (r1,r2,r3) := H
 have A3 := aZ_ A30
 clear A30
 replace H := Option.bind_eq_some_iff.mp H
 obtain ⟨⟨t107,t108,t109⟩,A40,H⟩ := H
 replace H : (spec_l1Text.l0 k y101 t104 t107 s0_0 t108 t109) = some (r1,r2,r3) := H
 have A4 := aZ_ A40
 clear A40
 have H' := aZ_ H
 clear H
 go_enter Try.func61,Try.ntmps61
 go_wp2_with (first | ((with_reducible refine gate_dst (N := 9) rfl ?_);refine Kd.R_lit (Kd.int .u8) _ 5 ?hg (N := 9) ?hd (xs := ([] : List Int)) (inner := []) (ok := fun _ => True) (okp := fun _ => True) ?hr ?hp (fun _ hk => hk) trivial (Below.refl _ _) (Nat.le_refl _) (by simp) ?_;(case hd => rfl);(case hg => rfl);(case hr => first | (go_simp;done) | (go_simp;rfl));(case hp => exact (Reps.none _ _));intro v102 w5 ho6 hb hg_ hnew_;clear hg_ hnew_;(first | rw [← Ny101.out] at ho6 | (simp only [Int.reduceToNat] at ho6;rw [← Ny101.out] at ho6));have n0_ := aZ_ (Kd.R_lower ho6 (keep_size (w := w) (g := g) (row := none) T10_));have n1_ := aZ_ (IsS66.below T24_ hb);have n2_ := aZ_ (KeepBut.trans T10_ (KeepBut.of_below hb g none) (.inl rfl));have n3_ := aZ_ (below_step T20_ hb);clear HI0;clear HK;clear HB;have HO103 := n0_;have HI0 := n1_;have HK := n2_;have HB := n3_;clear n0_ n1_ n2_ n3_;clear hb ho6) | ((with_reducible refine gate_callee (f := 51) rfl ?_);refine goesL_ (some 11) rfl rfl Try.func51 T17_ rfl #[.pointer (some ⟨g,0,none⟩),.int .i64 4] rfl T3_ ?_;(with_reducible refine (spec_l1Below.calls g s0_0 s0_1 s0_2 4 t104 t105 t106 w0 _ ?side1 ?side2 A3.out).mono ?_);(case side1 => repeat (first | (with_reducible first | exact HI0.out | apply IsS66.alloc | apply IsS66.drewN | apply IsS66.drew | apply IsS66.set_1 | apply IsS66.set_2) | exact HI0.out));(case side2 => repeat (first | (with_reducible first | exact HB.out | apply below_alloc | apply pw_below_drewN | apply below_drew1 | refine below_set ?_ (IsS66.ge HI0.out)) | exact HB.out));rintro e w7 ⟨rfl,hi,hb,hk⟩;refine ⟨_,rfl,?_⟩;have n0_ := aZ_ (Kd.R_mono (Kd.R_keep (IsS66.apart (show IsS66 w0 _ g s0_0 s0_1 s0_2 from by repeat (first | (with_reducible first | exact HI0.out | apply IsS66.alloc | apply IsS66.drewN | apply IsS66.drew | apply IsS66.set_1 | apply IsS66.set_2) | exact HI0.out)) (by (with_reducible repeat (first | apply Kd.R_alloc | apply Kd.R_drewN | apply Kd.R_drew));exact HO103.out) T58_) hk (fun _ h => h.2)) (fun _ h => h.1));have n1_ := aZ_ (KeepBut.trans T10_ hk (.inl rfl));have n2_ := aZ_ (hb);have n3_ := aZ_ (hi);clear HO103;clear HK;clear HB;clear HI0;have HO103 := n0_;have HK := n1_;have HB := n2_;have HI0 := n3_;clear n0_ n1_ n2_ n3_;(try clear hb);(try clear hb2);(try clear hk);(try clear hi)) | ((with_reducible refine gate_callee (f := 51) rfl ?_);refine goesL_ (some 15) rfl rfl Try.func51 T17_ rfl #[.pointer (some ⟨g,0,none⟩),.int .i64 (wrap64 (a1 + 1))] rfl T3_ ?_;(with_reducible refine (spec_l1Below.calls g s0_0 t105 t106 (wrap64 (a1 + 1)) t107 t108 t109 w0 _ ?side1 ?side2 A4.out).mono ?_);(case side1 => repeat (first | (with_reducible first | exact HI0.out | apply IsS66.alloc | apply IsS66.drewN | apply IsS66.drew | apply IsS66.set_1 | apply IsS66.set_2) | exact HI0.out));(case side2 => repeat (first | (with_reducible first | exact HB.out | apply below_alloc | apply pw_below_drewN | apply below_drew1 | refine below_set ?_ (IsS66.ge HI0.out)) | exact HB.out));rintro e w8 ⟨rfl,hi,hb,hk⟩;refine ⟨_,rfl,?_⟩;have n0_ := aZ_ (Kd.R_mono (Kd.R_keep (IsS66.apart (show IsS66 w0 _ g s0_0 t105 t106 from by repeat (first | (with_reducible first | exact HI0.out | apply IsS66.alloc | apply IsS66.drewN | apply IsS66.drew | apply IsS66.set_1 | apply IsS66.set_2) | exact HI0.out)) (by (with_reducible repeat (first | apply Kd.R_alloc | apply Kd.R_drewN | apply Kd.R_drew));exact HO103.out) T58_) hk (fun _ h => h.2)) (fun _ h => h.1));have n1_ := aZ_ (KeepBut.trans T10_ hk (.inl rfl));have n2_ := aZ_ (hb);have n3_ := aZ_ (hi);clear HO103;clear HK;clear HB;clear HI0;have HO103 := n0_;have HK := n1_;have HB := n2_;have HI0 := n3_;clear n0_ n1_ n2_ n3_;(try clear hb);(try clear hb2);(try clear hk);(try clear hi)))
 go_loopg [5,7] k (fun kq v5 v7 w' => ∃ (x5_1 : List Int) (x7_1 : Int) (x1001_1 : Int) (x1002_1 : Int),v7 = .int .i64 x7_1 ∧ Aside0 (spec_l1Text.l0 kq x5_1 t104 x7_1 s0_0 x1001_1 x1002_1 = some (r1,r2,r3)) ∧ Aside0 (kq ≤ k) ∧ Aside0 (Kd.R (Kd.int .u8) 5 w' w.heap.size (fun _ => True) v5 x5_1) ∧ Aside0 (IsS66 w0 w' g s0_0 x1001_1 x1002_1) ∧ Aside0 (KeepBut w w' g none) ∧ Aside0 (Below w0.heap.size w0 w'))
 case atStart => exact ⟨(y101),(t107),(t108),(t109),T29_,H',⟨Nat.le_refl _⟩,⟨by (with_reducible repeat (first | apply Kd.R_alloc | apply Kd.R_drewN | apply Kd.R_drew));exact HO103.out⟩,⟨by repeat (first | (with_reducible first | exact HI0.out | apply IsS66.alloc | apply IsS66.drewN | apply IsS66.drew | apply IsS66.set_1 | apply IsS66.set_2) | exact HI0.out)⟩,⟨by repeat (first | (with_reducible first | exact HK.out | apply KeepBut.set_ | apply keep_drewN | apply keep_drew | apply keep_alloc) | exact HK.out)⟩,⟨by repeat (first | (with_reducible first | exact HB.out | apply below_alloc | apply pw_below_drewN | apply below_drew1 | refine below_set ?_ (IsS66.ge HI0.out)) | exact HB.out)⟩⟩
 case round =>
  clear H'
  try clear p2
  try clear c5
  try clear c6
  try clear p6
  obtain ⟨x5_1,x7_1,x1001_1,x1002_1,rfl,HA,HK1,HO_5,HI0,HK,HB⟩ := hrel
  cases gk with
  | zero => exact absurd HA.out (by simp [spec_l1Text.l0])
  | succ k1 =>
   have H := HA.out
   clear HA
   simp only [spec_l1Text.l0] at H
   by_cases c9 : x7_1 > 0
   ·rw [if_pos c9] at H
    have c9b0 : decide (0 < x7_1) = true := decide_eq_true c9
    clear c9
    replace H := Option.bind_eq_some_iff.mp H
    obtain ⟨⟨t110,t111,t112⟩,A100,H⟩ := H
    replace H : (if t104 = 1 then (if t104 = 2 then (if x5_1.length < 140737488355328 then (spec_l1Text.l0 k1 (x5_1 ++ [(wrap64 (97 + (Int.tmod (Int.tmod t110 2) 4))) % 256]) t104 (wrap64 (x7_1 - 1)) s0_0 t111 t112) else (none)) else (if x5_1.length < 140737488355328 then (spec_l1Text.l0 k1 (x5_1 ++ [(Int.tmod t110 2) % 256]) t104 (wrap64 (x7_1 - 1)) s0_0 t111 t112) else (none))) else (if t104 = 2 then (if x5_1.length < 140737488355328 then (spec_l1Text.l0 k1 (x5_1 ++ [(wrap64 (97 + (Int.tmod t110 4))) % 256]) t104 (wrap64 (x7_1 - 1)) s0_0 t111 t112) else (none)) else (if x5_1.length < 140737488355328 then (spec_l1Text.l0 k1 (x5_1 ++ [(t110) % 256]) t104 (wrap64 (x7_1 - 1)) s0_0 t111 t112) else (none)))) = some (r1,r2,r3) := H
    have A10 := aZ_ A100
    clear A100
    by_cases c11 : t104 = 1
    ·rw [if_pos c11] at H
     have c11b0 : (t104 == 1) = true := beq_iff_eq.mpr c11
     have c11b1 : (t104 != 1) = false := bne_eq_false_iff_eq.mpr c11
     clear c11
     by_cases c12 : t104 = 2
     ·rw [if_pos c12] at H
      have c12b0 : (t104 == 2) = true := beq_iff_eq.mpr c12
      have c12b1 : (t104 != 2) = false := bne_eq_false_iff_eq.mpr c12
      clear c12
      by_cases c13 : x5_1.length < 140737488355328
      ·rw [if_pos c13] at H
       have LMc13 := aZ_ c13
       clear c13
       obtain ⟨y113,hy113⟩ : ∃ y_ : List Int,y_ = (x5_1 ++ [(wrap64 (97 + (Int.tmod (Int.tmod t110 2) 4))) % 256]) := ⟨_,rfl⟩
       replace H : (spec_l1Text.l0 k1 y113 t104 (wrap64 (x7_1 - 1)) s0_0 t111 t112) = some (r1,r2,r3) := by first | (rw [hy113];with_reducible exact H) | (have H2_ := (Option.bind_some _ _).symm.trans H;rw [hy113];with_reducible exact H2_) | (have H2_ := (Option.bind_some _ _).symm.trans H;with_reducible exact H2_) | with_reducible exact H | (rw [hy113];exact H) | exact H
       have Ny113 := aZ_ hy113
       clear hy113
       have H' := aZ_ H
       clear H
       go_wp2_with (first | ((with_reducible refine gate_callee (f := 62) rfl ?_);refine goesL_ (some 21) rfl rfl Try.func62 T17_ rfl #[.pointer (some ⟨g,0,none⟩)] rfl T3_ ?_;(with_reducible refine (spec_l1Byte.calls g s0_0 x1001_1 x1002_1 t110 t111 t112 w0 _ ?side1 ?side2 A10.out).mono ?_);(case side1 => repeat (first | (with_reducible first | exact HI0.out | apply IsS66.alloc | apply IsS66.drewN | apply IsS66.drew | apply IsS66.set_1 | apply IsS66.set_2) | exact HI0.out));(case side2 => repeat (first | (with_reducible first | exact HB.out | apply below_alloc | apply pw_below_drewN | apply below_drew1 | refine below_set ?_ (IsS66.ge HI0.out)) | exact HB.out));rintro e w14 ⟨rfl,hi,hb,hk⟩;refine ⟨_,rfl,?_⟩;have n0_ := aZ_ (Kd.R_mono (Kd.R_keep (IsS66.apart (show IsS66 w0 _ g s0_0 x1001_1 x1002_1 from by repeat (first | (with_reducible first | exact HI0.out | apply IsS66.alloc | apply IsS66.drewN | apply IsS66.drew | apply IsS66.set_1 | apply IsS66.set_2) | exact HI0.out)) T51_ T58_) hk (fun _ h => h.2)) (fun _ h => h.1));have n1_ := aZ_ (KeepBut.trans T10_ hk (.inl rfl));have n2_ := aZ_ (hb);have n3_ := aZ_ (hi);clear HO_5;clear HK;clear HB;clear HI0;have HO_5 := n0_;have HK := n1_;have HB := n2_;have HI0 := n3_;clear n0_ n1_ n2_ n3_;(try clear hb);(try clear hb2);(try clear hk);(try clear hi)) | ((with_reducible refine gate_builtin (b := .append) (xs := #[.tmp 31,.tmp 34]) rfl ?_);at_builtin;refine Kd.R_append (Kd.int .u8) w.heap.size rfl (.tmp 31) (.tmp 34) 22 5 (.int .u8 0) 1 rfl Try.underlying22 info5 rfl T58_ (by omega) u5 x5_1 ((wrap64 (97 + (Int.tmod (Int.tmod t110 2) 4))) % 256) [.int .u8 ((wrap64 (97 + (Int.tmod (Int.tmod t110 2) 4))) % 256)] (fun _ => True) (fun _ => False) rfl rfl ?aP (fun _ hk => hk.elim) ?aF ?aO (Below.refl _ _) ?aS ?aL ?_;(case aP => exact rfl);(case aF => exact (fun _ _ => trivial));(case aO => exact T51_);(case aS => exact (keep_size (w := w) (g := g) (row := none) T10_));(case aL => have := LMc13.out;omega);intro v114 w15 ho hb hg hat;rw [← Ny113.out] at ho;have n0_ := aZ_ (IsS66.grown T24_ hg (IsS66.own_ne HI0.out HO_5.out T58_));have n1_ := aZ_ (below_weaken T20_ HL.out hb);have n2_ := aZ_ (KeepBut.trans T10_ (KeepBut.of_grown hg g) (Kd.R_base2 HO_5.out));have n3_ := aZ_ (ho);clear HI0;clear HB;clear HK;clear HO_5;have HI0 := n0_;have HB := n1_;have HK := n2_;have HO115 := n3_;clear n0_ n1_ n2_ n3_;clear ho hb hg hat))
       go_roundg k1
       case measure => have := HK1.out;omega
       case rel => exact ⟨(y113),(wrap64 (x7_1 - 1)),(t111),(t112),T29_,H',⟨by have := HK1.out;omega⟩,⟨by (with_reducible repeat (first | apply Kd.R_alloc | apply Kd.R_drewN | apply Kd.R_drew));exact HO115.out⟩,⟨by repeat (first | (with_reducible first | exact HI0.out | apply IsS66.alloc | apply IsS66.drewN | apply IsS66.drew | apply IsS66.set_1 | apply IsS66.set_2) | exact HI0.out)⟩,⟨by repeat (first | (with_reducible first | exact HK.out | apply KeepBut.set_ | apply keep_drewN | apply keep_drew | apply keep_alloc) | exact HK.out)⟩,⟨by repeat (first | (with_reducible first | exact HB.out | apply below_alloc | apply pw_below_drewN | apply below_drew1 | refine below_set ?_ (IsS66.ge HI0.out)) | exact HB.out)⟩⟩
      ·rw [if_neg c13] at H
       exact absurd H (by simp)
     ·rw [if_neg c12] at H
      have c12b0 : (t104 == 2) = false := beq_eq_false_iff_ne.mpr c12
      have c12b1 : (t104 != 2) = true := bne_iff_ne.mpr c12
      by_cases c16 : x5_1.length < 140737488355328
      ·rw [if_pos c16] at H
       have LMc16 := aZ_ c16
       clear c16
       obtain ⟨y116,hy116⟩ : ∃ y_ : List Int,y_ = (x5_1 ++ [(Int.tmod t110 2) % 256]) := ⟨_,rfl⟩
       replace H : (spec_l1Text.l0 k1 y116 t104 (wrap64 (x7_1 - 1)) s0_0 t111 t112) = some (r1,r2,r3) := by first | (rw [hy116];with_reducible exact H) | (have H2_ := (Option.bind_some _ _).symm.trans H;rw [hy116];with_reducible exact H2_) | (have H2_ := (Option.bind_some _ _).symm.trans H;with_reducible exact H2_) | with_reducible exact H | (rw [hy116];exact H) | exact H
       have Ny116 := aZ_ hy116
       clear hy116
       have H' := aZ_ H
       clear H
       go_wp2_with (first | ((with_reducible refine gate_callee (f := 62) rfl ?_);refine goesL_ (some 21) rfl rfl Try.func62 T17_ rfl #[.pointer (some ⟨g,0,none⟩)] rfl T3_ ?_;(with_reducible refine (spec_l1Byte.calls g s0_0 x1001_1 x1002_1 t110 t111 t112 w0 _ ?side1 ?side2 A10.out).mono ?_);(case side1 => repeat (first | (with_reducible first | exact HI0.out | apply IsS66.alloc | apply IsS66.drewN | apply IsS66.drew | apply IsS66.set_1 | apply IsS66.set_2) | exact HI0.out));(case side2 => repeat (first | (with_reducible first | exact HB.out | apply below_alloc | apply pw_below_drewN | apply below_drew1 | refine below_set ?_ (IsS66.ge HI0.out)) | exact HB.out));rintro e w17 ⟨rfl,hi,hb,hk⟩;refine ⟨_,rfl,?_⟩;have n0_ := aZ_ (Kd.R_mono (Kd.R_keep (IsS66.apart (show IsS66 w0 _ g s0_0 x1001_1 x1002_1 from by repeat (first | (with_reducible first | exact HI0.out | apply IsS66.alloc | apply IsS66.drewN | apply IsS66.drew | apply IsS66.set_1 | apply IsS66.set_2) | exact HI0.out)) T51_ T58_) hk (fun _ h => h.2)) (fun _ h => h.1));have n1_ := aZ_ (KeepBut.trans T10_ hk (.inl rfl));have n2_ := aZ_ (hb);have n3_ := aZ_ (hi);clear HO_5;clear HK;clear HB;clear HI0;have HO_5 := n0_;have HK := n1_;have HB := n2_;have HI0 := n3_;clear n0_ n1_ n2_ n3_;(try clear hb);(try clear hb2);(try clear hk);(try clear hi)) | ((with_reducible refine gate_builtin (b := .append) (xs := #[.tmp 31,.tmp 34]) rfl ?_);at_builtin;refine Kd.R_append (Kd.int .u8) w.heap.size rfl (.tmp 31) (.tmp 34) 22 5 (.int .u8 0) 1 rfl Try.underlying22 info5 rfl T58_ (by omega) u5 x5_1 ((Int.tmod t110 2) % 256) [.int .u8 ((Int.tmod t110 2) % 256)] (fun _ => True) (fun _ => False) rfl rfl ?aP (fun _ hk => hk.elim) ?aF ?aO (Below.refl _ _) ?aS ?aL ?_;(case aP => exact rfl);(case aF => exact (fun _ _ => trivial));(case aO => exact T51_);(case aS => exact (keep_size (w := w) (g := g) (row := none) T10_));(case aL => have := LMc16.out;omega);intro v117 w18 ho hb hg hat;rw [← Ny116.out] at ho;have n0_ := aZ_ (IsS66.grown T24_ hg (IsS66.own_ne HI0.out HO_5.out T58_));have n1_ := aZ_ (below_weaken T20_ HL.out hb);have n2_ := aZ_ (KeepBut.trans T10_ (KeepBut.of_grown hg g) (Kd.R_base2 HO_5.out));have n3_ := aZ_ (ho);clear HI0;clear HB;clear HK;clear HO_5;have HI0 := n0_;have HB := n1_;have HK := n2_;have HO118 := n3_;clear n0_ n1_ n2_ n3_;clear ho hb hg hat))
       go_roundg k1
       case measure => have := HK1.out;omega
       case rel => exact ⟨(y116),(wrap64 (x7_1 - 1)),(t111),(t112),T29_,H',⟨by have := HK1.out;omega⟩,⟨by (with_reducible repeat (first | apply Kd.R_alloc | apply Kd.R_drewN | apply Kd.R_drew));exact HO118.out⟩,⟨by repeat (first | (with_reducible first | exact HI0.out | apply IsS66.alloc | apply IsS66.drewN | apply IsS66.drew | apply IsS66.set_1 | apply IsS66.set_2) | exact HI0.out)⟩,⟨by repeat (first | (with_reducible first | exact HK.out | apply KeepBut.set_ | apply keep_drewN | apply keep_drew | apply keep_alloc) | exact HK.out)⟩,⟨by repeat (first | (with_reducible first | exact HB.out | apply below_alloc | apply pw_below_drewN | apply below_drew1 | refine below_set ?_ (IsS66.ge HI0.out)) | exact HB.out)⟩⟩
      ·rw [if_neg c16] at H
       exact absurd H (by simp)
    ·rw [if_neg c11] at H
     have c11b0 : (t104 == 1) = false := beq_eq_false_iff_ne.mpr c11
     have c11b1 : (t104 != 1) = true := bne_iff_ne.mpr c11
     by_cases c19 : t104 = 2
     ·rw [if_pos c19] at H
      have c19b0 : (t104 == 2) = true := beq_iff_eq.mpr c19
      have c19b1 : (t104 != 2) = false := bne_eq_false_iff_eq.mpr c19
      clear c19
      by_cases c20 : x5_1.length < 140737488355328
      ·rw [if_pos c20] at H
       have LMc20 := aZ_ c20
       clear c20
       obtain ⟨y119,hy119⟩ : ∃ y_ : List Int,y_ = (x5_1 ++ [(wrap64 (97 + (Int.tmod t110 4))) % 256]) := ⟨_,rfl⟩
       replace H : (spec_l1Text.l0 k1 y119 t104 (wrap64 (x7_1 - 1)) s0_0 t111 t112) = some (r1,r2,r3) := by first | (rw [hy119];with_reducible exact H) | (have H2_ := (Option.bind_some _ _).symm.trans H;rw [hy119];with_reducible exact H2_) | (have H2_ := (Option.bind_some _ _).symm.trans H;with_reducible exact H2_) | with_reducible exact H | (rw [hy119];exact H) | exact H
       have Ny119 := aZ_ hy119
       clear hy119
       have H' := aZ_ H
       clear H
       go_wp2_with (first | ((with_reducible refine gate_callee (f := 62) rfl ?_);refine goesL_ (some 21) rfl rfl Try.func62 T17_ rfl #[.pointer (some ⟨g,0,none⟩)] rfl T3_ ?_;(with_reducible refine (spec_l1Byte.calls g s0_0 x1001_1 x1002_1 t110 t111 t112 w0 _ ?side1 ?side2 A10.out).mono ?_);(case side1 => repeat (first | (with_reducible first | exact HI0.out | apply IsS66.alloc | apply IsS66.drewN | apply IsS66.drew | apply IsS66.set_1 | apply IsS66.set_2) | exact HI0.out));(case side2 => repeat (first | (with_reducible first | exact HB.out | apply below_alloc | apply pw_below_drewN | apply below_drew1 | refine below_set ?_ (IsS66.ge HI0.out)) | exact HB.out));rintro e w21 ⟨rfl,hi,hb,hk⟩;refine ⟨_,rfl,?_⟩;have n0_ := aZ_ (Kd.R_mono (Kd.R_keep (IsS66.apart (show IsS66 w0 _ g s0_0 x1001_1 x1002_1 from by repeat (first | (with_reducible first | exact HI0.out | apply IsS66.alloc | apply IsS66.drewN | apply IsS66.drew | apply IsS66.set_1 | apply IsS66.set_2) | exact HI0.out)) T51_ T58_) hk (fun _ h => h.2)) (fun _ h => h.1));have n1_ := aZ_ (KeepBut.trans T10_ hk (.inl rfl));have n2_ := aZ_ (hb);have n3_ := aZ_ (hi);clear HO_5;clear HK;clear HB;clear HI0;have HO_5 := n0_;have HK := n1_;have HB := n2_;have HI0 := n3_;clear n0_ n1_ n2_ n3_;(try clear hb);(try clear hb2);(try clear hk);(try clear hi)) | ((with_reducible refine gate_builtin (b := .append) (xs := #[.tmp 31,.tmp 34]) rfl ?_);at_builtin;refine Kd.R_append (Kd.int .u8) w.heap.size rfl (.tmp 31) (.tmp 34) 22 5 (.int .u8 0) 1 rfl Try.underlying22 info5 rfl T58_ (by omega) u5 x5_1 ((wrap64 (97 + (Int.tmod t110 4))) % 256) [.int .u8 ((wrap64 (97 + (Int.tmod t110 4))) % 256)] (fun _ => True) (fun _ => False) rfl rfl ?aP (fun _ hk => hk.elim) ?aF ?aO (Below.refl _ _) ?aS ?aL ?_;(case aP => exact rfl);(case aF => exact (fun _ _ => trivial));(case aO => exact T51_);(case aS => exact (keep_size (w := w) (g := g) (row := none) T10_));(case aL => have := LMc20.out;omega);intro v120 w22 ho hb hg hat;rw [← Ny119.out] at ho;have n0_ := aZ_ (IsS66.grown T24_ hg (IsS66.own_ne HI0.out HO_5.out T58_));have n1_ := aZ_ (below_weaken T20_ HL.out hb);have n2_ := aZ_ (KeepBut.trans T10_ (KeepBut.of_grown hg g) (Kd.R_base2 HO_5.out));have n3_ := aZ_ (ho);clear HI0;clear HB;clear HK;clear HO_5;have HI0 := n0_;have HB := n1_;have HK := n2_;have HO121 := n3_;clear n0_ n1_ n2_ n3_;clear ho hb hg hat))
       go_roundg k1
       case measure => have := HK1.out;omega
       case rel => exact ⟨(y119),(wrap64 (x7_1 - 1)),(t111),(t112),T29_,H',⟨by have := HK1.out;omega⟩,⟨by (with_reducible repeat (first | apply Kd.R_alloc | apply Kd.R_drewN | apply Kd.R_drew));exact HO121.out⟩,⟨by repeat (first | (with_reducible first | exact HI0.out | apply IsS66.alloc | apply IsS66.drewN | apply IsS66.drew | apply IsS66.set_1 | apply IsS66.set_2) | exact HI0.out)⟩,⟨by repeat (first | (with_reducible first | exact HK.out | apply KeepBut.set_ | apply keep_drewN | apply keep_drew | apply keep_alloc) | exact HK.out)⟩,⟨by repeat (first | (with_reducible first | exact HB.out | apply below_alloc | apply pw_below_drewN | apply below_drew1 | refine below_set ?_ (IsS66.ge HI0.out)) | exact HB.out)⟩⟩
      ·rw [if_neg c20] at H
       exact absurd H (by simp)
     ·rw [if_neg c19] at H
      have c19b0 : (t104 == 2) = false := beq_eq_false_iff_ne.mpr c19
      have c19b1 : (t104 != 2) = true := bne_iff_ne.mpr c19
      by_cases c23 : x5_1.length < 140737488355328
      ·rw [if_pos c23] at H
       have LMc23 := aZ_ c23
       clear c23
       obtain ⟨y122,hy122⟩ : ∃ y_ : List Int,y_ = (x5_1 ++ [(t110) % 256]) := ⟨_,rfl⟩
       replace H : (spec_l1Text.l0 k1 y122 t104 (wrap64 (x7_1 - 1)) s0_0 t111 t112) = some (r1,r2,r3) := by first | (rw [hy122];with_reducible exact H) | (have H2_ := (Option.bind_some _ _).symm.trans H;rw [hy122];with_reducible exact H2_) | (have H2_ := (Option.bind_some _ _).symm.trans H;with_reducible exact H2_) | with_reducible exact H | (rw [hy122];exact H) | exact H
       have Ny122 := aZ_ hy122
       clear hy122
       have H' := aZ_ H
       clear H
       go_wp2_with (first | ((with_reducible refine gate_callee (f := 62) rfl ?_);refine goesL_ (some 21) rfl rfl Try.func62 T17_ rfl #[.pointer (some ⟨g,0,none⟩)] rfl T3_ ?_;(with_reducible refine (spec_l1Byte.calls g s0_0 x1001_1 x1002_1 t110 t111 t112 w0 _ ?side1 ?side2 A10.out).mono ?_);(case side1 => repeat (first | (with_reducible first | exact HI0.out | apply IsS66.alloc | apply IsS66.drewN | apply IsS66.drew | apply IsS66.set_1 | apply IsS66.set_2) | exact HI0.out));(case side2 => repeat (first | (with_reducible first | exact HB.out | apply below_alloc | apply pw_below_drewN | apply below_drew1 | refine below_set ?_ (IsS66.ge HI0.out)) | exact HB.out));rintro e w24 ⟨rfl,hi,hb,hk⟩;refine ⟨_,rfl,?_⟩;have n0_ := aZ_ (Kd.R_mono (Kd.R_keep (IsS66.apart (show IsS66 w0 _ g s0_0 x1001_1 x1002_1 from by repeat (first | (with_reducible first | exact HI0.out | apply IsS66.alloc | apply IsS66.drewN | apply IsS66.drew | apply IsS66.set_1 | apply IsS66.set_2) | exact HI0.out)) T51_ T58_) hk (fun _ h => h.2)) (fun _ h => h.1));have n1_ := aZ_ (KeepBut.trans T10_ hk (.inl rfl));have n2_ := aZ_ (hb);have n3_ := aZ_ (hi);clear HO_5;clear HK;clear HB;clear HI0;have HO_5 := n0_;have HK := n1_;have HB := n2_;have HI0 := n3_;clear n0_ n1_ n2_ n3_;(try clear hb);(try clear hb2);(try clear hk);(try clear hi)) | ((with_reducible refine gate_builtin (b := .append) (xs := #[.tmp 31,.tmp 34]) rfl ?_);at_builtin;refine Kd.R_append (Kd.int .u8) w.heap.size rfl (.tmp 31) (.tmp 34) 22 5 (.int .u8 0) 1 rfl Try.underlying22 info5 rfl T58_ (by omega) u5 x5_1 ((t110) % 256) [.int .u8 ((t110) % 256)] (fun _ => True) (fun _ => False) rfl rfl ?aP (fun _ hk => hk.elim) ?aF ?aO (Below.refl _ _) ?aS ?aL ?_;(case aP => exact rfl);(case aF => exact (fun _ _ => trivial));(case aO => exact T51_);(case aS => exact (keep_size (w := w) (g := g) (row := none) T10_));(case aL => have := LMc23.out;omega);intro v123 w25 ho hb hg hat;rw [← Ny122.out] at ho;have n0_ := aZ_ (IsS66.grown T24_ hg (IsS66.own_ne HI0.out HO_5.out T58_));have n1_ := aZ_ (below_weaken T20_ HL.out hb);have n2_ := aZ_ (KeepBut.trans T10_ (KeepBut.of_grown hg g) (Kd.R_base2 HO_5.out));have n3_ := aZ_ (ho);clear HI0;clear HB;clear HK;clear HO_5;have HI0 := n0_;have HB := n1_;have HK := n2_;have HO124 := n3_;clear n0_ n1_ n2_ n3_;clear ho hb hg hat))
       go_roundg k1
       case measure => have := HK1.out;omega
       case rel => exact ⟨(y122),(wrap64 (x7_1 - 1)),(t111),(t112),T29_,H',⟨by have := HK1.out;omega⟩,⟨by (with_reducible repeat (first | apply Kd.R_alloc | apply Kd.R_drewN | apply Kd.R_drew));exact HO124.out⟩,⟨by repeat (first | (with_reducible first | exact HI0.out | apply IsS66.alloc | apply IsS66.drewN | apply IsS66.drew | apply IsS66.set_1 | apply IsS66.set_2) | exact HI0.out)⟩,⟨by repeat (first | (with_reducible first | exact HK.out | apply KeepBut.set_ | apply keep_drewN | apply keep_drew | apply keep_alloc) | exact HK.out)⟩,⟨by repeat (first | (with_reducible first | exact HB.out | apply below_alloc | apply pw_below_drewN | apply below_drew1 | refine below_set ?_ (IsS66.ge HI0.out)) | exact HB.out)⟩⟩
      ·rw [if_neg c23] at H
       exact absurd H (by simp)
   ·rw [if_neg c9] at H
    have c9b0 : decide (0 < x7_1) = false := decide_eq_false c9
    clear c9
    simp only [Option.some.injEq,Prod.mk.injEq] at H
    obtain ⟨rfl,rfl,rfl⟩ := H
    have hcv26 := own_string (P := Try.prog) Try.underlying22 Try.underlying5 Try.underlying9 (Kd.own_of_R HO_5.out)
    go_wp2
    go_ret
    exact ⟨by first | rfl | (simp [errW_none,errW_some] <;> rfl) | (simp [*,errW_none,errW_some] <;> rfl),by repeat (first | (with_reducible first | exact HI0.out | apply IsS66.alloc | apply IsS66.drewN | apply IsS66.drew | apply IsS66.set_1 | apply IsS66.set_2) | exact HI0.out),by repeat (first | (with_reducible first | exact HB.out | apply below_alloc | apply pw_below_drewN | apply below_drew1 | refine below_set ?_ (IsS66.ge HI0.out)) | exact HB.out),by repeat (first | (with_reducible first | exact HK.out | apply KeepBut.set_ | apply keep_drewN | apply keep_drew | apply keep_alloc) | exact HK.out)⟩
end Go.Proofs.Ytgojehaneegaeaa.F
