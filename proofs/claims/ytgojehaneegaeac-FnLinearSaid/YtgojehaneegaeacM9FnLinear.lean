/- Walks of Go functions and lemmas on what they compute, for the row of FnLinear (a part of several): each call ends as the Lean function of its name tells; the conditions are those of each theorem. -/
import Derived.Test.YtgojehaneegaeacM1FnLinear
import Derived.Test.YtgojehaneegaeacM2FnLinear
import Derived.Test.YtgojehaneegaeacM3FnLinear
import Derived.Test.YtgojehaneegaeacM4FnLinear
import Derived.Test.YtgojehaneegaeacM5FnLinear
import Derived.Test.YtgojehaneegaeacM6FnLinear
import Derived.Test.YtgojehaneegaeacM7FnLinear
import Derived.Test.YtgojehaneegaeacM8FnLinear
namespace Go.Proofs.Ytgojehaneegaeac.F
open Go.RowKit Go.Proofs.YtgojehaneegaeacW.PrintWords Go.Proofs.YtgojehaneegaeacW.PrintLast Go.Proofs.YtgojehaneegaeacW.PrintMore
attribute [local go_sem] max2_int min2_int max_two min_two max_three min_three max_four min_four 
set_option linter.unusedVariables false
set_option linter.unusedSimpArgs false
def impl_DistanceBetween.f (a0_0 : Int) (a0_1 : Int) (a1_0 : Int) (a1_1 : Int) : Option (Int) := (impl_areTables.f a0_0 a0_1 a1_0 a1_1).bind fun t103 => (if t103 = true then ((impl_ones.f (Go.bits .xor .i64 a0_1 a1_1)).bind fun t104 => (some t104)) else (some (-1)))
set_option maxHeartbeats 8000000 in
set_option maxRecDepth 100000 in
theorem impl_DistanceBetween.calls (a0_0 : Int) (a0_1 : Int) (a1_0 : Int) (a1_1 : Int) (r : Int) (w : World) (h : impl_DistanceBetween.f a0_0 a0_1 a1_0 a1_1 = some r) :
  Calls Try.prog 16 #[.agg #[.int .i64 a0_0,.int .i64 a0_1],.agg #[.int .i64 a1_0,.int .i64 a1_1]] w fun e w' => e = .returned (.int .i64 r) ∧ Below w.heap.size w w' := by
 have hu25 := Try.underlying25
 have HB := aZ_ (Below.refl w.heap.size w)
 have H : ((impl_areTables.f a0_0 a0_1 a1_0 a1_1).bind fun t103 => (if t103 = true then ((impl_ones.f (Go.bits .xor .i64 a0_1 a1_1)).bind fun t104 => (some t104)) else (some (-1)))) = some r := h
 clear h
 replace H := Option.bind_eq_some_iff.mp H
 obtain ⟨t103,A30,H⟩ := H
 replace H : (if t103 = true then ((impl_ones.f (Go.bits .xor .i64 a0_1 a1_1)).bind fun t104 => (some t104)) else (some (-1))) = some r := H
 have A3 := aZ_ A30
 clear A30
 by_cases c4 : t103 = true
 ·subst c4
  have H1 : ((impl_ones.f (Go.bits .xor .i64 a0_1 a1_1)).bind fun t104 => (some t104)) = some r := by rw [if_pos rfl] at H;exact H
  clear H
  have H := H1
  clear H1
  replace H := Option.bind_eq_some_iff.mp H
  obtain ⟨t104,A50,H⟩ := H
  replace H : (some t104) = some r := H
  have A5 := aZ_ A50
  clear A50
  obtain rfl := Option.some.inj H
  go_enter Try.func16,Try.ntmps16
  go_wp2_with (first | ((with_reducible refine gate_dst (N := 2) rfl ?_);refine box_event ?hg (N := 2) ?hd (cs := #[.int .i64 a0_0,.int .i64 a0_1]) (t := 25) ?hr ?_;(case hd => rfl);(case hg => rfl);(case hr => first | (go_simp;done) | (go_simp;rfl));intro gb101 hg w6 hbox hb;have n0_ := aZ_ (below_step T5_ hb);have n1_ := aZ_ (hbox);have n2_ := aZ_ ((T2_ : w.heap.size ≤ gb101));have n3_ := aZ_ ((T2_ : w.heap.size ≤ gb101));clear HB;have HB := n0_;have BK101 := n1_;have GW101 := n2_;have GE101 := n3_;clear n0_ n1_ n2_ n3_;clear hb hbox hg) | ((with_reducible refine gate_dst (N := 3) rfl ?_);refine box_event ?hg (N := 3) ?hd (cs := #[.int .i64 a1_0,.int .i64 a1_1]) (t := 25) ?hr ?_;(case hd => rfl);(case hg => rfl);(case hr => first | (go_simp;done) | (go_simp;rfl));intro gb102 hg w7 hbox hb;have n0_ := aZ_ (blk_below (g := gb101) (o := .cells #[.int .i64 a0_0,.int .i64 a0_1] 25 (0,0)) T1_ hb);have n1_ := aZ_ (below_step T3_ hb);have n2_ := aZ_ (hbox);have n3_ := aZ_ ((T12_ : w.heap.size ≤ gb102));have n4_ := aZ_ ((T12_ : w.heap.size ≤ gb102));have n5_ := aZ_ ((T23_ : gb101 ≠ gb102));have n6_ := aZ_ ((T24_ : gb102 ≠ gb101));clear BK101;clear HB;have BK101 := n0_;have HB := n1_;have BK102 := n2_;have GW102 := n3_;have GE102 := n4_;have NB101_102 := n5_;have NB102_101 := n6_;clear n0_ n1_ n2_ n3_ n4_ n5_ n6_;clear hb hbox hg;have hnb8 := NB101_102.out;have hnc8 := NB102_101.out;have hcz9_0 : w7.cell? ⟨gb101,0,none⟩ = some (.int .i64 a0_0) := (blk_cell BK101.out 0).trans rfl;have hcz9_1 : w7.cell? ⟨gb101,1,none⟩ = some (.int .i64 a0_1) := (blk_cell BK101.out 1).trans rfl;have hfz9_0 := blk_frozen BK101.out 0;have hfz9_1 := blk_frozen BK101.out 1;have hcz10_0 : w7.cell? ⟨gb102,0,none⟩ = some (.int .i64 a1_0) := (blk_cell BK102.out 0).trans rfl;have hcz10_1 : w7.cell? ⟨gb102,1,none⟩ = some (.int .i64 a1_1) := (blk_cell BK102.out 1).trans rfl;have hfz10_0 := blk_frozen BK102.out 0;have hfz10_1 := blk_frozen BK102.out 1) | ((with_reducible refine gate_callee (f := 48) rfl ?_);refine goesL_ (some 7) rfl rfl Try.func48 T17_ rfl #[.agg #[.int .i64 a0_0,.int .i64 a0_1],.agg #[.int .i64 a1_0,.int .i64 a1_1]] rfl T4_ ?_;(with_reducible refine (impl_areTables.calls a0_0 a0_1 a1_0 a1_1 true _ A3.out).mono ?_);rintro e w11 ⟨rfl,hb⟩;refine ⟨_,rfl,?_⟩;have n0_ := aZ_ (blk_below (g := gb101) (o := .cells #[.int .i64 a0_0,.int .i64 a0_1] 25 (0,0)) T1_ hb);have n1_ := aZ_ (blk_below (g := gb102) (o := .cells #[.int .i64 a1_0,.int .i64 a1_1] 25 (0,0)) T36_ hb);have n2_ := aZ_ (below_step T27_ hb);clear BK101;clear BK102;clear HB;have BK101 := n0_;have BK102 := n1_;have HB := n2_;clear n0_ n1_ n2_;(try clear hb);(try clear hb2);(try clear hk);(try clear hi);have hcz12_0 : w11.cell? ⟨gb101,0,none⟩ = some (.int .i64 a0_0) := (blk_cell BK101.out 0).trans rfl;have hcz12_1 : w11.cell? ⟨gb101,1,none⟩ = some (.int .i64 a0_1) := (blk_cell BK101.out 1).trans rfl;have hfz12_0 := blk_frozen BK101.out 0;have hfz12_1 := blk_frozen BK101.out 1;have hcz13_0 : w11.cell? ⟨gb102,0,none⟩ = some (.int .i64 a1_0) := (blk_cell BK102.out 0).trans rfl;have hcz13_1 : w11.cell? ⟨gb102,1,none⟩ = some (.int .i64 a1_1) := (blk_cell BK102.out 1).trans rfl;have hfz13_0 := blk_frozen BK102.out 0;have hfz13_1 := blk_frozen BK102.out 1) | ((with_reducible refine gate_callee (f := 41) rfl ?_);refine goesL_ (some 14) rfl rfl Try.func41 T17_ rfl #[.int .i64 (Go.bits .xor .i64 a0_1 a1_1)] rfl T4_ ?_;(with_reducible refine (impl_ones.calls (Go.bits .xor .i64 a0_1 a1_1) t104 _ A5.out).mono ?_);rintro e w' ⟨rfl,⟨nd,rfl⟩⟩;refine ⟨_,rfl,?_⟩))
  go_ret
  exact ⟨by first | rfl | (simp [errW_none,errW_some] <;> rfl) | (simp [*,errW_none,errW_some] <;> rfl),by repeat (first | (with_reducible first | exact HB.out | apply below_alloc | apply pw_below_drewN | apply below_drew1 | refine below_set ?_ GE101.out | refine below_set ?_ GE102.out) | exact HB.out)⟩
 ·replace c4 := Bool.eq_false_iff.mpr c4
  subst c4
  have H1 : (some (-1)) = some r := by rw [if_neg (show ¬ (false = true) by decide)] at H;exact H
  clear H
  have H := H1
  clear H1
  obtain rfl := Option.some.inj H
  go_enter Try.func16,Try.ntmps16
  go_wp2_with (first | ((with_reducible refine gate_dst (N := 2) rfl ?_);refine box_event ?hg (N := 2) ?hd (cs := #[.int .i64 a0_0,.int .i64 a0_1]) (t := 25) ?hr ?_;(case hd => rfl);(case hg => rfl);(case hr => first | (go_simp;done) | (go_simp;rfl));intro gb101 hg w14 hbox hb;have n0_ := aZ_ (below_step T5_ hb);have n1_ := aZ_ (hbox);have n2_ := aZ_ ((T2_ : w.heap.size ≤ gb101));have n3_ := aZ_ ((T2_ : w.heap.size ≤ gb101));clear HB;have HB := n0_;have BK101 := n1_;have GW101 := n2_;have GE101 := n3_;clear n0_ n1_ n2_ n3_;clear hb hbox hg) | ((with_reducible refine gate_dst (N := 3) rfl ?_);refine box_event ?hg (N := 3) ?hd (cs := #[.int .i64 a1_0,.int .i64 a1_1]) (t := 25) ?hr ?_;(case hd => rfl);(case hg => rfl);(case hr => first | (go_simp;done) | (go_simp;rfl));intro gb102 hg w15 hbox hb;have n0_ := aZ_ (blk_below (g := gb101) (o := .cells #[.int .i64 a0_0,.int .i64 a0_1] 25 (0,0)) T1_ hb);have n1_ := aZ_ (below_step T3_ hb);have n2_ := aZ_ (hbox);have n3_ := aZ_ ((T12_ : w.heap.size ≤ gb102));have n4_ := aZ_ ((T12_ : w.heap.size ≤ gb102));have n5_ := aZ_ ((T23_ : gb101 ≠ gb102));have n6_ := aZ_ ((T24_ : gb102 ≠ gb101));clear BK101;clear HB;have BK101 := n0_;have HB := n1_;have BK102 := n2_;have GW102 := n3_;have GE102 := n4_;have NB101_102 := n5_;have NB102_101 := n6_;clear n0_ n1_ n2_ n3_ n4_ n5_ n6_;clear hb hbox hg;have hnb16 := NB101_102.out;have hnc16 := NB102_101.out;have hcz17_0 : w15.cell? ⟨gb101,0,none⟩ = some (.int .i64 a0_0) := (blk_cell BK101.out 0).trans rfl;have hcz17_1 : w15.cell? ⟨gb101,1,none⟩ = some (.int .i64 a0_1) := (blk_cell BK101.out 1).trans rfl;have hfz17_0 := blk_frozen BK101.out 0;have hfz17_1 := blk_frozen BK101.out 1;have hcz18_0 : w15.cell? ⟨gb102,0,none⟩ = some (.int .i64 a1_0) := (blk_cell BK102.out 0).trans rfl;have hcz18_1 : w15.cell? ⟨gb102,1,none⟩ = some (.int .i64 a1_1) := (blk_cell BK102.out 1).trans rfl;have hfz18_0 := blk_frozen BK102.out 0;have hfz18_1 := blk_frozen BK102.out 1) | ((with_reducible refine gate_callee (f := 48) rfl ?_);refine goesL_ (some 7) rfl rfl Try.func48 T17_ rfl #[.agg #[.int .i64 a0_0,.int .i64 a0_1],.agg #[.int .i64 a1_0,.int .i64 a1_1]] rfl T4_ ?_;(with_reducible refine (impl_areTables.calls a0_0 a0_1 a1_0 a1_1 false _ A3.out).mono ?_);rintro e w19 ⟨rfl,hb⟩;refine ⟨_,rfl,?_⟩;have n0_ := aZ_ (blk_below (g := gb101) (o := .cells #[.int .i64 a0_0,.int .i64 a0_1] 25 (0,0)) T1_ hb);have n1_ := aZ_ (blk_below (g := gb102) (o := .cells #[.int .i64 a1_0,.int .i64 a1_1] 25 (0,0)) T36_ hb);have n2_ := aZ_ (below_step T27_ hb);clear BK101;clear BK102;clear HB;have BK101 := n0_;have BK102 := n1_;have HB := n2_;clear n0_ n1_ n2_;(try clear hb);(try clear hb2);(try clear hk);(try clear hi)))
  go_ret
  exact ⟨by first | rfl | (simp [errW_none,errW_some] <;> rfl) | (simp [*,errW_none,errW_some] <;> rfl),by repeat (first | (with_reducible first | exact HB.out | apply below_alloc | apply pw_below_drewN | apply below_drew1 | refine below_set ?_ GE101.out | refine below_set ?_ GE102.out) | exact HB.out)⟩
def spec_l12Bent.l0 : Nat → Int → Int → List Int → Int → Int → Option (Int × Int × Int × Int)
 | 0,_,_,_,_,_ => none
 | k + 1,x3,x4,x1000,x1001,x1002 => if x4 < 16 then (if 0 ≤ x4 then (spec_l12Bent.l0 k (Go.bits .or .i64 x3 (shl .i64 (Go.bits .xor .i64 (Go.bits .and .i64 (Go.bits .and .i64 x4 1) (x4 / 2)) (Go.bits .and .i64 (Go.bits .and .i64 (x4 / 4) 1) (x4 / 8))) x4)) (wrap64 (x4 + 1)) x1000 x1001 x1002) else (none)) else ((spec_l1Below.f x1000 x1001 x1002 16).bind fun bt115 => ((spec_l3Shift.f k 4 x3 bt115.1).bind fun bt118 => (some (bt118.1,bt118.2,bt115.2.1,bt115.2.2))))
def spec_l12Bent.f (k : Nat) (s0_0 : List Int) (s0_1 : Int) (s0_2 : Int) : Option (Int × Int × Int × Int) := (spec_l1Below.f s0_0 s0_1 s0_2 4).bind fun bt102 => (if bt102.1 = 0 then ((spec_l2Any.f k s0_0 bt102.2.1 bt102.2.2).bind fun bt105 => (some (bt105.1,bt105.2.1,bt105.2.2.1,bt105.2.2.2))) else (if bt102.1 = 1 then ((spec_l1PickInt.f s0_0 bt102.2.1 bt102.2.2 (([8,1,7,14,6] : List Int))).bind fun bt112 => (some (2,bt112.1,bt112.2.1,bt112.2.2))) else (spec_l12Bent.l0 k 0 0 s0_0 bt102.2.1 bt102.2.2)))
set_option maxHeartbeats 8000000 in
set_option maxRecDepth 100000 in
theorem spec_l12Bent.calls (k : Nat) (g : Nat) (s0_0 : List Int) (s0_1 : Int) (s0_2 : Int) (r1 : Int) (r2 : Int) (r3 : Int) (r4 : Int) (w0 w : World) (hI : IsS64 w0 w g s0_0 s0_1 s0_2) (hB : Below w0.heap.size w0 w) (h : spec_l12Bent.f k s0_0 s0_1 s0_2 = some (r1,r2,r3,r4)) :
  Calls Try.prog 49 #[.pointer (some ⟨g,0,none⟩)] w fun e w' => e = .returned (.agg #[.int .i64 r1,.int .i64 r2]) ∧ IsS64 w0 w' g s0_0 r3 r4 ∧ Below w0.heap.size w0 w' ∧ KeepBut w w' g none := by
 have hu25 := Try.underlying25
 have HI0 := aZ_ hI
 have HK := aZ_ (KeepBut.refl w g none)
 have HL := aZ_ hB.size
 clear hI
 have HW0 := aZ_ hB.size
 have HB := aZ_ hB
 clear hB
 have H : ((spec_l1Below.f s0_0 s0_1 s0_2 4).bind fun bt102 => (if bt102.1 = 0 then ((spec_l2Any.f k s0_0 bt102.2.1 bt102.2.2).bind fun bt105 => (some (bt105.1,bt105.2.1,bt105.2.2.1,bt105.2.2.2))) else (if bt102.1 = 1 then ((spec_l1PickInt.f s0_0 bt102.2.1 bt102.2.2 (([8,1,7,14,6] : List Int))).bind fun bt112 => (some (2,bt112.1,bt112.2.1,bt112.2.2))) else (spec_l12Bent.l0 k 0 0 s0_0 bt102.2.1 bt102.2.2)))) = some (r1,r2,r3,r4) := h
 clear h
 replace H := Option.bind_eq_some_iff.mp H
 obtain ⟨⟨t102,t103,t104⟩,A20,H⟩ := H
 replace H : (if t102 = 0 then ((spec_l2Any.f k s0_0 t103 t104).bind fun bt105 => (some (bt105.1,bt105.2.1,bt105.2.2.1,bt105.2.2.2))) else (if t102 = 1 then ((spec_l1PickInt.f s0_0 t103 t104 (([8,1,7,14,6] : List Int))).bind fun bt112 => (some (2,bt112.1,bt112.2.1,bt112.2.2))) else (spec_l12Bent.l0 k 0 0 s0_0 t103 t104))) = some (r1,r2,r3,r4) := H
 have A2 := aZ_ A20
 clear A20
 by_cases c3 : t102 = 0
 ·rw [if_pos c3] at H
  have c3b0 : (t102 == 0) = true := beq_iff_eq.mpr c3
  have c3b1 : (t102 != 0) = false := bne_eq_false_iff_eq.mpr c3
  clear c3
  replace H := Option.bind_eq_some_iff.mp H
  obtain ⟨⟨t105,t106,t107,t108⟩,A40,H⟩ := H
  replace H : (some (t105,t106,t107,t108)) = some (r1,r2,r3,r4) := H
  have A4 := aZ_ A40
  clear A40
  simp only [Option.some.injEq,Prod.mk.injEq] at H
  obtain ⟨rfl,rfl,rfl,rfl⟩ := H
  go_enter Try.func49,Try.ntmps49
  go_wp2_with (first | ((with_reducible refine gate_dst (N := 2) rfl ?_);refine box_event ?hg (N := 2) ?hd (cs := #[.int .i64 0,.int .i64 0]) (t := 25) ?hr ?_;(case hd => rfl);(case hg => rfl);(case hr => first | (go_simp;done) | (go_simp;rfl));intro gb101 hg w5 hbox hb;have n0_ := aZ_ (IsS64.below T19_ hb);have n1_ := aZ_ (KeepBut.trans T15_ (KeepBut.of_below hb g none) (.inl rfl));have n2_ := aZ_ (below_step T18_ hb);have n3_ := aZ_ (hbox);have n4_ := aZ_ ((T8_ : w.heap.size ≤ gb101));have n5_ := aZ_ ((Nat.le_trans HW0.out (T8_ : w.heap.size ≤ gb101) : w0.heap.size ≤ gb101));have n6_ := aZ_ ((T13_ : g ≠ gb101));have n7_ := aZ_ ((T14_ : gb101 ≠ g));clear HI0;clear HK;clear HB;have HI0 := n0_;have HK := n1_;have HB := n2_;have BK101 := n3_;have GW101 := n4_;have GE101 := n5_;have NB0_101 := n6_;have NB101_0 := n7_;clear n0_ n1_ n2_ n3_ n4_ n5_ n6_ n7_;clear hb hbox hg) | ((with_reducible refine gate_callee (f := 31) rfl ?_);refine goesL_ (some 8) rfl rfl Try.func31 T17_ rfl #[.pointer (some ⟨g,0,none⟩),.int .i64 4] rfl T4_ ?_;(with_reducible refine (spec_l1Below.calls g s0_0 s0_1 s0_2 4 t102 t103 t104 w0 _ ?side1 ?side2 A2.out).mono ?_);(case side1 => repeat (first | (with_reducible first | exact HI0.out | apply IsS64.alloc | apply IsS64.drewN | apply IsS64.drew | apply IsS64.set_1 | apply IsS64.set_2 | refine IsS64.far ?_ NB0_101.out _) | exact HI0.out));(case side2 => repeat (first | (with_reducible first | exact HB.out | apply below_alloc | apply pw_below_drewN | apply below_drew1 | refine below_set ?_ (IsS64.ge HI0.out) | refine below_set ?_ GE101.out) | exact HB.out));rintro e w6 ⟨rfl,hi,hb,hk⟩;refine ⟨_,rfl,?_⟩;have n0_ := aZ_ (KeepBut.blk hk (g' := gb101) (o := .cells #[.int .i64 0,.int .i64 0] 25 (0,0)) T1_ NB101_0.out T44_);have n1_ := aZ_ (KeepBut.trans T6_ hk (.inl rfl));have n2_ := aZ_ (hb);have n3_ := aZ_ (hi);clear BK101;clear HK;clear HB;clear HI0;have BK101 := n0_;have HK := n1_;have HB := n2_;have HI0 := n3_;clear n0_ n1_ n2_ n3_;(try clear hb);(try clear hb2);(try clear hk);(try clear hi)) | ((with_reducible refine gate_callee (f := 32) rfl ?_);refine goesL_ (some 12) rfl rfl Try.func32 T17_ rfl #[.pointer (some ⟨g,0,none⟩)] rfl T4_ ?_;(with_reducible refine (spec_l2Any.calls k g s0_0 t103 t104 t105 t106 t107 t108 w0 _ ?side1 ?side2 A4.out).mono ?_);(case side1 => repeat (first | (with_reducible first | exact HI0.out | apply IsS64.alloc | apply IsS64.drewN | apply IsS64.drew | apply IsS64.set_1 | apply IsS64.set_2 | refine IsS64.far ?_ NB0_101.out _) | exact HI0.out));(case side2 => repeat (first | (with_reducible first | exact HB.out | apply below_alloc | apply pw_below_drewN | apply below_drew1 | refine below_set ?_ (IsS64.ge HI0.out) | refine below_set ?_ GE101.out) | exact HB.out));rintro e w7 ⟨rfl,hi,hb,hk⟩;refine ⟨_,rfl,?_⟩;have n0_ := aZ_ (KeepBut.blk hk (g' := gb101) (o := .cells #[.int .i64 0,.int .i64 0] 25 (0,0)) T1_ NB101_0.out T44_);have n1_ := aZ_ (KeepBut.trans T6_ hk (.inl rfl));have n2_ := aZ_ (hb);have n3_ := aZ_ (hi);clear BK101;clear HK;clear HB;clear HI0;have BK101 := n0_;have HK := n1_;have HB := n2_;have HI0 := n3_;clear n0_ n1_ n2_ n3_;(try clear hb);(try clear hb2);(try clear hk);(try clear hi);have hnb8 := NB101_0.out;have hnc8 := NB0_101.out;have hcz9_0 : w7.cell? ⟨gb101,0,none⟩ = some (.int .i64 0) := (blk_cell BK101.out 0).trans rfl;have hcz9_1 : w7.cell? ⟨gb101,1,none⟩ = some (.int .i64 0) := (blk_cell BK101.out 1).trans rfl;have hfz9_0 := blk_frozen BK101.out 0;have hfz9_1 := blk_frozen BK101.out 1))
  refine bodyPost_ret (results_cell_row rfl _ _ gb101 25 #[.int .i64 t105,.int .i64 t106] (0,0) _ rfl T29_ Try.underlying25 rfl T17_) rfl ?_
  exact ⟨by first | rfl | (simp [errW_none,errW_some] <;> rfl) | (simp [*,errW_none,errW_some] <;> rfl),by repeat (first | (with_reducible first | exact HI0.out | apply IsS64.alloc | apply IsS64.drewN | apply IsS64.drew | apply IsS64.set_1 | apply IsS64.set_2 | refine IsS64.far ?_ NB0_101.out _) | exact HI0.out),by repeat (first | (with_reducible first | exact HB.out | apply below_alloc | apply pw_below_drewN | apply below_drew1 | refine below_set ?_ (IsS64.ge HI0.out) | refine below_set ?_ GE101.out) | exact HB.out),by repeat (first | (with_reducible first | exact HK.out | apply KeepBut.set_ | apply keep_drewN | apply keep_drew | apply keep_alloc | refine keep_far ?_ GW101.out _) | exact HK.out)⟩
 ·rw [if_neg c3] at H
  have c3b0 : (t102 == 0) = false := beq_eq_false_iff_ne.mpr c3
  have c3b1 : (t102 != 0) = true := bne_iff_ne.mpr c3
  by_cases c10 : t102 = 1
  ·rw [if_pos c10] at H
   have c10b0 : (t102 == 1) = true := beq_iff_eq.mpr c10
   have c10b1 : (t102 != 1) = false := bne_eq_false_iff_eq.mpr c10
   clear c10
   obtain ⟨y109,hy109⟩ : ∃ y_ : List Int,y_ = (([8,1,7,14,6] : List Int)) := ⟨_,rfl⟩
   replace H : ((spec_l1PickInt.f s0_0 t103 t104 y109).bind fun bt112 => (some (2,bt112.1,bt112.2.1,bt112.2.2))) = some (r1,r2,r3,r4) := by first | (rw [hy109];with_reducible exact H) | (have H2_ := (Option.bind_some _ _).symm.trans H;rw [hy109];with_reducible exact H2_) | (have H2_ := (Option.bind_some _ _).symm.trans H;with_reducible exact H2_) | with_reducible exact H | (rw [hy109];exact H) | exact H
   have Ny109 := aZ_ hy109
   clear hy109
   replace H := Option.bind_eq_some_iff.mp H
   obtain ⟨⟨t112,t113,t114⟩,A110,H⟩ := H
   replace H : (some (2,t112,t113,t114)) = some (r1,r2,r3,r4) := H
   have A11 := aZ_ A110
   clear A110
   simp only [Option.some.injEq,Prod.mk.injEq] at H
   obtain ⟨rfl,rfl,rfl,rfl⟩ := H
   go_enter Try.func49,Try.ntmps49
   go_wp2_with (first | ((with_reducible refine gate_dst (N := 2) rfl ?_);refine box_event ?hg (N := 2) ?hd (cs := #[.int .i64 0,.int .i64 0]) (t := 25) ?hr ?_;(case hd => rfl);(case hg => rfl);(case hr => first | (go_simp;done) | (go_simp;rfl));intro gb101 hg w12 hbox hb;have n0_ := aZ_ (IsS64.below T19_ hb);have n1_ := aZ_ (KeepBut.trans T15_ (KeepBut.of_below hb g none) (.inl rfl));have n2_ := aZ_ (below_step T18_ hb);have n3_ := aZ_ (hbox);have n4_ := aZ_ ((T8_ : w.heap.size ≤ gb101));have n5_ := aZ_ ((Nat.le_trans HW0.out (T8_ : w.heap.size ≤ gb101) : w0.heap.size ≤ gb101));have n6_ := aZ_ ((T13_ : g ≠ gb101));have n7_ := aZ_ ((T14_ : gb101 ≠ g));clear HI0;clear HK;clear HB;have HI0 := n0_;have HK := n1_;have HB := n2_;have BK101 := n3_;have GW101 := n4_;have GE101 := n5_;have NB0_101 := n6_;have NB101_0 := n7_;clear n0_ n1_ n2_ n3_ n4_ n5_ n6_ n7_;clear hb hbox hg) | ((with_reducible refine gate_callee (f := 31) rfl ?_);refine goesL_ (some 8) rfl rfl Try.func31 T17_ rfl #[.pointer (some ⟨g,0,none⟩),.int .i64 4] rfl T4_ ?_;(with_reducible refine (spec_l1Below.calls g s0_0 s0_1 s0_2 4 t102 t103 t104 w0 _ ?side1 ?side2 A2.out).mono ?_);(case side1 => repeat (first | (with_reducible first | exact HI0.out | apply IsS64.alloc | apply IsS64.drewN | apply IsS64.drew | apply IsS64.set_1 | apply IsS64.set_2 | refine IsS64.far ?_ NB0_101.out _) | exact HI0.out));(case side2 => repeat (first | (with_reducible first | exact HB.out | apply below_alloc | apply pw_below_drewN | apply below_drew1 | refine below_set ?_ (IsS64.ge HI0.out) | refine below_set ?_ GE101.out) | exact HB.out));rintro e w13 ⟨rfl,hi,hb,hk⟩;refine ⟨_,rfl,?_⟩;have n0_ := aZ_ (KeepBut.blk hk (g' := gb101) (o := .cells #[.int .i64 0,.int .i64 0] 25 (0,0)) T1_ NB101_0.out T44_);have n1_ := aZ_ (KeepBut.trans T6_ hk (.inl rfl));have n2_ := aZ_ (hb);have n3_ := aZ_ (hi);clear BK101;clear HK;clear HB;clear HI0;have BK101 := n0_;have HK := n1_;have HB := n2_;have HI0 := n3_;clear n0_ n1_ n2_ n3_;(try clear hb);(try clear hb2);(try clear hk);(try clear hi)) | ((with_reducible refine gate_dst (N := 16) rfl ?_);refine Kd.R_lit (Kd.int .i64) _ 3 ?hg (N := 16) ?hd (xs := ([8,1,7,14,6] : List Int)) (inner := [.int .i64 8,.int .i64 1,.int .i64 7,.int .i64 14,.int .i64 6]) (ok := fun _ => True) (okp := fun _ => True) ?hr ?hp (fun _ hk => hk) trivial (Below.refl _ _) (Nat.le_refl _) T44_ ?_;(case hd => rfl);(case hg => rfl);(case hr => first | (go_simp;done) | (go_simp;rfl));(case hp => exact (Reps.one (show Kd.M (Kd.int .i64) _ _ _ 8 [.int .i64 8] from rfl) (Reps.one (show Kd.M (Kd.int .i64) _ _ _ 1 [.int .i64 1] from rfl) (Reps.one (show Kd.M (Kd.int .i64) _ _ _ 7 [.int .i64 7] from rfl) (Reps.one (show Kd.M (Kd.int .i64) _ _ _ 14 [.int .i64 14] from rfl) (Reps.one (show Kd.M (Kd.int .i64) _ _ _ 6 [.int .i64 6] from rfl) (Reps.none _ _)))))));intro v110 w14 ho15 hb hg_ hnew_;clear hg_ hnew_;(first | rw [← Ny109.out] at ho15 | (simp only [Int.reduceToNat] at ho15;rw [← Ny109.out] at ho15));have n0_ := aZ_ (Kd.R_lower ho15 (keep_size (w := w) (g := g) (row := none) T6_));have n1_ := aZ_ (IsS64.below T10_ hb);have n2_ := aZ_ (blk_below (g := gb101) (o := .cells #[.int .i64 0,.int .i64 0] 25 (0,0)) T1_ hb);have n3_ := aZ_ (KeepBut.trans T6_ (KeepBut.of_below hb g none) (.inl rfl));have n4_ := aZ_ (below_step T11_ hb);clear HI0;clear BK101;clear HK;clear HB;have HO111 := n0_;have HI0 := n1_;have BK101 := n2_;have HK := n3_;have HB := n4_;clear n0_ n1_ n2_ n3_ n4_;clear hb ho15;obtain ⟨Ao16,co16,eo16⟩ := Kd.R_slice HO111.out;subst eo16) | ((with_reducible refine gate_callee (f := 58) rfl ?_);refine goesL_ (some 17) rfl rfl Try.func58 T17_ rfl #[.pointer (some ⟨g,0,none⟩),.slice Ao16 y109.length co16] rfl T4_ ?_;(with_reducible refine (spec_l1PickInt.calls g s0_0 t103 t104 _ _ y109 t112 t113 t114 w0 _ ?side1 ?side2 ?side3 ?side4 ?side5 A11.out).mono ?_);(case side1 => repeat (first | (with_reducible first | exact HI0.out | apply IsS64.alloc | apply IsS64.drewN | apply IsS64.drew | apply IsS64.set_1 | apply IsS64.set_2 | refine IsS64.far ?_ NB0_101.out _) | exact HI0.out));(case side2 => repeat (first | (with_reducible first | exact HB.out | apply below_alloc | apply pw_below_drewN | apply below_drew1 | refine below_set ?_ (IsS64.ge HI0.out) | refine below_set ?_ GE101.out) | exact HB.out));(case side3 => repeat (first | exact (Kd.R_reads' HO111.out).2.2 | (with_reducible refine Kd.C_alloc ?_ _) | (with_reducible refine Kd.C_drewN ?_ _) | (with_reducible refine Kd.C_drew ?_)));(case side4 => exact (Kd.R_reads' HO111.out).2.1);(case side5 => exact far_slice (IsS64.own_ne HI0.out HO111.out T46_));rintro e w17 ⟨rfl,hi,hb,hk⟩;refine ⟨_,rfl,?_⟩;have n0_ := aZ_ (KeepBut.blk hk (g' := gb101) (o := .cells #[.int .i64 0,.int .i64 0] 25 (0,0)) T1_ NB101_0.out T44_);have n1_ := aZ_ (Kd.R_mono (Kd.R_keep (IsS64.apart (show IsS64 w0 _ g s0_0 t103 t104 from by repeat (first | (with_reducible first | exact HI0.out | apply IsS64.alloc | apply IsS64.drewN | apply IsS64.drew | apply IsS64.set_1 | apply IsS64.set_2 | refine IsS64.far ?_ NB0_101.out _) | exact HI0.out)) (by (with_reducible repeat (first | apply Kd.R_alloc | apply Kd.R_drewN | apply Kd.R_drew));exact HO111.out) T46_) hk (fun _ h => h.2)) (fun _ h => h.1));have n2_ := aZ_ (KeepBut.trans T6_ hk (.inl rfl));have n3_ := aZ_ (hb);have n4_ := aZ_ (hi);clear BK101;clear HO111;clear HK;clear HB;clear HI0;have BK101 := n0_;have HO111 := n1_;have HK := n2_;have HB := n3_;have HI0 := n4_;clear n0_ n1_ n2_ n3_ n4_;(try clear hb);(try clear hb2);(try clear hk);(try clear hi);have hnb18 := NB101_0.out;have hnc18 := NB0_101.out;have hcz19_0 : w17.cell? ⟨gb101,0,none⟩ = some (.int .i64 0) := (blk_cell BK101.out 0).trans rfl;have hcz19_1 : w17.cell? ⟨gb101,1,none⟩ = some (.int .i64 0) := (blk_cell BK101.out 1).trans rfl;have hfz19_0 := blk_frozen BK101.out 0;have hfz19_1 := blk_frozen BK101.out 1))
   refine bodyPost_ret (results_cell_row rfl _ _ gb101 25 #[.int .i64 2,.int .i64 t112] (0,0) _ rfl (by (with_reducible repeat (first | refine blk_drewN ?_ _ | refine blk_drew ?_ | refine blk_alloc ?_ _));refine blk_put (cs := #[.int .i64 2,.int .i64 0]) ?_ 1 _ rfl;(with_reducible repeat (first | refine blk_drewN ?_ _ | refine blk_drew ?_ | refine blk_alloc ?_ _));refine blk_put (cs := #[.int .i64 0,.int .i64 0]) ?_ 0 _ rfl;(with_reducible repeat (first | refine blk_drewN ?_ _ | refine blk_drew ?_ | refine blk_alloc ?_ _));exact BK101.out) Try.underlying25 rfl T17_) rfl ?_
   exact ⟨by first | rfl | (simp [errW_none,errW_some] <;> rfl) | (simp [*,errW_none,errW_some] <;> rfl),by repeat (first | (with_reducible first | exact HI0.out | apply IsS64.alloc | apply IsS64.drewN | apply IsS64.drew | apply IsS64.set_1 | apply IsS64.set_2 | refine IsS64.far ?_ NB0_101.out _) | exact HI0.out),by repeat (first | (with_reducible first | exact HB.out | apply below_alloc | apply pw_below_drewN | apply below_drew1 | refine below_set ?_ (IsS64.ge HI0.out) | refine below_set ?_ GE101.out) | exact HB.out),by repeat (first | (with_reducible first | exact HK.out | apply KeepBut.set_ | apply keep_drewN | apply keep_drew | apply keep_alloc | refine keep_far ?_ GW101.out _) | exact HK.out)⟩
  ·rw [if_neg c10] at H
   have c10b0 : (t102 == 1) = false := beq_eq_false_iff_ne.mpr c10
   have c10b1 : (t102 != 1) = true := bne_iff_ne.mpr c10
   have H' := aZ_ H
   clear H
   go_enter Try.func49,Try.ntmps49
   go_wp2_with (first | ((with_reducible refine gate_dst (N := 2) rfl ?_);refine box_event ?hg (N := 2) ?hd (cs := #[.int .i64 0,.int .i64 0]) (t := 25) ?hr ?_;(case hd => rfl);(case hg => rfl);(case hr => first | (go_simp;done) | (go_simp;rfl));intro gb101 hg w20 hbox hb;have n0_ := aZ_ (IsS64.below T19_ hb);have n1_ := aZ_ (KeepBut.trans T15_ (KeepBut.of_below hb g none) (.inl rfl));have n2_ := aZ_ (below_step T18_ hb);have n3_ := aZ_ (hbox);have n4_ := aZ_ ((T8_ : w.heap.size ≤ gb101));have n5_ := aZ_ ((Nat.le_trans HW0.out (T8_ : w.heap.size ≤ gb101) : w0.heap.size ≤ gb101));have n6_ := aZ_ ((T13_ : g ≠ gb101));have n7_ := aZ_ ((T14_ : gb101 ≠ g));clear HI0;clear HK;clear HB;have HI0 := n0_;have HK := n1_;have HB := n2_;have BK101 := n3_;have GW101 := n4_;have GE101 := n5_;have NB0_101 := n6_;have NB101_0 := n7_;clear n0_ n1_ n2_ n3_ n4_ n5_ n6_ n7_;clear hb hbox hg) | ((with_reducible refine gate_callee (f := 31) rfl ?_);refine goesL_ (some 8) rfl rfl Try.func31 T17_ rfl #[.pointer (some ⟨g,0,none⟩),.int .i64 4] rfl T4_ ?_;(with_reducible refine (spec_l1Below.calls g s0_0 s0_1 s0_2 4 t102 t103 t104 w0 _ ?side1 ?side2 A2.out).mono ?_);(case side1 => repeat (first | (with_reducible first | exact HI0.out | apply IsS64.alloc | apply IsS64.drewN | apply IsS64.drew | apply IsS64.set_1 | apply IsS64.set_2 | refine IsS64.far ?_ NB0_101.out _) | exact HI0.out));(case side2 => repeat (first | (with_reducible first | exact HB.out | apply below_alloc | apply pw_below_drewN | apply below_drew1 | refine below_set ?_ (IsS64.ge HI0.out) | refine below_set ?_ GE101.out) | exact HB.out));rintro e w21 ⟨rfl,hi,hb,hk⟩;refine ⟨_,rfl,?_⟩;have n0_ := aZ_ (KeepBut.blk hk (g' := gb101) (o := .cells #[.int .i64 0,.int .i64 0] 25 (0,0)) T1_ NB101_0.out T44_);have n1_ := aZ_ (KeepBut.trans T6_ hk (.inl rfl));have n2_ := aZ_ (hb);have n3_ := aZ_ (hi);clear BK101;clear HK;clear HB;clear HI0;have BK101 := n0_;have HK := n1_;have HB := n2_;have HI0 := n3_;clear n0_ n1_ n2_ n3_;(try clear hb);(try clear hb2);(try clear hk);(try clear hi)))
   go_loopg [3,4] k (fun kq v3 v4 w' => ∃ (x3_1 : Int) (x4_1 : Int),v3 = .int .i64 x3_1 ∧ v4 = .int .i64 x4_1 ∧ Aside0 (spec_l12Bent.l0 kq x3_1 x4_1 s0_0 t103 t104 = some (r1,r2,r3,r4)) ∧ Aside0 (kq ≤ k) ∧ Aside0 (w'.heap[gb101]? = some (.cells #[.int .i64 0,.int .i64 0] 25 (0,0))) ∧ Aside0 (IsS64 w0 w' g s0_0 t103 t104) ∧ Aside0 (KeepBut w w' g none) ∧ Aside0 (Below w0.heap.size w0 w'))
   case atStart => exact ⟨(0),(0),T7_,T7_,H',⟨Nat.le_refl _⟩,⟨by (with_reducible repeat (first | refine blk_drewN ?_ _ | refine blk_drew ?_ | refine blk_alloc ?_ _));exact BK101.out⟩,⟨by repeat (first | (with_reducible first | exact HI0.out | apply IsS64.alloc | apply IsS64.drewN | apply IsS64.drew | apply IsS64.set_1 | apply IsS64.set_2 | refine IsS64.far ?_ NB0_101.out _) | exact HI0.out)⟩,⟨by repeat (first | (with_reducible first | exact HK.out | apply KeepBut.set_ | apply keep_drewN | apply keep_drew | apply keep_alloc | refine keep_far ?_ GW101.out _) | exact HK.out)⟩,⟨by repeat (first | (with_reducible first | exact HB.out | apply below_alloc | apply pw_below_drewN | apply below_drew1 | refine below_set ?_ (IsS64.ge HI0.out) | refine below_set ?_ GE101.out) | exact HB.out)⟩⟩
   case round =>
    clear H'
    try clear c1
    try clear p2
    try clear c3
    try clear c3b0
    try clear c3b1
    try clear c4
    try clear c5
    try clear c8
    try clear c10
    try clear c10b0
    try clear c10b1
    try clear c18
    try clear hcz19_0
    try clear hcz19_1
    try clear hcz9_0
    try clear hcz9_1
    try clear hfz19_0
    try clear hfz19_1
    try clear hfz9_0
    try clear hfz9_1
    obtain ⟨x3_1,x4_1,rfl,rfl,HA,HK1,BK101,HI0,HK,HB⟩ := hrel
    cases gk with
    | zero => exact absurd HA.out (by simp [spec_l12Bent.l0])
    | succ k1 =>
     have H := HA.out
     clear HA
     simp only [spec_l12Bent.l0] at H
     by_cases c22 : x4_1 < 16
     ·rw [if_pos c22] at H
      have c22b0 : decide (x4_1 < 16) = true := decide_eq_true c22
      clear c22
      by_cases c23 : 0 ≤ x4_1
      ·rw [if_pos c23] at H
       have c23b0 := eq_true c23
       have c23b1 : decide (0 ≤ x4_1) = true := decide_eq_true c23
       clear c23
       obtain ⟨ji24,hji24⟩ : ∃ j_ : Int,(shl .i64 (Go.bits .xor .i64 (Go.bits .and .i64 (Go.bits .and .i64 x4_1 1) (x4_1 / 2)) (Go.bits .and .i64 (Go.bits .and .i64 (x4_1 / 4) 1) (x4_1 / 8))) x4_1) = j_ := ⟨_,rfl⟩
       replace H : (spec_l12Bent.l0 k1 (Go.bits .or .i64 x3_1 (ji24)) (wrap64 (x4_1 + 1)) s0_0 t103 t104) = some (r1,r2,r3,r4) := by first | (rw [hji24] at H;exact H) | (simp only [hji24] at H ⊢;exact H)
       have hji24_ : (IntKind.i64.wrap ((Go.bits .xor .i64 (Go.bits .and .i64 (Go.bits .and .i64 x4_1 1) (x4_1 / 2)) (Go.bits .and .i64 (Go.bits .and .i64 (x4_1 / 4) 1) (x4_1 / 8))) * 2 ^ min x4_1.toNat 64)) = ji24 := hji24
       have hji24z : x4_1 ≤ 64 → (IntKind.i64.wrap ((Go.bits .xor .i64 (Go.bits .and .i64 (Go.bits .and .i64 x4_1 1) (x4_1 / 2)) (Go.bits .and .i64 (Go.bits .and .i64 (x4_1 / 4) 1) (x4_1 / 8))) * 2 ^ x4_1.toNat)) = ji24 := shl_small hji24
       have hji24y : (wrap64 ((Go.bits .xor .i64 (Go.bits .and .i64 (Go.bits .and .i64 x4_1 1) (x4_1 / 2)) (Go.bits .and .i64 (Go.bits .and .i64 (x4_1 / 4) 1) (x4_1 / 8))) * 2 ^ min x4_1.toNat 64)) = ji24 := (i64_w _).symm.trans hji24_
       have hji24x : x4_1 ≤ 64 → (wrap64 ((Go.bits .xor .i64 (Go.bits .and .i64 (Go.bits .and .i64 x4_1 1) (x4_1 / 2)) (Go.bits .and .i64 (Go.bits .and .i64 (x4_1 / 4) 1) (x4_1 / 8))) * 2 ^ x4_1.toNat)) = ji24 := fun h_ => (i64_w _).symm.trans (hji24z h_)
       have H' := aZ_ H
       clear H
       go_wp2
       go_roundg k1
       case measure => have := HK1.out;omega
       case rel => exact ⟨(Go.bits .or .i64 x3_1 (ji24)),(wrap64 (x4_1 + 1)),(by first | rfl | (simp;done) | (simp only [← hji24] <;> (first | rfl | simp)) | (simp [*];done)),T7_,H',⟨by have := HK1.out;omega⟩,⟨by (with_reducible repeat (first | refine blk_drewN ?_ _ | refine blk_drew ?_ | refine blk_alloc ?_ _));exact BK101.out⟩,⟨by repeat (first | (with_reducible first | exact HI0.out | apply IsS64.alloc | apply IsS64.drewN | apply IsS64.drew | apply IsS64.set_1 | apply IsS64.set_2 | refine IsS64.far ?_ NB0_101.out _) | exact HI0.out)⟩,⟨by repeat (first | (with_reducible first | exact HK.out | apply KeepBut.set_ | apply keep_drewN | apply keep_drew | apply keep_alloc | refine keep_far ?_ GW101.out _) | exact HK.out)⟩,⟨by repeat (first | (with_reducible first | exact HB.out | apply below_alloc | apply pw_below_drewN | apply below_drew1 | refine below_set ?_ (IsS64.ge HI0.out) | refine below_set ?_ GE101.out) | exact HB.out)⟩⟩
      ·rw [if_neg c23] at H
       exact absurd H T44_
     ·rw [if_neg c22] at H
      have c22b0 : decide (x4_1 < 16) = false := decide_eq_false c22
      clear c22
      replace H := Option.bind_eq_some_iff.mp H
      obtain ⟨⟨t115,t116,t117⟩,A250,H⟩ := H
      replace H : ((spec_l3Shift.f k1 4 x3_1 t115).bind fun bt118 => (some (bt118.1,bt118.2,t116,t117))) = some (r1,r2,r3,r4) := H
      have A25 := aZ_ A250
      clear A250
      replace H := Option.bind_eq_some_iff.mp H
      obtain ⟨⟨t118,t119⟩,A260,H⟩ := H
      replace H : (some (t118,t119,t116,t117)) = some (r1,r2,r3,r4) := H
      have A26 := aZ_ A260
      clear A260
      simp only [Option.some.injEq,Prod.mk.injEq] at H
      obtain ⟨rfl,rfl,rfl,rfl⟩ := H
      go_wp2_with (first | ((with_reducible refine gate_callee (f := 31) rfl ?_);refine goesL_ (some 44) rfl rfl Try.func31 T17_ rfl #[.pointer (some ⟨g,0,none⟩),.int .i64 16] rfl T4_ ?_;(with_reducible refine (spec_l1Below.calls g s0_0 t103 t104 16 t115 t116 t117 w0 _ ?side1 ?side2 A25.out).mono ?_);(case side1 => repeat (first | (with_reducible first | exact HI0.out | apply IsS64.alloc | apply IsS64.drewN | apply IsS64.drew | apply IsS64.set_1 | apply IsS64.set_2 | refine IsS64.far ?_ NB0_101.out _) | exact HI0.out));(case side2 => repeat (first | (with_reducible first | exact HB.out | apply below_alloc | apply pw_below_drewN | apply below_drew1 | refine below_set ?_ (IsS64.ge HI0.out) | refine below_set ?_ GE101.out) | exact HB.out));rintro e w27 ⟨rfl,hi,hb,hk⟩;refine ⟨_,rfl,?_⟩;have n0_ := aZ_ (KeepBut.blk hk (g' := gb101) (o := .cells #[.int .i64 0,.int .i64 0] 25 (0,0)) T1_ NB101_0.out T44_);have n1_ := aZ_ (KeepBut.trans T6_ hk (.inl rfl));have n2_ := aZ_ (hb);have n3_ := aZ_ (hi);clear BK101;clear HK;clear HB;clear HI0;have BK101 := n0_;have HK := n1_;have HB := n2_;have HI0 := n3_;clear n0_ n1_ n2_ n3_;(try clear hb);(try clear hb2);(try clear hk);(try clear hi)) | ((with_reducible refine gate_callee (f := 63) rfl ?_);refine goesL_ (some 45) rfl rfl Try.func63 T17_ rfl #[.agg #[.int .i64 4,.int .i64 x3_1],.int .i64 t115] rfl T4_ ?_;(with_reducible refine (spec_l3Shift.calls k1 4 x3_1 t115 t118 t119 _ A26.out).mono ?_);rintro e w28 ⟨rfl,hb⟩;refine ⟨_,rfl,?_⟩;have n0_ := aZ_ (blk_below (g := gb101) (o := .cells #[.int .i64 0,.int .i64 0] 25 (0,0)) T1_ hb);have n1_ := aZ_ (IsS64.below T10_ hb);have n2_ := aZ_ (KeepBut.trans T6_ (KeepBut.of_below hb g none) (.inl rfl));have n3_ := aZ_ (below_step T11_ hb);clear BK101;clear HI0;clear HK;clear HB;have BK101 := n0_;have HI0 := n1_;have HK := n2_;have HB := n3_;clear n0_ n1_ n2_ n3_;(try clear hb);(try clear hb2);(try clear hk);(try clear hi);have hnb29 := NB101_0.out;have hnc29 := NB0_101.out;have hcz30_0 : w28.cell? ⟨gb101,0,none⟩ = some (.int .i64 0) := (blk_cell BK101.out 0).trans rfl;have hcz30_1 : w28.cell? ⟨gb101,1,none⟩ = some (.int .i64 0) := (blk_cell BK101.out 1).trans rfl;have hfz30_0 := blk_frozen BK101.out 0;have hfz30_1 := blk_frozen BK101.out 1))
      refine bodyPost_ret (results_cell_row rfl _ _ gb101 25 #[.int .i64 t118,.int .i64 t119] (0,0) _ rfl (by (with_reducible repeat (first | refine blk_drewN ?_ _ | refine blk_drew ?_ | refine blk_alloc ?_ _));refine blk_put (cs := #[.int .i64 t118,.int .i64 0]) ?_ 1 _ rfl;(with_reducible repeat (first | refine blk_drewN ?_ _ | refine blk_drew ?_ | refine blk_alloc ?_ _));refine blk_put (cs := #[.int .i64 0,.int .i64 0]) ?_ 0 _ rfl;(with_reducible repeat (first | refine blk_drewN ?_ _ | refine blk_drew ?_ | refine blk_alloc ?_ _));exact BK101.out) Try.underlying25 rfl T17_) rfl ?_
      exact ⟨by first | rfl | (simp [errW_none,errW_some] <;> rfl) | (simp [*,errW_none,errW_some] <;> rfl),by repeat (first | (with_reducible first | exact HI0.out | apply IsS64.alloc | apply IsS64.drewN | apply IsS64.drew | apply IsS64.set_1 | apply IsS64.set_2 | refine IsS64.far ?_ NB0_101.out _) | exact HI0.out),by repeat (first | (with_reducible first | exact HB.out | apply below_alloc | apply pw_below_drewN | apply below_drew1 | refine below_set ?_ (IsS64.ge HI0.out) | refine below_set ?_ GE101.out) | exact HB.out),by repeat (first | (with_reducible first | exact HK.out | apply KeepBut.set_ | apply keep_drewN | apply keep_drew | apply keep_alloc | refine keep_far ?_ GW101.out _) | exact HK.out)⟩
def spec_DrawLinearStructures.f (k : Nat) (l0 : List Int) : Option (Int × Int) := (spec_l1New.f k l0).bind fun bt102 => ((spec_l12Bent.f k bt102.1 bt102.2.1 bt102.2.2).bind fun bt106 => (some (bt106.1,bt106.2.1)))
set_option maxHeartbeats 8000000 in
set_option maxRecDepth 100000 in
theorem spec_DrawLinearStructures.calls (k : Nat) (A0 : Option Addr) (c0 : Nat) (l0 : List Int) (r1 : Int) (r2 : Int) (w : World) (hr0 : Kd.C (Kd.int .u8) w A0 l0.length l0) (hc0 : l0.length ≤ c0) (h : spec_DrawLinearStructures.f k l0 = some (r1,r2)) :
  Calls Try.prog 17 #[.slice A0 l0.length c0] w fun e w' => e = .returned (.agg #[.int .i64 r1,.int .i64 r2]) ∧ Below w.heap.size w w' := by
 have hu25 := Try.underlying25
 have HR0 := aZ_ hr0
 have HC0 := aZ_ hc0
 clear hr0 hc0
 have HB := aZ_ (Below.refl w.heap.size w)
 have H : ((spec_l1New.f k l0).bind fun bt102 => ((spec_l12Bent.f k bt102.1 bt102.2.1 bt102.2.2).bind fun bt106 => (some (bt106.1,bt106.2.1)))) = some (r1,r2) := h
 clear h
 replace H := Option.bind_eq_some_iff.mp H
 obtain ⟨⟨t102,t103,t104⟩,A20,H⟩ := H
 replace H : ((spec_l12Bent.f k t102 t103 t104).bind fun bt106 => (some (bt106.1,bt106.2.1))) = some (r1,r2) := H
 have A2 := aZ_ A20
 clear A20
 replace H := Option.bind_eq_some_iff.mp H
 obtain ⟨⟨t106,t107,t108,t109⟩,A30,H⟩ := H
 replace H : (some (t106,t107)) = some (r1,r2) := H
 have A3 := aZ_ A30
 clear A30
 simp only [Option.some.injEq,Prod.mk.injEq] at H
 obtain ⟨rfl,rfl⟩ := H
 go_enter Try.func17,Try.ntmps17
 go_wp2_with (first | ((with_reducible refine gate_dst (N := 2) rfl ?_);refine box_event ?hg (N := 2) ?hd (cs := #[.int .i64 0,.int .i64 0]) (t := 25) ?hr ?_;(case hd => rfl);(case hg => rfl);(case hr => first | (go_simp;done) | (go_simp;rfl));intro gb101 hg w4 hbox hb;have n0_ := aZ_ (below_step T5_ hb);have n1_ := aZ_ (hbox);have n2_ := aZ_ ((T2_ : w.heap.size ≤ gb101));have n3_ := aZ_ ((T2_ : w.heap.size ≤ gb101));clear HB;have HB := n0_;have BK101 := n1_;have GW101 := n2_;have GE101 := n3_;clear n0_ n1_ n2_ n3_;clear hb hbox hg) | ((with_reducible refine gate_callee (f := 29) rfl ?_);refine goesL_ (some 4) rfl rfl Try.func29 T17_ rfl #[.slice A0 l0.length c0] rfl T4_ ?_;(with_reducible refine (spec_l1New.calls k _ _ l0 t102 t103 t104 w _ ?side1 ?side2 ?side3 A2.out).mono ?_);(case side1 => repeat (first | (with_reducible first | exact HB.out | apply below_alloc | apply pw_below_drewN | apply below_drew1 | refine below_set ?_ GE101.out) | exact HB.out));(case side2 => exact HR0.out);(case side3 => exact HC0.out);rintro e w5 ⟨g105,rfl,hi,hb,hb2⟩;refine ⟨_,rfl,?_⟩;have n0_ := aZ_ (blk_below (g := gb101) (o := .cells #[.int .i64 0,.int .i64 0] 25 (0,0)) T1_ hb2);have n1_ := aZ_ (hb);have n2_ := aZ_ (hi);have n3_ := aZ_ (IsS64.ne_blk hi (blk_below (g := gb101) (o := .cells #[.int .i64 0,.int .i64 0] 25 (0,0)) T1_ hb2) T46_);have n4_ := aZ_ (Ne.symm (IsS64.ne_blk hi (blk_below (g := gb101) (o := .cells #[.int .i64 0,.int .i64 0] 25 (0,0)) T1_ hb2) T46_));clear BK101;clear HB;have BK101 := n0_;have HB := n1_;have HI105 := n2_;have NB105_101 := n3_;have NB101_105 := n4_;clear n0_ n1_ n2_ n3_ n4_;(try clear hb);(try clear hb2);(try clear hk);(try clear hi)) | ((with_reducible refine gate_callee (f := 49) rfl ?_);refine goesL_ (some 5) rfl rfl Try.func49 T17_ rfl #[.pointer (some ⟨g105,0,none⟩)] rfl T4_ ?_;(with_reducible refine (spec_l12Bent.calls k g105 t102 t103 t104 t106 t107 t108 t109 w _ ?side1 ?side2 A3.out).mono ?_);(case side1 => repeat (first | (with_reducible first | exact HI105.out | apply IsS64.alloc | apply IsS64.drewN | apply IsS64.drew | apply IsS64.set_1 | apply IsS64.set_2 | refine IsS64.far ?_ NB105_101.out _) | exact HI105.out));(case side2 => repeat (first | (with_reducible first | exact HB.out | apply below_alloc | apply pw_below_drewN | apply below_drew1 | refine below_set ?_ (IsS64.ge HI105.out) | refine below_set ?_ GE101.out) | exact HB.out));rintro e w6 ⟨rfl,hi,hb,hk⟩;refine ⟨_,rfl,?_⟩;have n0_ := aZ_ (KeepBut.blk hk (g' := gb101) (o := .cells #[.int .i64 0,.int .i64 0] 25 (0,0)) T1_ NB101_105.out T44_);have n1_ := aZ_ (hb);have n2_ := aZ_ (hi);clear BK101;clear HB;clear HI105;have BK101 := n0_;have HB := n1_;have HI105 := n2_;clear n0_ n1_ n2_;(try clear hb);(try clear hb2);(try clear hk);(try clear hi);have hnb7 := NB101_105.out;have hnc7 := NB105_101.out;have hcz8_0 : w6.cell? ⟨gb101,0,none⟩ = some (.int .i64 0) := (blk_cell BK101.out 0).trans rfl;have hcz8_1 : w6.cell? ⟨gb101,1,none⟩ = some (.int .i64 0) := (blk_cell BK101.out 1).trans rfl;have hfz8_0 := blk_frozen BK101.out 0;have hfz8_1 := blk_frozen BK101.out 1))
 refine bodyPost_ret (results_cell_row rfl _ _ gb101 25 #[.int .i64 t106,.int .i64 t107] (0,0) _ rfl T22_ Try.underlying25 rfl T17_) rfl ?_
 exact ⟨by first | rfl | (simp [errW_none,errW_some] <;> rfl) | (simp [*,errW_none,errW_some] <;> rfl),by repeat (first | (with_reducible first | exact HB.out | apply below_alloc | apply pw_below_drewN | apply below_drew1 | refine below_set ?_ (IsS64.ge HI105.out) | refine below_set ?_ GE101.out) | exact HB.out)⟩
def impl_sign.f (a0 : Int) : Option (Int) := some (wrap64 (1 - (wrap64 (2 * (Go.bits .and .i64 a0 1)))))
set_option maxHeartbeats 8000000 in
set_option maxRecDepth 100000 in
theorem impl_sign.calls (a0 : Int) (r : Int) (w : World) (h : impl_sign.f a0 = some r) :
  Calls Try.prog 64 #[.int .i64 a0] w fun e w' => e = .returned (.int .i64 r) ∧ Drawn0 w w' := by
 have H : (some (wrap64 (1 - (wrap64 (2 * (Go.bits .and .i64 a0 1)))))) = some r := h
 clear h
 obtain rfl := Option.some.inj H
 go_enter Try.func64,Try.ntmps64
 go_wp2
 go_ret
 exact ⟨by first | rfl | (simp;done) | (simp [*];done),by repeat (first | exact Drawn0.refl _ | apply Drawn0.step)⟩
mutual
def impl_Table_autocorrelation.l0 : Nat → List Int → Int → Int → Int → Int → Option (List Int)
 | 0,_,_,_,_,_ => none
 | k + 1,x3,x10,x11,x102000,x102001 => if x11 < x10 then ((impl_Table_size.f x102000 x102001).bind fun t106 => (impl_Table_autocorrelation.l1 k x3 x11 x10 x11 t106 0 x102000 x102001)) else (some x3)
def impl_Table_autocorrelation.l1 : Nat → List Int → Int → Int → Int → Int → Int → Int → Int → Option (List Int)
 | 0,_,_,_,_,_,_,_,_ => none
 | k + 1,x3,x4,x10,x11,x15,x16,x102000,x102001 => if x16 < x15 then (if 0 ≤ x4 then (if x4 < (x3.length : Int) then ((impl_Table_at.f x102000 x102001 x16).bind fun t108 => ((impl_Table_at.f x102000 x102001 (Go.bits .xor .i64 x16 x4)).bind fun t109 => ((impl_sign.f (wrap64 (t108 + t109))).bind fun t110 => (impl_Table_autocorrelation.l1 k (x3.set (x4 : Int).toNat (wrap64 ((rd x3 x4) + t110))) x4 x10 x11 x15 (wrap64 (x16 + 1)) x102000 x102001)))) else (none)) else (none)) else (impl_Table_autocorrelation.l0 k x3 x10 (wrap64 (x11 + 1)) x102000 x102001)
end
def impl_Table_autocorrelation.f (k : Nat) (a0_0 : Int) (a0_1 : Int) : Option (List Int) := (impl_Table_size.f a0_0 a0_1).bind fun t102 => (if 0 ≤ t102 then (if (t102 : Int).toNat ≤ 35184372088832 then ((some (List.replicate (t102 : Int).toNat 0 : List Int)).bind fun y103 => (impl_Table_autocorrelation.l0 k y103 (y103.length : Int) 0 a0_0 a0_1)) else (none)) else (none))
def impl_Table_autocorrelation.T8 : Bool × List (List Nat × List Nat) := (true,[([],[]),([],[]),([0,1],[0,1]),([2],[2]),([],[]),([],[]),([4,5],[4,5]),([],[]),([],[]),([],[]),([8,9],[8,9]),([7,10,6],[7,10]),([6,11],[6,11]),([12,11],[12]),([3,13],[3,13]),([0,1,0,1,2,3,4,5,6,7,8,9,10,11,12,13,14],[0,1]),([15,14,13,0,1,2,3,4,5,6,7,8,9,10,11,12,13,14],[14,15])])
def impl_Table_autocorrelation.B8 : List Nat := [0,0,3,7,0,0,48,0,0,0,768,2032,4080,8176,16383,32767,65535]
theorem impl_Table_autocorrelation.tab8 : rtab .any (opsOf Try.f50 8) = impl_Table_autocorrelation.T8 := by kernel_rfl
theorem impl_Table_autocorrelation.bits8 : waitsOk impl_Table_autocorrelation.T8.2 impl_Table_autocorrelation.B8 = true := by kernel_rfl
set_option maxHeartbeats 8000000 in
set_option maxRecDepth 100000 in
theorem impl_Table_autocorrelation.calls (k : Nat) (a0_0 : Int) (a0_1 : Int) (r : List Int) (w : World) (h : impl_Table_autocorrelation.f k a0_0 a0_1 = some r) :
  Calls Try.prog 50 #[.agg #[.int .i64 a0_0,.int .i64 a0_1]] w fun e w' => ∃ v0_ : Value,e = .returned (v0_) ∧ Kd.R (Kd.int .i64) 3 w' w.heap.size (fun _ => True) v0_ r ∧ Below w.heap.size w w' := by
 have hu25 := Try.underlying25
 have HB := aZ_ (Below.refl w.heap.size w)
 have H : ((impl_Table_size.f a0_0 a0_1).bind fun t102 => (if 0 ≤ t102 then (if (t102 : Int).toNat ≤ 35184372088832 then ((some (List.replicate (t102 : Int).toNat 0 : List Int)).bind fun y103 => (impl_Table_autocorrelation.l0 k y103 (y103.length : Int) 0 a0_0 a0_1)) else (none)) else (none))) = some r := h
 clear h
 replace H := Option.bind_eq_some_iff.mp H
 obtain ⟨t102,A20,H⟩ := H
 replace H : (if 0 ≤ t102 then (if (t102 : Int).toNat ≤ 35184372088832 then ((some (List.replicate (t102 : Int).toNat 0 : List Int)).bind fun y103 => (impl_Table_autocorrelation.l0 k y103 (y103.length : Int) 0 a0_0 a0_1)) else (none)) else (none)) = some r := H
 have A2 := aZ_ A20
 clear A20
 by_cases c3 : 0 ≤ t102
 ·rw [if_pos c3] at H
  have c3b0 := eq_true c3
  have c3b1 : decide (0 ≤ t102) = true := decide_eq_true c3
  clear c3
  by_cases c4 : (t102 : Int).toNat ≤ 35184372088832
  ·rw [if_pos c4] at H
   have c4b0 := eq_true c4
   have c4b1 : decide ((t102 : Int).toNat ≤ 35184372088832) = true := decide_eq_true c4
   clear c4
   obtain ⟨y103,hy103⟩ : ∃ y_ : List Int,y_ = (List.replicate (t102 : Int).toNat 0) := ⟨_,rfl⟩
   replace H : (impl_Table_autocorrelation.l0 k y103 (y103.length : Int) 0 a0_0 a0_1) = some r := by first | (rw [hy103];with_reducible exact H) | (have H2_ := (Option.bind_some _ _).symm.trans H;rw [hy103];with_reducible exact H2_) | (have H2_ := (Option.bind_some _ _).symm.trans H;with_reducible exact H2_) | with_reducible exact H | (rw [hy103];exact H) | exact H
   have Ny103 := aZ_ hy103
   clear hy103
   have H' := aZ_ H
   clear H
   go_enter Try.func50,Try.ntmps50
   go_wp2_with (first | ((with_reducible refine gate_dst (N := 1) rfl ?_);refine box_event ?hg (N := 1) ?hd (cs := #[.int .i64 a0_0,.int .i64 a0_1]) (t := 25) ?hr ?_;(case hd => rfl);(case hg => rfl);(case hr => first | (go_simp;done) | (go_simp;rfl));intro gb101 hg w5 hbox hb;have n0_ := aZ_ (below_step T5_ hb);have n1_ := aZ_ (hbox);have n2_ := aZ_ ((T2_ : w.heap.size ≤ gb101));have n3_ := aZ_ ((T2_ : w.heap.size ≤ gb101));clear HB;have HB := n0_;have BK101 := n1_;have GW101 := n2_;have GE101 := n3_;clear n0_ n1_ n2_ n3_;clear hb hbox hg;have hcz6_0 : w5.cell? ⟨gb101,0,none⟩ = some (.int .i64 a0_0) := (blk_cell BK101.out 0).trans rfl;have hcz6_1 : w5.cell? ⟨gb101,1,none⟩ = some (.int .i64 a0_1) := (blk_cell BK101.out 1).trans rfl;have hfz6_0 := blk_frozen BK101.out 0;have hfz6_1 := blk_frozen BK101.out 1) | ((with_reducible refine gate_callee (f := 35) rfl ?_);refine goesL_ (some 7) rfl rfl Try.func35 T17_ rfl #[.agg #[.int .i64 a0_0,.int .i64 a0_1]] rfl T4_ ?_;(with_reducible refine (impl_Table_size.calls a0_0 a0_1 t102 _ A2.out).mono ?_);rintro e w7 ⟨rfl,hb⟩;refine ⟨_,rfl,?_⟩;have n0_ := aZ_ (blk_below (g := gb101) (o := .cells #[.int .i64 a0_0,.int .i64 a0_1] 25 (0,0)) T1_ hb);have n1_ := aZ_ (below_step T3_ hb);clear BK101;clear HB;have BK101 := n0_;have HB := n1_;clear n0_ n1_;(try clear hb);(try clear hb2);(try clear hk);(try clear hi)) | ((with_reducible refine gate_dst (N := 8) rfl ?_);refine Kd.R_make (Kd.int .i64) _ 3 rfl (N := 8) rfl 35 _ _ rfl t102 rfl rfl Try.underlying35 (.int .i64 0) 8 info3 rfl T46_ (by omega) 0 (ok := fun _ => True) (okp := fun _ => True) rfl (fun _ hk => hk) trivial (of_decide_eq_true T20_) (Nat.le_trans (Nat.mul_le_mul_right _ (of_decide_eq_true T20_ : t102.toNat ≤ 35184372088832)) (by omega)) (Below.refl _ _) (Nat.le_refl _) ?_;intro v104 w8 ho9 hb hg_ hnew_;clear hg_ hnew_;(first | rw [← Ny103.out] at ho9 | (simp only [Int.reduceToNat] at ho9;rw [← Ny103.out] at ho9));have n0_ := aZ_ (Kd.R_lower ho9 (below_size T3_));have n1_ := aZ_ (blk_below (g := gb101) (o := .cells #[.int .i64 a0_0,.int .i64 a0_1] 25 (0,0)) T1_ hb);have n2_ := aZ_ (below_step T3_ hb);clear BK101;clear HB;have HO105 := n0_;have BK101 := n1_;have HB := n2_;clear n0_ n1_ n2_;clear hb ho9;obtain ⟨Ao10,co10,eo10⟩ := Kd.R_slice HO105.out;subst eo10))
   go_loopg [11] k (fun kq v11 w' => ∃ (x3_1 : List Int) (x11_1 : Int),v11 = .int .i64 x11_1 ∧ Aside0 (impl_Table_autocorrelation.l0 kq x3_1 (y103.length : Int) x11_1 a0_0 a0_1 = some r) ∧ Aside0 (kq ≤ k) ∧ Aside0 (Kd.R (Kd.int .i64) 3 w' w.heap.size (fun _ => True) (.slice Ao10 y103.length co10) x3_1) ∧ Aside0 (w'.heap[gb101]? = some (.cells #[.int .i64 a0_0,.int .i64 a0_1] 25 (0,0))) ∧ Aside0 (Below w.heap.size w w'))
   case atStart => exact ⟨(y103),(0),T7_,H',⟨Nat.le_refl _⟩,⟨by (with_reducible repeat (first | apply Kd.R_alloc | apply Kd.R_drewN | apply Kd.R_drew));exact HO105.out⟩,⟨by (with_reducible repeat (first | refine blk_drewN ?_ _ | refine blk_drew ?_ | refine blk_alloc ?_ _));exact BK101.out⟩,⟨by repeat (first | (with_reducible first | exact HB.out | apply below_alloc | apply pw_below_drewN | apply below_drew1 | refine below_set ?_ GE101.out) | exact HB.out)⟩⟩
   case round =>
    clear H'
    try clear p2
    try clear c3
    try clear c3b0
    try clear c3b1
    try clear c4
    try clear c4b0
    try clear c4b1
    try clear c5
    try clear hcz6_0
    try clear hcz6_1
    try clear hfz6_0
    try clear hfz6_1
    obtain ⟨x3_1,x11_1,rfl,HA,HK1,HO_3,BK101,HB⟩ := hrel
    have hl3_1 := (Kd.R_reads' HO_3.out).1
    rw [hl3_1] at HO_3
    (try simp only [hl3_1])
    (try simp only [hl3_1] at BK101)
    cases gk with
    | zero => exact absurd HA.out (by simp [impl_Table_autocorrelation.l0])
    | succ k1 =>
     have H := HA.out
     clear HA
     simp only [impl_Table_autocorrelation.l0] at H
     by_cases c11 : x11_1 < (y103.length : Int)
     ·rw [if_pos c11] at H
      have c11b0 : decide (x11_1 < (y103.length : Int)) = true := decide_eq_true c11
      (try rw [hl3_1] at c11b0)
      (try rw [hl3_2] at c11b0)
      clear c11
      replace H := Option.bind_eq_some_iff.mp H
      obtain ⟨t106,A120,H⟩ := H
      replace H : (impl_Table_autocorrelation.l1 k1 x3_1 x11_1 (y103.length : Int) x11_1 t106 0 a0_0 a0_1) = some r := H
      have A12 := aZ_ A120
      clear A120
      have H' := aZ_ H
      clear H
      have hcz13_0 : wr.cell? ⟨gb101,0,none⟩ = some (.int .i64 a0_0) := (blk_cell BK101.out 0).trans rfl
      have hcz13_1 : wr.cell? ⟨gb101,1,none⟩ = some (.int .i64 a0_1) := (blk_cell BK101.out 1).trans rfl
      have hfz13_0 := blk_frozen BK101.out 0
      have hfz13_1 := blk_frozen BK101.out 1
      go_wp2_with (first | ((with_reducible refine gate_callee (f := 35) rfl ?_);refine goesL_ (some 15) rfl rfl Try.func35 T17_ rfl #[.agg #[.int .i64 a0_0,.int .i64 a0_1]] rfl T4_ ?_;(with_reducible refine (impl_Table_size.calls a0_0 a0_1 t106 _ A12.out).mono ?_);rintro e w14 ⟨rfl,hb⟩;refine ⟨_,rfl,?_⟩;have n0_ := aZ_ (Kd.R_below T26_ hb);have n1_ := aZ_ (blk_below (g := gb101) (o := .cells #[.int .i64 a0_0,.int .i64 a0_1] 25 (0,0)) T1_ hb);have n2_ := aZ_ (below_step T3_ hb);clear HO_3;clear BK101;clear HB;have HO_3 := n0_;have BK101 := n1_;have HB := n2_;clear n0_ n1_ n2_;(try clear hb);(try clear hb2);(try clear hk);(try clear hi)))
      go_loopg [16] k1 (fun kq v16 w' => ∃ (x3_2 : List Int) (x16_2 : Int),v16 = .int .i64 x16_2 ∧ Aside0 (impl_Table_autocorrelation.l1 kq x3_2 x11_1 (y103.length : Int) x11_1 t106 x16_2 a0_0 a0_1 = some r) ∧ Aside0 (kq ≤ k1) ∧ Aside0 (Kd.R (Kd.int .i64) 3 w' w.heap.size (fun _ => True) (.slice Ao10 x3_1.length co10) x3_2) ∧ Aside0 (w'.heap[gb101]? = some (.cells #[.int .i64 a0_0,.int .i64 a0_1] 25 (0,0))) ∧ Aside0 (Below w.heap.size w w'))
      case atStart => exact ⟨(x3_1),(0),T7_,H',⟨Nat.le_refl _⟩,⟨by (try simp only [hl3_1]);(with_reducible repeat (first | apply Kd.R_alloc | apply Kd.R_drewN | apply Kd.R_drew));exact HO_3.out⟩,⟨by (try simp only [hl3_1]);(with_reducible repeat (first | refine blk_drewN ?_ _ | refine blk_drew ?_ | refine blk_alloc ?_ _));exact BK101.out⟩,⟨by repeat (first | (with_reducible first | exact HB.out | apply below_alloc | apply pw_below_drewN | apply below_drew1 | refine below_set ?_ GE101.out) | exact HB.out)⟩⟩
      case round =>
       clear H'
       try clear c1
       try clear p2
       try clear c3
       try clear c3b0
       try clear c3b1
       try clear c4
       try clear c4b0
       try clear c4b1
       try clear c5
       try clear c11
       try clear c11b0
       try clear hcz13_0
       try clear hcz13_1
       try clear hcz6_0
       try clear hcz6_1
       try clear hfz13_0
       try clear hfz13_1
       try clear hfz6_0
       try clear hfz6_1
       try clear p2
       obtain ⟨x3_2,x16_2,rfl,HA,HK2,HO_3,BK101,HB⟩ := hrel
       have hl3_2 := (Kd.R_reads' HO_3.out).1
       rw [hl3_2] at HO_3
       (try simp only [hl3_2])
       (try simp only [hl3_2] at BK101)
       cases gk with
       | zero => exact absurd HA.out (by simp [impl_Table_autocorrelation.l1])
       | succ k2 =>
        have H := HA.out
        clear HA
        simp only [impl_Table_autocorrelation.l1] at H
        by_cases c15 : x16_2 < t106
        ·rw [if_pos c15] at H
         have c15b0 : decide (x16_2 < t106) = true := decide_eq_true c15
         clear c15
         by_cases c16 : 0 ≤ x11_1
         ·rw [if_pos c16] at H
          have c16b0 : decide (0 ≤ x11_1) = true := decide_eq_true c16
          clear c16
          by_cases c17 : x11_1 < (x3_2.length : Int)
          ·rw [if_pos c17] at H
           have c17b0 : decide (x11_1 < (x3_2.length : Int)) = true := decide_eq_true c17
           (try rw [hl3_1] at c17b0)
           (try rw [hl3_2] at c17b0)
           clear c17
           replace H := Option.bind_eq_some_iff.mp H
           obtain ⟨t108,A180,H⟩ := H
           replace H : ((impl_Table_at.f a0_0 a0_1 (Go.bits .xor .i64 x16_2 x11_1)).bind fun t109 => ((impl_sign.f (wrap64 (t108 + t109))).bind fun t110 => (impl_Table_autocorrelation.l1 k2 (x3_2.set (x11_1 : Int).toNat (wrap64 ((rd x3_2 x11_1) + t110))) x11_1 (y103.length : Int) x11_1 t106 (wrap64 (x16_2 + 1)) a0_0 a0_1))) = some r := H
           have A18 := aZ_ A180
           clear A180
           replace H := Option.bind_eq_some_iff.mp H
           obtain ⟨t109,A190,H⟩ := H
           replace H : ((impl_sign.f (wrap64 (t108 + t109))).bind fun t110 => (impl_Table_autocorrelation.l1 k2 (x3_2.set (x11_1 : Int).toNat (wrap64 ((rd x3_2 x11_1) + t110))) x11_1 (y103.length : Int) x11_1 t106 (wrap64 (x16_2 + 1)) a0_0 a0_1)) = some r := H
           have A19 := aZ_ A190
           clear A190
           replace H := Option.bind_eq_some_iff.mp H
           obtain ⟨t110,A200,H⟩ := H
           replace H : (impl_Table_autocorrelation.l1 k2 (x3_2.set (x11_1 : Int).toNat (wrap64 ((rd x3_2 x11_1) + t110))) x11_1 (y103.length : Int) x11_1 t106 (wrap64 (x16_2 + 1)) a0_0 a0_1) = some r := H
           have A20 := aZ_ A200
           clear A200
           obtain ⟨y111,hy111⟩ : ∃ y_ : List Int,y_ = (x3_2.set (x11_1 : Int).toNat (wrap64 ((rd x3_2 x11_1) + t110))) := ⟨_,rfl⟩
           replace H : (impl_Table_autocorrelation.l1 k2 y111 x11_1 (y103.length : Int) x11_1 t106 (wrap64 (x16_2 + 1)) a0_0 a0_1) = some r := by first | (rw [hy111];with_reducible exact H) | (have H2_ := (Option.bind_some _ _).symm.trans H;rw [hy111];with_reducible exact H2_) | (have H2_ := (Option.bind_some _ _).symm.trans H;with_reducible exact H2_) | with_reducible exact H | (rw [hy111];exact H) | exact H
           have Ny111 := aZ_ hy111
           clear hy111
           have H' := aZ_ H
           clear H
           try go_wp2
           have n0_ := aZ_ (Kd.R_drew HO_3.out)
           have n1_ := aZ_ (blk_drew BK101.out)
           have n2_ := aZ_ (below_drew1 HB.out)
           clear HO_3
           clear BK101
           clear HB
           have HO_3 := n0_
           have BK101 := n1_
           have HB := n2_
           clear n0_ n1_ n2_
           have p107 : 0 ≤ (x11_1 : Int) := of_decide_eq_true T20_
           have q107 : x11_1 < (x3_2.length : Int) := of_decide_eq_true T20_
           obtain ⟨ad107,e107,hx107_0⟩ := Kd.at_int (Kd.R_reads' HO_3.out).2.2 x11_1 p107 q107
           cases e107
           replace p107 := eq_true p107
           replace q107 := eq_true q107
           refine start_ (n := 17) (S := fun w' => w'.cell? ⟨gb101,0,none⟩ = some (.int .i64 a0_0) ∧ w'.cell? ⟨gb101,1,none⟩ = some (.int .i64 a0_1) ∧ w'.cell? (ad107.add (x11_1).toNat) = some (.int .i64 (rd x3_2 x11_1))) (ds := [16]) #[false,false,false,false,false,false,false,false,false,false,false,false,false,false,false,false,false] T17_ rfl rfl ⟨(blk_cell BK101.out 0).trans rfl,(blk_cell BK101.out 1).trans rfl,hx107_0⟩ (fun hHeld => ?_);refine with_tabW impl_Table_autocorrelation.tab8 impl_Table_autocorrelation.bits8 (fun HT_ HW_ => ?_)
           generalize wr.drew = w22 at HO_3 BK101 HB hx107_0 hHeld ⊢
           refine pZ_ 0 (some 19) #[true,false,false,false,false,false,false,false,false,false,false,false,false,false,false,false,false] ?_
           refine pZ_ 1 (some 20) #[true,true,false,false,false,false,false,false,false,false,false,false,false,false,false,false,false] ?_
           refine pZ_ 2 (some 21) #[true,true,true,false,false,false,false,false,false,false,false,false,false,false,false,false,false] ?_
           refine pZ_ 5 (some 24) #[true,true,true,false,false,true,false,false,false,false,false,false,false,false,false,false,false] ?_
           refine pZ_ 8 (some 27) #[true,true,true,false,false,true,false,false,true,false,false,false,false,false,false,false,false] ?_
           refine pZ_ 9 (some 28) #[true,true,true,false,false,true,false,false,true,true,false,false,false,false,false,false,false] ?_
           refine pZ_ 10 (some 29) #[true,true,true,false,false,true,false,false,true,true,true,false,false,false,false,false,false] ?_
           refine tZ3_ 3 (some 22) #[true,true,true,true,false,true,false,false,true,true,true,false,false,false,false,false,false] hHeld ?_
           refine tZ3_ 4 (some 23) #[true,true,true,true,true,true,false,false,true,true,true,false,false,false,false,false,false] hHeld ?_
           refine tZ3_ 7 (some 26) #[true,true,true,true,true,true,false,true,true,true,true,false,false,false,false,false,false] hHeld ?_
           refine one_ (i := 6) (N := some 25) #[true,true,true,true,true,true,true,true,true,true,true,false,false,false,false,false,false] rfl rfl (one_of HT_.out T17_) T46_ (fun K hK => ?_)
           refine gZ_ Try.func36 #[.agg #[.int .i64 a0_0,.int .i64 a0_1],.int .i64 x16_2] ?_
           with_reducible refine (impl_Table_at.calls a0_0 a0_1 x16_2 t108 _ A18.out).mono ?_
           rintro e w23 ⟨rfl,hb⟩
           have HS2_ := (hb.cell (World.block_lt_of_cell? _ _ (hHeld.2.2))).trans (hHeld.2.2)
           refine ⟨_,rfl,?_⟩
           have n0_ := aZ_ (Kd.R_below T26_ hb)
           have n1_ := aZ_ (blk_below (g := gb101) (o := .cells #[.int .i64 a0_0,.int .i64 a0_1] 25 (0,0)) T1_ hb)
           have n2_ := aZ_ (below_step T3_ hb)
           clear HO_3
           clear BK101
           clear HB
           have HO_3 := n0_
           have BK101 := n1_
           have HB := n2_
           clear n0_ n1_ n2_
           (try clear hb)
           (try clear hb2)
           (try clear hk)
           (try clear hi)
           refine hK.out _ _ ⟨(blk_cell BK101.out 0).trans rfl,(blk_cell BK101.out 1).trans rfl,HS2_⟩ (fun hHeld => ?_)
           clear hK K
           refine norm_ (a' := ?_) ?_ ?_
           rotate_left
           ·show Act.put _ (some 25) _ = _
            simp only [Act.put,List.setIfInBounds_toArray,List.set_cons_zero,List.set_cons_succ,i64_w,i32_w]
            rfl
           refine one_ (i := 11) (N := some 30) #[true,true,true,true,true,true,true,true,true,true,true,true,false,false,false,false,false] rfl rfl (one_of HT_.out T17_) T46_ (fun K hK => ?_)
           refine gZ_ Try.func36 #[.agg #[.int .i64 a0_0,.int .i64 a0_1],.int .i64 (Go.bits .xor .i64 x16_2 x11_1)] ?_
           with_reducible refine (impl_Table_at.calls a0_0 a0_1 (Go.bits .xor .i64 x16_2 x11_1) t109 _ A19.out).mono ?_
           rintro e w24 ⟨rfl,hb⟩
           have HS2_ := (hb.cell (World.block_lt_of_cell? _ _ (hHeld.2.2))).trans (hHeld.2.2)
           refine ⟨_,rfl,?_⟩
           have n0_ := aZ_ (Kd.R_below T26_ hb)
           have n1_ := aZ_ (blk_below (g := gb101) (o := .cells #[.int .i64 a0_0,.int .i64 a0_1] 25 (0,0)) T1_ hb)
           have n2_ := aZ_ (below_step T3_ hb)
           clear HO_3
           clear BK101
           clear HB
           have HO_3 := n0_
           have BK101 := n1_
           have HB := n2_
           clear n0_ n1_ n2_
           (try clear hb)
           (try clear hb2)
           (try clear hk)
           (try clear hi)
           refine hK.out _ _ ⟨(blk_cell BK101.out 0).trans rfl,(blk_cell BK101.out 1).trans rfl,HS2_⟩ (fun hHeld => ?_)
           clear hK K
           refine norm_ (a' := ?_) ?_ ?_
           rotate_left
           ·show Act.put _ (some 30) _ = _
            simp only [Act.put,List.setIfInBounds_toArray,List.set_cons_zero,List.set_cons_succ,i64_w,i32_w]
            rfl
           refine pZ_ 12 (some 31) #[true,true,true,true,true,true,true,true,true,true,true,true,true,false,false,false,false] ?_
           refine one_ (i := 13) (N := some 32) #[true,true,true,true,true,true,true,true,true,true,true,true,true,true,false,false,false] rfl rfl (one_of HT_.out T17_) T46_ (fun K hK => ?_)
           refine gZ_ Try.func64 #[.int .i64 (wrap64 (t108 + t109))] ?_
           with_reducible refine (impl_sign.calls (wrap64 (t108 + t109)) t110 _ A20.out).mono ?_
           rintro e w' ⟨rfl,⟨nd,rfl⟩⟩
           refine ⟨_,rfl,?_⟩
           have p21 : 0 ≤ (x11_1 : Int) := of_decide_eq_true T20_
           have q21 : (x11_1 : Int) < ((x3_2.length : Int) : Int) := of_decide_eq_true T20_
           obtain ⟨go21,co21,eo21,gb21,gl21,cl21,HG21⟩ := Kd.R_form HO_3.out (by omega)
           (first | cases eo21 | (injection eo21 with ea_ en_ ec_;(first | subst ea_ | (injection ea_ with ea_;subst ea_));subst ec_;clear en_))
           have GB21 := aZ_ gb21
           have GG21 := aZ_ HG21
           clear gb21 gl21 HG21
           (first | simp only [add_plain] at hx107_0 | skip)
           obtain ⟨hx21_0,hf21_0⟩ := Kd.R_celln 0 HO_3.out (x11_1 : Int) p21 q21
           replace p21 := eq_true p21
           replace q21 := eq_true q21
           have HP25 := Kd.R_putn HO_3.out (x11_1 : Int) (wrap64 ((rd x3_2 x11_1) + t110))
           rw [← Ny111.out] at HP25
           have HQ25 := aZ_ HP25
           clear HP25
           refine hK.out _ _ ⟨(blk_cell BK101.out 0).trans rfl,(blk_cell BK101.out 1).trans rfl,hHeld.2.2⟩ (fun hHeld => ?_)
           clear hK K
           refine norm_ (a' := ?_) ?_ ?_
           rotate_left
           ·show Act.put _ (some 32) _ = _
            simp only [Act.put,List.setIfInBounds_toArray,List.set_cons_zero,List.set_cons_succ,i64_w,i32_w]
            rfl
           refine pZ_ 14 (some 33) #[true,true,true,true,true,true,true,true,true,true,true,true,true,true,true,false,false] ?_
           refine pZ_ 15 (some 34) #[true,true,true,true,true,true,true,true,true,true,true,true,true,true,true,true,false] ?_
           refine last_ (i := 16) (N := none) #[true,true,true,true,true,true,true,true,true,true,true,true,true,true,true,true,true] rfl rfl (one_of HT_.out T17_) T46_ (fun K hK => ?_)
           refine skip_ (w1 := ?_) (by rfl) rfl ?_ ?_
           rotate_left
           ·go_simp
            rfl
           refine hK.out _ _ ?_
           clear hK K
           refine done_ (done_of HT_.out T17_) ?_
           try go_wp2
           (try simp only [← hl3_2])
           go_roundg k2
           case measure => have := HK1.out;have := HK2.out;omega
           case rel => exact ⟨(y111),(wrap64 (x16_2 + 1)),T7_,H',⟨by have := HK1.out;have := HK2.out;omega⟩,⟨by (try simp only [hl3_1]);(try simp only [hl3_2]);(with_reducible repeat (first | apply Kd.R_alloc | apply Kd.R_drewN | apply Kd.R_drew));exact HQ25.out⟩,⟨by (try simp only [hl3_1]);(try simp only [hl3_2]);(with_reducible repeat (first | refine blk_drewN ?_ _ | refine blk_drew ?_ | refine blk_alloc ?_ _));refine blk_far ?_ (by have h_ := Kd.R_ne HO_3.out BK101.out T46_;intro e_;exact h_ (by rw [e_];rfl)) _;(with_reducible repeat (first | refine blk_drewN ?_ _ | refine blk_drew ?_ | refine blk_alloc ?_ _));exact BK101.out⟩,⟨by repeat (first | (with_reducible first | exact HB.out | apply below_alloc | apply pw_below_drewN | apply below_drew1 | refine below_set ?_ GB21.out | refine below_set ?_ GE101.out) | exact HB.out)⟩⟩
          ·rw [if_neg c17] at H
           exact absurd H T44_
         ·rw [if_neg c16] at H
          exact absurd H T44_
        ·rw [if_neg c15] at H
         have c15b0 : decide (x16_2 < t106) = false := decide_eq_false c15
         clear c15
         have H' := aZ_ H
         clear H
         go_wp2
         (try simp only [← hl3_1,← hl3_2])
         go_roundg k2
         case measure => have := HK1.out;have := HK2.out;omega
         case rel => exact ⟨(x3_2),(wrap64 (x11_1 + 1)),T7_,H',⟨by have := HK1.out;have := HK2.out;omega⟩,⟨by (try simp only [hl3_1]);(try simp only [hl3_2]);(with_reducible repeat (first | apply Kd.R_alloc | apply Kd.R_drewN | apply Kd.R_drew));exact HO_3.out⟩,⟨by (try simp only [hl3_1]);(try simp only [hl3_2]);(with_reducible repeat (first | refine blk_drewN ?_ _ | refine blk_drew ?_ | refine blk_alloc ?_ _));exact BK101.out⟩,⟨by repeat (first | (with_reducible first | exact HB.out | apply below_alloc | apply pw_below_drewN | apply below_drew1 | refine below_set ?_ GE101.out) | exact HB.out)⟩⟩
     ·rw [if_neg c11] at H
      have c11b0 : decide (x11_1 < (y103.length : Int)) = false := decide_eq_false c11
      (try rw [hl3_1] at c11b0)
      (try rw [hl3_2] at c11b0)
      clear c11
      obtain rfl := Option.some.inj H
      go_wp2
      go_ret
      exact ⟨_,by first | rfl | (simp [errW_none,errW_some] <;> rfl) | (simp [*,errW_none,errW_some] <;> rfl),by (with_reducible repeat (first | apply Kd.R_alloc | apply Kd.R_drewN | apply Kd.R_drew));exact HO_3.out,by repeat (first | (with_reducible first | exact HB.out | apply below_alloc | apply pw_below_drewN | apply below_drew1 | refine below_set ?_ GE101.out) | exact HB.out)⟩
  ·rw [if_neg c4] at H
   exact absurd H T44_
 ·rw [if_neg c3] at H
  exact absurd H T44_
def impl_size1.f (a0 : Int) : Option (Int) := some (mx a0 (wrap64 (-a0)))
set_option maxHeartbeats 8000000 in
set_option maxRecDepth 100000 in
theorem impl_size1.calls (a0 : Int) (r : Int) (w : World) (h : impl_size1.f a0 = some r) :
  Calls Try.prog 51 #[.int .i64 a0] w fun e w' => e = .returned (.int .i64 r) ∧ Below w.heap.size w w' := by
 have HB := aZ_ (Below.refl w.heap.size w)
 have H : (some (mx a0 (wrap64 (-a0)))) = some r := h
 clear h
 obtain ⟨ji2,hji2⟩ : ∃ j_ : Int,(mx a0 (wrap64 (-a0))) = j_ := ⟨_,rfl⟩
 replace H : (some ji2) = some r := by first | (rw [hji2] at H;exact H) | (simp only [hji2] at H ⊢;exact H)
 have hji2_ : (if a0 < (wrap64 (-a0)) then (wrap64 (-a0)) else a0) = ji2 := hji2
 obtain rfl := Option.some.inj H
 go_enter Try.func51,Try.ntmps51
 go_wp2
 go_ret
 exact ⟨by first | rfl | (simp [errW_none,errW_some] <;> rfl) | (simp only [← hji2];first | rfl | (simp [errW_none,errW_some] <;> rfl)) | (simp [*,errW_none,errW_some] <;> rfl),by repeat (first | (with_reducible first | exact HB.out | apply below_alloc | apply pw_below_drewN | apply below_drew1) | exact HB.out)⟩
def impl_LinearStructures.l0 : Nat → List Int → List Int → Int → Int → Int → Int → Option (List Int × Bool)
 | 0,_,_,_,_,_,_ => none
 | k + 1,x4,x11,x12,x13,x102000,x102001 => if x13 < x12 then (if 0 ≤ x13 then (if x13 < (x11.length : Int) then ((impl_size1.f (rd x11 x13)).bind fun t107 => ((impl_Table_size.f x102000 x102001).bind fun t108 => (if t107 = t108 then (if x4.length < 17592186044416 then (impl_LinearStructures.l0 k (x4 ++ [x13]) x11 x12 (wrap64 (x13 + 1)) x102000 x102001) else (none)) else (impl_LinearStructures.l0 k x4 x11 x12 (wrap64 (x13 + 1)) x102000 x102001)))) else (none)) else (none)) else (some (x4,true))
def impl_LinearStructures.f (k : Nat) (a0_0 : Int) (a0_1 : Int) : Option (List Int × Bool) := (impl_IsTable.f a0_0 a0_1).bind fun t102 => (if t102 = true then ((impl_Table_autocorrelation.f k a0_0 a0_1).bind fun t103 => (impl_LinearStructures.l0 k ([] : List Int) t103 (t103.length : Int) 0 a0_0 a0_1)) else (some (([] : List Int),false)))
set_option maxHeartbeats 8000000 in
set_option maxRecDepth 100000 in
theorem impl_LinearStructures.calls (k : Nat) (a0_0 : Int) (a0_1 : Int) (r1 : List Int) (r2 : Bool) (w : World) (h : impl_LinearStructures.f k a0_0 a0_1 = some (r1,r2)) :
  Calls Try.prog 18 #[.agg #[.int .i64 a0_0,.int .i64 a0_1]] w fun e w' => ∃ v0_ : Value,e = .returned (.tuple #[v0_,.bool r2]) ∧ Kd.R (Kd.int .i64) 3 w' w.heap.size (fun _ => True) v0_ r1 ∧ Below w.heap.size w w' := by
 have hu25 := Try.underlying25
 have HB := aZ_ (Below.refl w.heap.size w)
 have H : ((impl_IsTable.f a0_0 a0_1).bind fun t102 => (if t102 = true then ((impl_Table_autocorrelation.f k a0_0 a0_1).bind fun t103 => (impl_LinearStructures.l0 k ([] : List Int) t103 (t103.length : Int) 0 a0_0 a0_1)) else (some (([] : List Int),false)))) = some (r1,r2) := h
 clear h
 replace H := Option.bind_eq_some_iff.mp H
 obtain ⟨t102,A20,H⟩ := H
 replace H : (if t102 = true then ((impl_Table_autocorrelation.f k a0_0 a0_1).bind fun t103 => (impl_LinearStructures.l0 k ([] : List Int) t103 (t103.length : Int) 0 a0_0 a0_1)) else (some (([] : List Int),false))) = some (r1,r2) := H
 have A2 := aZ_ A20
 clear A20
 by_cases c3 : t102 = true
 ·subst c3
  have H1 : ((impl_Table_autocorrelation.f k a0_0 a0_1).bind fun t103 => (impl_LinearStructures.l0 k ([] : List Int) t103 (t103.length : Int) 0 a0_0 a0_1)) = some (r1,r2) := by rw [if_pos rfl] at H;exact H
  clear H
  have H := H1
  clear H1
  replace H := Option.bind_eq_some_iff.mp H
  obtain ⟨t103,A40,H⟩ := H
  replace H : (impl_LinearStructures.l0 k ([] : List Int) t103 (t103.length : Int) 0 a0_0 a0_1) = some (r1,r2) := H
  have A4 := aZ_ A40
  clear A40
  have H' := aZ_ H
  clear H
  go_enter Try.func18,Try.ntmps18
  go_wp2_with (first | ((with_reducible refine gate_dst (N := 1) rfl ?_);refine box_event ?hg (N := 1) ?hd (cs := #[.int .i64 a0_0,.int .i64 a0_1]) (t := 25) ?hr ?_;(case hd => rfl);(case hg => rfl);(case hr => first | (go_simp;done) | (go_simp;rfl));intro gb101 hg w5 hbox hb;have n0_ := aZ_ (below_step T5_ hb);have n1_ := aZ_ (hbox);have n2_ := aZ_ ((T2_ : w.heap.size ≤ gb101));have n3_ := aZ_ ((T2_ : w.heap.size ≤ gb101));clear HB;have HB := n0_;have BK101 := n1_;have GW101 := n2_;have GE101 := n3_;clear n0_ n1_ n2_ n3_;clear hb hbox hg;have hcz6_0 : w5.cell? ⟨gb101,0,none⟩ = some (.int .i64 a0_0) := (blk_cell BK101.out 0).trans rfl;have hcz6_1 : w5.cell? ⟨gb101,1,none⟩ = some (.int .i64 a0_1) := (blk_cell BK101.out 1).trans rfl;have hfz6_0 := blk_frozen BK101.out 0;have hfz6_1 := blk_frozen BK101.out 1) | ((with_reducible refine gate_callee (f := 34) rfl ?_);refine goesL_ (some 8) rfl rfl Try.func34 T17_ rfl #[.agg #[.int .i64 a0_0,.int .i64 a0_1]] rfl T4_ ?_;(with_reducible refine (impl_IsTable.calls a0_0 a0_1 true _ A2.out).mono ?_);rintro e w7 ⟨rfl,hb⟩;refine ⟨_,rfl,?_⟩;have n0_ := aZ_ (blk_below (g := gb101) (o := .cells #[.int .i64 a0_0,.int .i64 a0_1] 25 (0,0)) T1_ hb);have n1_ := aZ_ (below_step T3_ hb);clear BK101;clear HB;have BK101 := n0_;have HB := n1_;clear n0_ n1_;(try clear hb);(try clear hb2);(try clear hk);(try clear hi);have hcz8_0 : w7.cell? ⟨gb101,0,none⟩ = some (.int .i64 a0_0) := (blk_cell BK101.out 0).trans rfl;have hcz8_1 : w7.cell? ⟨gb101,1,none⟩ = some (.int .i64 a0_1) := (blk_cell BK101.out 1).trans rfl;have hfz8_0 := blk_frozen BK101.out 0;have hfz8_1 := blk_frozen BK101.out 1) | ((with_reducible refine gate_callee (f := 50) rfl ?_);refine goesL_ (some 11) rfl rfl Try.func50 T17_ rfl #[.agg #[.int .i64 a0_0,.int .i64 a0_1]] rfl T4_ ?_;(with_reducible refine (impl_Table_autocorrelation.calls k a0_0 a0_1 t103 _ A4.out).mono ?_);rintro e w9 ⟨v104,rfl,ho0,hb⟩;refine ⟨_,rfl,?_⟩;have n0_ := aZ_ (Kd.R_lower ho0 (below_size T3_));have n1_ := aZ_ (blk_below (g := gb101) (o := .cells #[.int .i64 a0_0,.int .i64 a0_1] 25 (0,0)) T1_ hb);have n2_ := aZ_ (below_step T3_ hb);clear BK101;clear HB;have HO105 := n0_;have BK101 := n1_;have HB := n2_;clear n0_ n1_ n2_;(try clear hb);(try clear hb2);(try clear hk);(try clear hi);(try clear ho0);obtain ⟨Ao10,co10,eo10⟩ := Kd.R_slice HO105.out;subst eo10))
  go_loopg [4,13] k (fun kq v4 v13 w' => ∃ (x4_1 : List Int) (x13_1 : Int),v13 = .int .i64 x13_1 ∧ Aside0 (impl_LinearStructures.l0 kq x4_1 t103 (t103.length : Int) x13_1 a0_0 a0_1 = some (r1,r2)) ∧ Aside0 (kq ≤ k) ∧ Aside0 (Kd.R (Kd.int .i64) 3 w' w.heap.size (fun k_ => some k_ ≠ ((.slice Ao10 t103.length co10) : Value).ownBlock) v4 x4_1) ∧ Aside0 (Kd.R (Kd.int .i64) 3 w' w.heap.size (fun k_ => some k_ ≠ (v4 : Value).ownBlock) (.slice Ao10 t103.length co10) t103) ∧ Aside0 (w'.heap[gb101]? = some (.cells #[.int .i64 a0_0,.int .i64 a0_1] 25 (0,0))) ∧ Aside0 (Below w.heap.size w w'))
  case atStart => exact ⟨(([] : List Int)),(0),T7_,H',⟨Nat.le_refl _⟩,⟨by first | exact Kd.R_nil _ _ _ _ _ | exact Kd.N_nil _ _ _ _ _ | exact Kd.V_nil _ _ _ _ _ | exact Kd.Q_nil _ _ _ _ _ | exact Kd.S_nil _ _ _ _ _⟩,⟨by (with_reducible repeat (first | apply Kd.R_alloc | apply Kd.R_drewN | apply Kd.R_drew));exact Kd.R_mono HO105.out (fun _ hk => (by simp [Value.ownBlock]))⟩,⟨by (with_reducible repeat (first | refine blk_drewN ?_ _ | refine blk_drew ?_ | refine blk_alloc ?_ _));exact BK101.out⟩,⟨by repeat (first | (with_reducible first | exact HB.out | apply below_alloc | apply pw_below_drewN | apply below_drew1 | refine below_set ?_ GE101.out) | exact HB.out)⟩⟩
  case round =>
   clear H'
   try clear c1
   try clear p2
   try clear c3
   try clear c5
   try clear hcz6_0
   try clear hcz6_1
   try clear hcz8_0
   try clear hcz8_1
   try clear hfz6_0
   try clear hfz6_1
   try clear hfz8_0
   try clear hfz8_1
   obtain ⟨x4_1,x13_1,rfl,HA,HK1,HO_4,HO_11,BK101,HB⟩ := hrel
   cases gk with
   | zero => exact absurd HA.out (by simp [impl_LinearStructures.l0])
   | succ k1 =>
    have H := HA.out
    clear HA
    simp only [impl_LinearStructures.l0] at H
    by_cases c11 : x13_1 < (t103.length : Int)
    ·rw [if_pos c11] at H
     have c11b0 : decide (x13_1 < (t103.length : Int)) = true := decide_eq_true c11
     clear c11
     by_cases c12 : 0 ≤ x13_1
     ·rw [if_pos c12] at H
      have c12b0 : decide (0 ≤ x13_1) = true := decide_eq_true c12
      clear c12
      by_cases c13 : x13_1 < (t103.length : Int)
      ·rw [if_pos c13] at H
       have c13b0 : decide (x13_1 < (t103.length : Int)) = true := decide_eq_true c13
       clear c13
       replace H := Option.bind_eq_some_iff.mp H
       obtain ⟨t107,A140,H⟩ := H
       replace H : ((impl_Table_size.f a0_0 a0_1).bind fun t108 => (if t107 = t108 then (if x4_1.length < 17592186044416 then (impl_LinearStructures.l0 k1 (x4_1 ++ [x13_1]) t103 (t103.length : Int) (wrap64 (x13_1 + 1)) a0_0 a0_1) else (none)) else (impl_LinearStructures.l0 k1 x4_1 t103 (t103.length : Int) (wrap64 (x13_1 + 1)) a0_0 a0_1))) = some (r1,r2) := H
       have A14 := aZ_ A140
       clear A140
       replace H := Option.bind_eq_some_iff.mp H
       obtain ⟨t108,A150,H⟩ := H
       replace H : (if t107 = t108 then (if x4_1.length < 17592186044416 then (impl_LinearStructures.l0 k1 (x4_1 ++ [x13_1]) t103 (t103.length : Int) (wrap64 (x13_1 + 1)) a0_0 a0_1) else (none)) else (impl_LinearStructures.l0 k1 x4_1 t103 (t103.length : Int) (wrap64 (x13_1 + 1)) a0_0 a0_1)) = some (r1,r2) := H
       have A15 := aZ_ A150
       clear A150
       by_cases c16 : t107 = t108
       ·rw [if_pos c16] at H
        have c16b0 : (t107 == t108) = true := beq_iff_eq.mpr c16
        have c16b1 : (t107 != t108) = false := bne_eq_false_iff_eq.mpr c16
        clear c16
        by_cases c17 : x4_1.length < 17592186044416
        ·rw [if_pos c17] at H
         have LMc17 := aZ_ c17
         clear c17
         obtain ⟨y109,hy109⟩ : ∃ y_ : List Int,y_ = (x4_1 ++ [x13_1]) := ⟨_,rfl⟩
         replace H : (impl_LinearStructures.l0 k1 y109 t103 (t103.length : Int) (wrap64 (x13_1 + 1)) a0_0 a0_1) = some (r1,r2) := by first | (rw [hy109];with_reducible exact H) | (have H2_ := (Option.bind_some _ _).symm.trans H;rw [hy109];with_reducible exact H2_) | (have H2_ := (Option.bind_some _ _).symm.trans H;with_reducible exact H2_) | with_reducible exact H | (rw [hy109];exact H) | exact H
         have Ny109 := aZ_ hy109
         clear hy109
         have H' := aZ_ H
         clear H
         have p106 : 0 ≤ (x13_1 : Int) := of_decide_eq_true T20_
         have q106 : x13_1 < (t103.length : Int) := of_decide_eq_true T20_
         obtain ⟨ad106,e106,hx106_0⟩ := Kd.at_int (Kd.R_reads' HO_11.out).2.2 x13_1 p106 q106
         cases e106
         replace p106 := eq_true p106
         replace q106 := eq_true q106
         try go_wp2
         have n0_ := aZ_ (Kd.R_drew HO_4.out)
         have n1_ := aZ_ (Kd.R_drew HO_11.out)
         have n2_ := aZ_ (blk_drew BK101.out)
         have n3_ := aZ_ (below_drew1 HB.out)
         clear HO_4
         clear HO_11
         clear BK101
         clear HB
         have HO_4 := n0_
         have HO_11 := n1_
         have BK101 := n2_
         have HB := n3_
         clear n0_ n1_ n2_ n3_
         refine start_ (n := 5) (S := fun w' => w'.cell? ⟨gb101,0,none⟩ = some (.int .i64 a0_0) ∧ w'.cell? ⟨gb101,1,none⟩ = some (.int .i64 a0_1)) (ds := []) #[false,false,false,false,false] T17_ rfl rfl ⟨(blk_cell BK101.out 0).trans rfl,(blk_cell BK101.out 1).trans rfl⟩ (fun hHeld => ?_)
         generalize wr.drew = w18 at HO_4 HO_11 BK101 HB hHeld ⊢
         refine pZ_ 0 (some 18) #[true,false,false,false,false] ?_
         refine tZ2_ 2 (some 20) #[true,false,true,false,false] hHeld ?_
         refine one_ (i := 1) (N := some 19) #[true,true,true,false,false] rfl rfl T17_ T46_ (fun K hK => ?_)
         refine gZ_ Try.func51 #[.int .i64 (rd t103 x13_1)] ?_
         with_reducible refine (impl_size1.calls (rd t103 x13_1) t107 _ A14.out).mono ?_
         rintro e w19 ⟨rfl,hb⟩
         refine ⟨_,rfl,?_⟩
         have n0_ := aZ_ (Kd.R_below T37_ hb)
         have n1_ := aZ_ (Kd.R_below T41_ hb)
         have n2_ := aZ_ (blk_below (g := gb101) (o := .cells #[.int .i64 a0_0,.int .i64 a0_1] 25 (0,0)) T1_ hb)
         have n3_ := aZ_ (below_step T3_ hb)
         clear HO_4
         clear HO_11
         clear BK101
         clear HB
         have HO_4 := n0_
         have HO_11 := n1_
         have BK101 := n2_
         have HB := n3_
         clear n0_ n1_ n2_ n3_
         (try clear hb)
         (try clear hb2)
         (try clear hk)
         (try clear hi)
         refine hK.out _ _ ⟨(blk_cell BK101.out 0).trans rfl,(blk_cell BK101.out 1).trans rfl⟩ (fun hHeld => ?_)
         clear hK K
         refine norm_ (a' := ?_) ?_ ?_
         rotate_left
         ·show Act.put _ (some 19) _ = _
          simp only [Act.put,List.setIfInBounds_toArray,List.set_cons_zero,List.set_cons_succ,i64_w,i32_w]
          rfl
         refine one_ (i := 3) (N := some 21) #[true,true,true,true,false] rfl rfl T17_ T46_ (fun K hK => ?_)
         refine gZ_ Try.func35 #[.agg #[.int .i64 a0_0,.int .i64 a0_1]] ?_
         with_reducible refine (impl_Table_size.calls a0_0 a0_1 t108 _ A15.out).mono ?_
         rintro e w20 ⟨rfl,hb⟩
         refine ⟨_,rfl,?_⟩
         have n0_ := aZ_ (Kd.R_below T37_ hb)
         have n1_ := aZ_ (Kd.R_below T41_ hb)
         have n2_ := aZ_ (blk_below (g := gb101) (o := .cells #[.int .i64 a0_0,.int .i64 a0_1] 25 (0,0)) T1_ hb)
         have n3_ := aZ_ (below_step T3_ hb)
         clear HO_4
         clear HO_11
         clear BK101
         clear HB
         have HO_4 := n0_
         have HO_11 := n1_
         have BK101 := n2_
         have HB := n3_
         clear n0_ n1_ n2_ n3_
         (try clear hb)
         (try clear hb2)
         (try clear hk)
         (try clear hi)
         refine hK.out _ _ ⟨(blk_cell BK101.out 0).trans rfl,(blk_cell BK101.out 1).trans rfl⟩ (fun hHeld => ?_)
         clear hK K
         refine norm_ (a' := ?_) ?_ ?_
         rotate_left
         ·show Act.put _ (some 21) _ = _
          simp only [Act.put,List.setIfInBounds_toArray,List.set_cons_zero,List.set_cons_succ,i64_w,i32_w]
          rfl
         refine pZ_ 4 (some 22) #[true,true,true,true,true] ?_
         refine done_ T17_ ?_
         try go_wp2_with (first | ((with_reducible refine gate_builtin (b := .append) (xs := #[.tmp 23,.tmp 25]) rfl ?_);at_builtin;refine Kd.R_append (Kd.int .i64) (w0 := w) w.heap.size rfl (.tmp 23) (.tmp 25) 35 3 (.int .i64 0) 8 rfl Try.underlying35 info3 rfl T46_ (by omega) u4 x4_1 x13_1 [.int .i64 x13_1] (fun k_ => some k_ ≠ (.slice (some ad106) t103.length co10 : Value).ownBlock) (fun _ => False) rfl rfl ?aP (fun _ hk => hk.elim) ?aF ?aO ?aB ?aS ?aL ?_;(case aP => exact rfl);(case aB => exact T3_);(case aF => exact (fun k_ hk => Kd.fresh' (Kd.R_lt T41_) k_ hk));(case aO => exact T37_);(case aS => exact (below_size T3_));(case aL => have := LMc17.out;omega);intro v110 w21 ho hb hg hat;rw [← Ny109.out] at ho;have n0_ := aZ_ (Kd.R_after (ok := (fun _ => True)) (by (with_reducible repeat (first | apply Kd.R_alloc | apply Kd.R_drewN | apply Kd.R_drew));exact Kd.R_mono HO_11.out (fun _ hk => ⟨trivial,hk⟩)) hg hat);have n1_ := aZ_ (blk_grown (g := gb101) (o := .cells #[.int .i64 a0_0,.int .i64 a0_1] 25 (0,0)) T1_ hg (Kd.R_ne HO_4.out BK101.out T46_));have n2_ := aZ_ (hb);have n3_ := aZ_ (ho);clear HO_11;clear BK101;clear HB;clear HO_4;have HO_11 := n0_;have BK101 := n1_;have HB := n2_;have HO111 := n3_;clear n0_ n1_ n2_ n3_;clear ho hb hg hat))
         go_roundg k1
         case measure => have := HK1.out;omega
         case rel => exact ⟨(y109),(wrap64 (x13_1 + 1)),T7_,H',⟨by have := HK1.out;omega⟩,⟨by (with_reducible repeat (first | apply Kd.R_alloc | apply Kd.R_drewN | apply Kd.R_drew));exact HO111.out⟩,⟨by (with_reducible repeat (first | apply Kd.R_alloc | apply Kd.R_drewN | apply Kd.R_drew));exact Kd.R_mono HO_11.out (fun _ hk => hk.2)⟩,⟨by (with_reducible repeat (first | refine blk_drewN ?_ _ | refine blk_drew ?_ | refine blk_alloc ?_ _));exact BK101.out⟩,⟨by repeat (first | (with_reducible first | exact HB.out | apply below_alloc | apply pw_below_drewN | apply below_drew1 | refine below_set ?_ GE101.out) | exact HB.out)⟩⟩
        ·rw [if_neg c17] at H
         exact absurd H T44_
       ·rw [if_neg c16] at H
        have c16b0 : (t107 == t108) = false := beq_eq_false_iff_ne.mpr c16
        have c16b1 : (t107 != t108) = true := bne_iff_ne.mpr c16
        have H' := aZ_ H
        clear H
        have p106 : 0 ≤ (x13_1 : Int) := of_decide_eq_true T20_
        have q106 : x13_1 < (t103.length : Int) := of_decide_eq_true T20_
        obtain ⟨ad106,e106,hx106_0⟩ := Kd.at_int (Kd.R_reads' HO_11.out).2.2 x13_1 p106 q106
        cases e106
        replace p106 := eq_true p106
        replace q106 := eq_true q106
        try go_wp2
        have n0_ := aZ_ (Kd.R_drew HO_4.out)
        have n1_ := aZ_ (Kd.R_drew HO_11.out)
        have n2_ := aZ_ (blk_drew BK101.out)
        have n3_ := aZ_ (below_drew1 HB.out)
        clear HO_4
        clear HO_11
        clear BK101
        clear HB
        have HO_4 := n0_
        have HO_11 := n1_
        have BK101 := n2_
        have HB := n3_
        clear n0_ n1_ n2_ n3_
        refine start_ (n := 5) (S := fun w' => w'.cell? ⟨gb101,0,none⟩ = some (.int .i64 a0_0) ∧ w'.cell? ⟨gb101,1,none⟩ = some (.int .i64 a0_1)) (ds := []) #[false,false,false,false,false] T17_ rfl rfl ⟨(blk_cell BK101.out 0).trans rfl,(blk_cell BK101.out 1).trans rfl⟩ (fun hHeld => ?_)
        generalize wr.drew = w22 at HO_4 HO_11 BK101 HB hHeld ⊢
        refine pZ_ 0 (some 18) #[true,false,false,false,false] ?_
        refine tZ2_ 2 (some 20) #[true,false,true,false,false] hHeld ?_
        refine one_ (i := 1) (N := some 19) #[true,true,true,false,false] rfl rfl T17_ T46_ (fun K hK => ?_)
        refine gZ_ Try.func51 #[.int .i64 (rd t103 x13_1)] ?_
        with_reducible refine (impl_size1.calls (rd t103 x13_1) t107 _ A14.out).mono ?_
        rintro e w23 ⟨rfl,hb⟩
        refine ⟨_,rfl,?_⟩
        have n0_ := aZ_ (Kd.R_below T37_ hb)
        have n1_ := aZ_ (Kd.R_below T41_ hb)
        have n2_ := aZ_ (blk_below (g := gb101) (o := .cells #[.int .i64 a0_0,.int .i64 a0_1] 25 (0,0)) T1_ hb)
        have n3_ := aZ_ (below_step T3_ hb)
        clear HO_4
        clear HO_11
        clear BK101
        clear HB
        have HO_4 := n0_
        have HO_11 := n1_
        have BK101 := n2_
        have HB := n3_
        clear n0_ n1_ n2_ n3_
        (try clear hb)
        (try clear hb2)
        (try clear hk)
        (try clear hi)
        refine hK.out _ _ ⟨(blk_cell BK101.out 0).trans rfl,(blk_cell BK101.out 1).trans rfl⟩ (fun hHeld => ?_)
        clear hK K
        refine norm_ (a' := ?_) ?_ ?_
        rotate_left
        ·show Act.put _ (some 19) _ = _
         simp only [Act.put,List.setIfInBounds_toArray,List.set_cons_zero,List.set_cons_succ,i64_w,i32_w]
         rfl
        refine one_ (i := 3) (N := some 21) #[true,true,true,true,false] rfl rfl T17_ T46_ (fun K hK => ?_)
        refine gZ_ Try.func35 #[.agg #[.int .i64 a0_0,.int .i64 a0_1]] ?_
        with_reducible refine (impl_Table_size.calls a0_0 a0_1 t108 _ A15.out).mono ?_
        rintro e w24 ⟨rfl,hb⟩
        refine ⟨_,rfl,?_⟩
        have n0_ := aZ_ (Kd.R_below T37_ hb)
        have n1_ := aZ_ (Kd.R_below T41_ hb)
        have n2_ := aZ_ (blk_below (g := gb101) (o := .cells #[.int .i64 a0_0,.int .i64 a0_1] 25 (0,0)) T1_ hb)
        have n3_ := aZ_ (below_step T3_ hb)
        clear HO_4
        clear HO_11
        clear BK101
        clear HB
        have HO_4 := n0_
        have HO_11 := n1_
        have BK101 := n2_
        have HB := n3_
        clear n0_ n1_ n2_ n3_
        (try clear hb)
        (try clear hb2)
        (try clear hk)
        (try clear hi)
        refine hK.out _ _ ⟨(blk_cell BK101.out 0).trans rfl,(blk_cell BK101.out 1).trans rfl⟩ (fun hHeld => ?_)
        clear hK K
        refine norm_ (a' := ?_) ?_ ?_
        rotate_left
        ·show Act.put _ (some 21) _ = _
         simp only [Act.put,List.setIfInBounds_toArray,List.set_cons_zero,List.set_cons_succ,i64_w,i32_w]
         rfl
        refine pZ_ 4 (some 22) #[true,true,true,true,true] ?_
        refine done_ T17_ ?_
        try go_wp2
        go_roundg k1
        case measure => have := HK1.out;omega
        case rel => exact ⟨(x4_1),(wrap64 (x13_1 + 1)),T7_,H',⟨by have := HK1.out;omega⟩,⟨by (with_reducible repeat (first | apply Kd.R_alloc | apply Kd.R_drewN | apply Kd.R_drew));exact HO_4.out⟩,⟨by (with_reducible repeat (first | apply Kd.R_alloc | apply Kd.R_drewN | apply Kd.R_drew));exact HO_11.out⟩,⟨by (with_reducible repeat (first | refine blk_drewN ?_ _ | refine blk_drew ?_ | refine blk_alloc ?_ _));exact BK101.out⟩,⟨by repeat (first | (with_reducible first | exact HB.out | apply below_alloc | apply pw_below_drewN | apply below_drew1 | refine below_set ?_ GE101.out) | exact HB.out)⟩⟩
      ·rw [if_neg c13] at H
       exact absurd H T44_
     ·rw [if_neg c12] at H
      exact absurd H T44_
    ·rw [if_neg c11] at H
     have c11b0 : decide (x13_1 < (t103.length : Int)) = false := decide_eq_false c11
     clear c11
     simp only [Option.some.injEq,Prod.mk.injEq] at H
     obtain ⟨rfl,rfl⟩ := H
     go_wp2
     go_ret2
     exact ⟨_,by first | rfl | (simp [errW_none,errW_some] <;> rfl) | (simp [*,errW_none,errW_some] <;> rfl),by (with_reducible repeat (first | apply Kd.R_alloc | apply Kd.R_drewN | apply Kd.R_drew));exact Kd.R_mono HO_4.out (fun _ hk => trivial),by repeat (first | (with_reducible first | exact HB.out | apply below_alloc | apply pw_below_drewN | apply below_drew1 | refine below_set ?_ GE101.out) | exact HB.out)⟩
 ·replace c3 := Bool.eq_false_iff.mpr c3
  subst c3
  have H1 : (some (([] : List Int),false)) = some (r1,r2) := by rw [if_neg (show ¬ (false = true) by decide)] at H;exact H
  clear H
  have H := H1
  clear H1
  simp only [Option.some.injEq,Prod.mk.injEq] at H
  obtain ⟨rfl,rfl⟩ := H
  go_enter Try.func18,Try.ntmps18
  go_wp2_with (first | ((with_reducible refine gate_dst (N := 1) rfl ?_);refine box_event ?hg (N := 1) ?hd (cs := #[.int .i64 a0_0,.int .i64 a0_1]) (t := 25) ?hr ?_;(case hd => rfl);(case hg => rfl);(case hr => first | (go_simp;done) | (go_simp;rfl));intro gb101 hg w25 hbox hb;have n0_ := aZ_ (below_step T5_ hb);have n1_ := aZ_ (hbox);have n2_ := aZ_ ((T2_ : w.heap.size ≤ gb101));have n3_ := aZ_ ((T2_ : w.heap.size ≤ gb101));clear HB;have HB := n0_;have BK101 := n1_;have GW101 := n2_;have GE101 := n3_;clear n0_ n1_ n2_ n3_;clear hb hbox hg;have hcz26_0 : w25.cell? ⟨gb101,0,none⟩ = some (.int .i64 a0_0) := (blk_cell BK101.out 0).trans rfl;have hcz26_1 : w25.cell? ⟨gb101,1,none⟩ = some (.int .i64 a0_1) := (blk_cell BK101.out 1).trans rfl;have hfz26_0 := blk_frozen BK101.out 0;have hfz26_1 := blk_frozen BK101.out 1) | ((with_reducible refine gate_callee (f := 34) rfl ?_);refine goesL_ (some 8) rfl rfl Try.func34 T17_ rfl #[.agg #[.int .i64 a0_0,.int .i64 a0_1]] rfl T4_ ?_;(with_reducible refine (impl_IsTable.calls a0_0 a0_1 false _ A2.out).mono ?_);rintro e w27 ⟨rfl,hb⟩;refine ⟨_,rfl,?_⟩;have n0_ := aZ_ (blk_below (g := gb101) (o := .cells #[.int .i64 a0_0,.int .i64 a0_1] 25 (0,0)) T1_ hb);have n1_ := aZ_ (below_step T3_ hb);clear BK101;clear HB;have BK101 := n0_;have HB := n1_;clear n0_ n1_;(try clear hb);(try clear hb2);(try clear hk);(try clear hi)))
  go_ret2
  exact ⟨_,by first | rfl | (simp [errW_none,errW_some] <;> rfl) | (simp [*,errW_none,errW_some] <;> rfl),by first | exact Kd.R_nil _ _ _ _ _ | exact Kd.N_nil _ _ _ _ _ | exact Kd.V_nil _ _ _ _ _ | exact Kd.Q_nil _ _ _ _ _ | exact Kd.S_nil _ _ _ _ _,by repeat (first | (with_reducible first | exact HB.out | apply below_alloc | apply pw_below_drewN | apply below_drew1 | refine below_set ?_ GE101.out) | exact HB.out)⟩
def spec_l12Sign.f (k : Nat) (a0 : Int) : Option (Int) := (spec_l2Count.f k a0).bind fun t101 => (if (Int.tmod t101 2) = 1 then (some (-1)) else (some 1))
set_option maxHeartbeats 8000000 in
set_option maxRecDepth 100000 in
theorem spec_l12Sign.calls (k : Nat) (a0 : Int) (r : Int) (w : World) (h : spec_l12Sign.f k a0 = some r) :
  Calls Try.prog 65 #[.int .i64 a0] w fun e w' => e = .returned (.int .i64 r) ∧ Drawn0 w w' := by
 have H : ((spec_l2Count.f k a0).bind fun t101 => (if (Int.tmod t101 2) = 1 then (some (-1)) else (some 1))) = some r := h
 clear h
 replace H := Option.bind_eq_some_iff.mp H
 obtain ⟨t101,A20,H⟩ := H
 replace H : (if (Int.tmod t101 2) = 1 then (some (-1)) else (some 1)) = some r := H
 have A2 := aZ_ A20
 clear A20
 by_cases c3 : (Int.tmod t101 2) = 1
 ·rw [if_pos c3] at H
  have c3b0 : ((Int.tmod t101 2) == 1) = true := beq_iff_eq.mpr c3
  have c3b1 : ((Int.tmod t101 2) != 1) = false := bne_eq_false_iff_eq.mpr c3
  clear c3
  obtain rfl := Option.some.inj H
  go_enter Try.func65,Try.ntmps65
  go_wp2_with (first | ((with_reducible refine gate_callee (f := 43) rfl ?_);refine goesL_ (some 4) rfl rfl Try.func43 T17_ rfl #[.int .i64 a0] rfl T4_ ?_;(with_reducible refine (spec_l2Count.calls k a0 t101 _ A2.out).mono ?_);rintro e w' ⟨rfl,⟨nd,rfl⟩⟩;refine ⟨_,rfl,?_⟩))
  go_ret
  exact ⟨by first | rfl | (simp;done) | (simp [*];done),by repeat (first | exact Drawn0.refl _ | apply Drawn0.step)⟩
 ·rw [if_neg c3] at H
  have c3b0 : ((Int.tmod t101 2) == 1) = false := beq_eq_false_iff_ne.mpr c3
  have c3b1 : ((Int.tmod t101 2) != 1) = true := bne_iff_ne.mpr c3
  obtain rfl := Option.some.inj H
  go_enter Try.func65,Try.ntmps65
  go_wp2_with (first | ((with_reducible refine gate_callee (f := 43) rfl ?_);refine goesL_ (some 4) rfl rfl Try.func43 T17_ rfl #[.int .i64 a0] rfl T4_ ?_;(with_reducible refine (spec_l2Count.calls k a0 t101 _ A2.out).mono ?_);rintro e w' ⟨rfl,⟨nd,rfl⟩⟩;refine ⟨_,rfl,?_⟩))
  go_ret
  exact ⟨by first | rfl | (simp;done) | (simp [*];done),by repeat (first | exact Drawn0.refl _ | apply Drawn0.step)⟩
end Go.Proofs.Ytgojehaneegaeac.F
