/- Walks of Go functions and lemmas on what they compute, for the row of FnLinear (a part of several): each call ends as the Lean function of its name tells; the conditions are those of each theorem. -/
import Derived.Test.YtgojehaneegaeacM1FnLinear
import Derived.Test.YtgojehaneegaeacM2FnLinear
import Derived.Test.YtgojehaneegaeacM3FnLinear
import Derived.Test.YtgojehaneegaeacM4FnLinear
import Derived.Test.YtgojehaneegaeacM5FnLinear
import Derived.Test.YtgojehaneegaeacM6FnLinear
namespace Go.Proofs.Ytgojehaneegaeac.F
open Go.RowKit Go.Proofs.YtgojehaneegaeacW.PrintWords Go.Proofs.YtgojehaneegaeacW.PrintLast Go.Proofs.YtgojehaneegaeacW.PrintMore
attribute [local go_sem] max2_int min2_int max_two min_two max_three min_three max_four min_four 
set_option linter.unusedVariables false
set_option linter.unusedSimpArgs false
def spec_l2Any.f (k : Nat) (s0_0 : List Int) (s0_1 : Int) (s0_2 : Int) : Option (Int × Int × Int × Int) := (spec_l1Below.f s0_0 s0_1 s0_2 5).bind fun bt102 => ((spec_l2Draw.f k s0_0 bt102.2.1 bt102.2.2 bt102.1).bind fun bt105 => ((spec_l1Below.f s0_0 bt105.2.2.1 bt105.2.2.2 14).bind fun bt110 => (if bt110.1 = 0 then ((spec_l1PickInt.f s0_0 bt110.2.1 bt110.2.2 (([(-1),6,5,0,9223372036854775807] : List Int))).bind fun bt116 => (some (bt116.1,bt105.2.1,bt116.2.1,bt116.2.2))) else (if bt110.1 = 1 then ((spec_l1PickInt.f s0_0 bt110.2.1 bt110.2.2 (([(-1),0,1,65536,9223372036854775807] : List Int))).bind fun bt122 => (some (bt105.1,bt122.1,bt122.2.1,bt122.2.2))) else (some (bt105.1,bt105.2.1,bt110.2.1,bt110.2.2))))))
set_option maxHeartbeats 8000000 in
set_option maxRecDepth 100000 in
theorem spec_l2Any.calls (k : Nat) (g : Nat) (s0_0 : List Int) (s0_1 : Int) (s0_2 : Int) (r1 : Int) (r2 : Int) (r3 : Int) (r4 : Int) (w0 w : World) (hI : IsS64 w0 w g s0_0 s0_1 s0_2) (hB : Below w0.heap.size w0 w) (h : spec_l2Any.f k s0_0 s0_1 s0_2 = some (r1,r2,r3,r4)) :
  Calls Try.prog 32 #[.pointer (some ⟨g,0,none⟩)] w fun e w' => e = .returned (.agg #[.int .i64 r1,.int .i64 r2]) ∧ IsS64 w0 w' g s0_0 r3 r4 ∧ Below w0.heap.size w0 w' ∧ KeepBut w w' g none := by
 have hu25 := Try.underlying25
 have HI0 := aZ_ hI
 have HK := aZ_ (KeepBut.refl w g none)
 have HL := aZ_ hB.size
 clear hI
 have HW0 := aZ_ hB.size
 have HB := aZ_ hB
 clear hB
 have H : ((spec_l1Below.f s0_0 s0_1 s0_2 5).bind fun bt102 => ((spec_l2Draw.f k s0_0 bt102.2.1 bt102.2.2 bt102.1).bind fun bt105 => ((spec_l1Below.f s0_0 bt105.2.2.1 bt105.2.2.2 14).bind fun bt110 => (if bt110.1 = 0 then ((spec_l1PickInt.f s0_0 bt110.2.1 bt110.2.2 (([(-1),6,5,0,9223372036854775807] : List Int))).bind fun bt116 => (some (bt116.1,bt105.2.1,bt116.2.1,bt116.2.2))) else (if bt110.1 = 1 then ((spec_l1PickInt.f s0_0 bt110.2.1 bt110.2.2 (([(-1),0,1,65536,9223372036854775807] : List Int))).bind fun bt122 => (some (bt105.1,bt122.1,bt122.2.1,bt122.2.2))) else (some (bt105.1,bt105.2.1,bt110.2.1,bt110.2.2))))))) = some (r1,r2,r3,r4) := h
 clear h
 replace H := Option.bind_eq_some_iff.mp H
 obtain ⟨⟨t102,t103,t104⟩,A20,H⟩ := H
 replace H : ((spec_l2Draw.f k s0_0 t103 t104 t102).bind fun bt105 => ((spec_l1Below.f s0_0 bt105.2.2.1 bt105.2.2.2 14).bind fun bt110 => (if bt110.1 = 0 then ((spec_l1PickInt.f s0_0 bt110.2.1 bt110.2.2 (([(-1),6,5,0,9223372036854775807] : List Int))).bind fun bt116 => (some (bt116.1,bt105.2.1,bt116.2.1,bt116.2.2))) else (if bt110.1 = 1 then ((spec_l1PickInt.f s0_0 bt110.2.1 bt110.2.2 (([(-1),0,1,65536,9223372036854775807] : List Int))).bind fun bt122 => (some (bt105.1,bt122.1,bt122.2.1,bt122.2.2))) else (some (bt105.1,bt105.2.1,bt110.2.1,bt110.2.2)))))) = some (r1,r2,r3,r4) := H
 have A2 := aZ_ A20
 clear A20
 replace H := Option.bind_eq_some_iff.mp H
 obtain ⟨⟨t105,t106,t107,t108⟩,A30,H⟩ := H
 replace H : ((spec_l1Below.f s0_0 t107 t108 14).bind fun bt110 => (if bt110.1 = 0 then ((spec_l1PickInt.f s0_0 bt110.2.1 bt110.2.2 (([(-1),6,5,0,9223372036854775807] : List Int))).bind fun bt116 => (some (bt116.1,t106,bt116.2.1,bt116.2.2))) else (if bt110.1 = 1 then ((spec_l1PickInt.f s0_0 bt110.2.1 bt110.2.2 (([(-1),0,1,65536,9223372036854775807] : List Int))).bind fun bt122 => (some (t105,bt122.1,bt122.2.1,bt122.2.2))) else (some (t105,t106,bt110.2.1,bt110.2.2))))) = some (r1,r2,r3,r4) := H
 have A3 := aZ_ A30
 clear A30
 replace H := Option.bind_eq_some_iff.mp H
 obtain ⟨⟨t110,t111,t112⟩,A40,H⟩ := H
 replace H : (if t110 = 0 then ((spec_l1PickInt.f s0_0 t111 t112 (([(-1),6,5,0,9223372036854775807] : List Int))).bind fun bt116 => (some (bt116.1,t106,bt116.2.1,bt116.2.2))) else (if t110 = 1 then ((spec_l1PickInt.f s0_0 t111 t112 (([(-1),0,1,65536,9223372036854775807] : List Int))).bind fun bt122 => (some (t105,bt122.1,bt122.2.1,bt122.2.2))) else (some (t105,t106,t111,t112)))) = some (r1,r2,r3,r4) := H
 have A4 := aZ_ A40
 clear A40
 by_cases c5 : t110 = 0
 ·rw [if_pos c5] at H
  have c5b0 : (t110 == 0) = true := beq_iff_eq.mpr c5
  have c5b1 : (t110 != 0) = false := bne_eq_false_iff_eq.mpr c5
  clear c5
  obtain ⟨y113,hy113⟩ : ∃ y_ : List Int,y_ = (([(-1),6,5,0,9223372036854775807] : List Int)) := ⟨_,rfl⟩
  replace H : ((spec_l1PickInt.f s0_0 t111 t112 y113).bind fun bt116 => (some (bt116.1,t106,bt116.2.1,bt116.2.2))) = some (r1,r2,r3,r4) := by first | (rw [hy113];with_reducible exact H) | (have H2_ := (Option.bind_some _ _).symm.trans H;rw [hy113];with_reducible exact H2_) | (have H2_ := (Option.bind_some _ _).symm.trans H;with_reducible exact H2_) | with_reducible exact H | (rw [hy113];exact H) | exact H
  have Ny113 := aZ_ hy113
  clear hy113
  replace H := Option.bind_eq_some_iff.mp H
  obtain ⟨⟨t116,t117,t118⟩,A60,H⟩ := H
  replace H : (some (t116,t106,t117,t118)) = some (r1,r2,r3,r4) := H
  have A6 := aZ_ A60
  clear A60
  simp only [Option.some.injEq,Prod.mk.injEq] at H
  obtain ⟨rfl,rfl,rfl,rfl⟩ := H
  go_enter Try.func32,Try.ntmps32
  go_wp2_with (first | ((with_reducible refine gate_dst (N := 2) rfl ?_);refine box_event ?hg (N := 2) ?hd (cs := #[.int .i64 0,.int .i64 0]) (t := 25) ?hr ?_;(case hd => rfl);(case hg => rfl);(case hr => first | (go_simp;done) | (go_simp;rfl));intro gb101 hg w7 hbox hb;have n0_ := aZ_ (IsS64.below T19_ hb);have n1_ := aZ_ (KeepBut.trans T15_ (KeepBut.of_below hb g none) (.inl rfl));have n2_ := aZ_ (below_step T18_ hb);have n3_ := aZ_ (hbox);have n4_ := aZ_ ((T8_ : w.heap.size ≤ gb101));have n5_ := aZ_ ((Nat.le_trans HW0.out (T8_ : w.heap.size ≤ gb101) : w0.heap.size ≤ gb101));have n6_ := aZ_ ((T13_ : g ≠ gb101));have n7_ := aZ_ ((T14_ : gb101 ≠ g));clear HI0;clear HK;clear HB;have HI0 := n0_;have HK := n1_;have HB := n2_;have BK101 := n3_;have GW101 := n4_;have GE101 := n5_;have NB0_101 := n6_;have NB101_0 := n7_;clear n0_ n1_ n2_ n3_ n4_ n5_ n6_ n7_;clear hb hbox hg) | ((with_reducible refine gate_callee (f := 31) rfl ?_);refine goesL_ (some 6) rfl rfl Try.func31 T17_ rfl #[.pointer (some ⟨g,0,none⟩),.int .i64 5] rfl T4_ ?_;(with_reducible refine (spec_l1Below.calls g s0_0 s0_1 s0_2 5 t102 t103 t104 w0 _ ?side1 ?side2 A2.out).mono ?_);(case side1 => repeat (first | (with_reducible first | exact HI0.out | apply IsS64.alloc | apply IsS64.drewN | apply IsS64.drew | apply IsS64.set_1 | apply IsS64.set_2 | refine IsS64.far ?_ NB0_101.out _) | exact HI0.out));(case side2 => repeat (first | (with_reducible first | exact HB.out | apply below_alloc | apply pw_below_drewN | apply below_drew1 | refine below_set ?_ (IsS64.ge HI0.out) | refine below_set ?_ GE101.out) | exact HB.out));rintro e w8 ⟨rfl,hi,hb,hk⟩;refine ⟨_,rfl,?_⟩;have n0_ := aZ_ (KeepBut.blk hk (g' := gb101) (o := .cells #[.int .i64 0,.int .i64 0] 25 (0,0)) T1_ NB101_0.out T44_);have n1_ := aZ_ (KeepBut.trans T6_ hk (.inl rfl));have n2_ := aZ_ (hb);have n3_ := aZ_ (hi);clear BK101;clear HK;clear HB;clear HI0;have BK101 := n0_;have HK := n1_;have HB := n2_;have HI0 := n3_;clear n0_ n1_ n2_ n3_;(try clear hb);(try clear hb2);(try clear hk);(try clear hi)) | ((with_reducible refine gate_callee (f := 57) rfl ?_);refine goesL_ (some 7) rfl rfl Try.func57 T17_ rfl #[.pointer (some ⟨g,0,none⟩),.int .i64 t102] rfl T4_ ?_;(with_reducible refine (spec_l2Draw.calls k g s0_0 t103 t104 t102 t105 t106 t107 t108 w0 _ ?side1 ?side2 A3.out).mono ?_);(case side1 => repeat (first | (with_reducible first | exact HI0.out | apply IsS64.alloc | apply IsS64.drewN | apply IsS64.drew | apply IsS64.set_1 | apply IsS64.set_2 | refine IsS64.far ?_ NB0_101.out _) | exact HI0.out));(case side2 => repeat (first | (with_reducible first | exact HB.out | apply below_alloc | apply pw_below_drewN | apply below_drew1 | refine below_set ?_ (IsS64.ge HI0.out) | refine below_set ?_ GE101.out) | exact HB.out));rintro e w9 ⟨rfl,hi,hb,hk⟩;refine ⟨_,rfl,?_⟩;have n0_ := aZ_ (KeepBut.blk hk (g' := gb101) (o := .cells #[.int .i64 0,.int .i64 0] 25 (0,0)) T1_ NB101_0.out T44_);have n1_ := aZ_ (KeepBut.trans T6_ hk (.inl rfl));have n2_ := aZ_ (hb);have n3_ := aZ_ (hi);clear BK101;clear HK;clear HB;clear HI0;have BK101 := n0_;have HK := n1_;have HB := n2_;have HI0 := n3_;clear n0_ n1_ n2_ n3_;(try clear hb);(try clear hb2);(try clear hk);(try clear hi)) | ((with_reducible refine gate_dst (N := 3) rfl ?_);refine box_event ?hg (N := 3) ?hd (cs := #[.int .i64 0,.int .i64 0]) (t := 25) ?hr ?_;(case hd => rfl);(case hg => rfl);(case hr => first | (go_simp;done) | (go_simp;rfl));intro gb109 hg w10 hbox hb;have n0_ := aZ_ (IsS64.below T10_ hb);have n1_ := aZ_ (blk_below (g := gb101) (o := .cells #[.int .i64 0,.int .i64 0] 25 (0,0)) T1_ hb);have n2_ := aZ_ (KeepBut.trans T6_ (KeepBut.of_below hb g none) (.inl rfl));have n3_ := aZ_ (below_step T11_ hb);have n4_ := aZ_ (hbox);have n5_ := aZ_ ((T25_ : w.heap.size ≤ gb109));have n6_ := aZ_ ((Nat.le_trans HW0.out (T25_ : w.heap.size ≤ gb109) : w0.heap.size ≤ gb109));have n7_ := aZ_ ((T30_ : gb101 ≠ gb109));have n8_ := aZ_ ((T31_ : gb109 ≠ gb101));have n9_ := aZ_ ((T34_ : g ≠ gb109));have n10_ := aZ_ ((T35_ : gb109 ≠ g));clear HI0;clear BK101;clear HK;clear HB;have HI0 := n0_;have BK101 := n1_;have HK := n2_;have HB := n3_;have BK109 := n4_;have GW109 := n5_;have GE109 := n6_;have NB101_109 := n7_;have NB109_101 := n8_;have NB0_109 := n9_;have NB109_0 := n10_;clear n0_ n1_ n2_ n3_ n4_ n5_ n6_ n7_ n8_ n9_ n10_;clear hb hbox hg;have hnb11 := NB109_101.out;have hnc11 := NB101_109.out;have hnb12 := NB109_0.out;have hnc12 := NB0_109.out;have hcz13_0 : w10.cell? ⟨gb109,0,none⟩ = some (.int .i64 0) := (blk_cell BK109.out 0).trans rfl;have hcz13_1 : w10.cell? ⟨gb109,1,none⟩ = some (.int .i64 0) := (blk_cell BK109.out 1).trans rfl;have hfz13_0 := blk_frozen BK109.out 0;have hfz13_1 := blk_frozen BK109.out 1) | ((with_reducible refine gate_callee (f := 31) rfl ?_);refine goesL_ (some 9) rfl rfl Try.func31 T17_ rfl #[.pointer (some ⟨g,0,none⟩),.int .i64 14] rfl T4_ ?_;(with_reducible refine (spec_l1Below.calls g s0_0 t107 t108 14 t110 t111 t112 w0 _ ?side1 ?side2 A4.out).mono ?_);(case side1 => repeat (first | (with_reducible first | exact HI0.out | apply IsS64.alloc | apply IsS64.drewN | apply IsS64.drew | apply IsS64.set_1 | apply IsS64.set_2 | refine IsS64.far ?_ NB0_101.out _ | refine IsS64.far ?_ NB0_109.out _) | exact HI0.out));(case side2 => repeat (first | (with_reducible first | exact HB.out | apply below_alloc | apply pw_below_drewN | apply below_drew1 | refine below_set ?_ (IsS64.ge HI0.out) | refine below_set ?_ GE101.out | refine below_set ?_ GE109.out) | exact HB.out));rintro e w14 ⟨rfl,hi,hb,hk⟩;refine ⟨_,rfl,?_⟩;have n0_ := aZ_ (KeepBut.blk hk (g' := gb101) (o := .cells #[.int .i64 0,.int .i64 0] 25 (0,0)) T32_ NB101_0.out T44_);have n1_ := aZ_ (KeepBut.blk hk (g' := gb109) (o := .cells #[.int .i64 t105,.int .i64 t106] 25 (0,0)) T28_ NB109_0.out T44_);have n2_ := aZ_ (KeepBut.trans T21_ hk (.inl rfl));have n3_ := aZ_ (hb);have n4_ := aZ_ (hi);clear BK101;clear BK109;clear HK;clear HB;clear HI0;have BK101 := n0_;have BK109 := n1_;have HK := n2_;have HB := n3_;have HI0 := n4_;clear n0_ n1_ n2_ n3_ n4_;(try clear hb);(try clear hb2);(try clear hk);(try clear hi)) | ((with_reducible refine gate_dst (N := 13) rfl ?_);refine Kd.R_lit (Kd.int .i64) _ 3 ?hg (N := 13) ?hd (xs := ([(-1),6,5,0,9223372036854775807] : List Int)) (inner := [.int .i64 (-1),.int .i64 6,.int .i64 5,.int .i64 0,.int .i64 9223372036854775807]) (ok := fun _ => True) (okp := fun _ => True) ?hr ?hp (fun _ hk => hk) trivial (Below.refl _ _) (Nat.le_refl _) T44_ ?_;(case hd => rfl);(case hg => rfl);(case hr => first | (go_simp;done) | (go_simp;rfl));(case hp => exact (Reps.one (show Kd.M (Kd.int .i64) _ _ _ (-1) [.int .i64 (-1)] from rfl) (Reps.one (show Kd.M (Kd.int .i64) _ _ _ 6 [.int .i64 6] from rfl) (Reps.one (show Kd.M (Kd.int .i64) _ _ _ 5 [.int .i64 5] from rfl) (Reps.one (show Kd.M (Kd.int .i64) _ _ _ 0 [.int .i64 0] from rfl) (Reps.one (show Kd.M (Kd.int .i64) _ _ _ 9223372036854775807 [.int .i64 9223372036854775807] from rfl) (Reps.none _ _)))))));intro v114 w15 ho16 hb hg_ hnew_;clear hg_ hnew_;(first | rw [← Ny113.out] at ho16 | (simp only [Int.reduceToNat] at ho16;rw [← Ny113.out] at ho16));have n0_ := aZ_ (Kd.R_lower ho16 (keep_size (w := w) (g := g) (row := none) T21_));have n1_ := aZ_ (IsS64.below T42_ hb);have n2_ := aZ_ (blk_below (g := gb101) (o := .cells #[.int .i64 0,.int .i64 0] 25 (0,0)) T1_ hb);have n3_ := aZ_ (blk_below (g := gb109) (o := .cells #[.int .i64 t105,.int .i64 t106] 25 (0,0)) T45_ hb);have n4_ := aZ_ (KeepBut.trans T21_ (KeepBut.of_below hb g none) (.inl rfl));have n5_ := aZ_ (below_step T43_ hb);clear HI0;clear BK101;clear BK109;clear HK;clear HB;have HO115 := n0_;have HI0 := n1_;have BK101 := n2_;have BK109 := n3_;have HK := n4_;have HB := n5_;clear n0_ n1_ n2_ n3_ n4_ n5_;clear hb ho16;obtain ⟨Ao17,co17,eo17⟩ := Kd.R_slice HO115.out;subst eo17) | ((with_reducible refine gate_callee (f := 58) rfl ?_);refine goesL_ (some 14) rfl rfl Try.func58 T17_ rfl #[.pointer (some ⟨g,0,none⟩),.slice Ao17 y113.length co17] rfl T4_ ?_;(with_reducible refine (spec_l1PickInt.calls g s0_0 t111 t112 _ _ y113 t116 t117 t118 w0 _ ?side1 ?side2 ?side3 ?side4 ?side5 A6.out).mono ?_);(case side1 => repeat (first | (with_reducible first | exact HI0.out | apply IsS64.alloc | apply IsS64.drewN | apply IsS64.drew | apply IsS64.set_1 | apply IsS64.set_2 | refine IsS64.far ?_ NB0_101.out _ | refine IsS64.far ?_ NB0_109.out _) | exact HI0.out));(case side2 => repeat (first | (with_reducible first | exact HB.out | apply below_alloc | apply pw_below_drewN | apply below_drew1 | refine below_set ?_ (IsS64.ge HI0.out) | refine below_set ?_ GE101.out | refine below_set ?_ GE109.out) | exact HB.out));(case side3 => repeat (first | exact (Kd.R_reads' HO115.out).2.2 | (with_reducible refine Kd.C_alloc ?_ _) | (with_reducible refine Kd.C_drewN ?_ _) | (with_reducible refine Kd.C_drew ?_)));(case side4 => exact (Kd.R_reads' HO115.out).2.1);(case side5 => exact far_slice (IsS64.own_ne HI0.out HO115.out T46_));rintro e w18 ⟨rfl,hi,hb,hk⟩;refine ⟨_,rfl,?_⟩;have n0_ := aZ_ (KeepBut.blk hk (g' := gb101) (o := .cells #[.int .i64 0,.int .i64 0] 25 (0,0)) T1_ NB101_0.out T44_);have n1_ := aZ_ (KeepBut.blk hk (g' := gb109) (o := .cells #[.int .i64 t105,.int .i64 t106] 25 (0,0)) T45_ NB109_0.out T44_);have n2_ := aZ_ (Kd.R_mono (Kd.R_keep (IsS64.apart (show IsS64 w0 _ g s0_0 t111 t112 from by repeat (first | (with_reducible first | exact HI0.out | apply IsS64.alloc | apply IsS64.drewN | apply IsS64.drew | apply IsS64.set_1 | apply IsS64.set_2 | refine IsS64.far ?_ NB0_101.out _ | refine IsS64.far ?_ NB0_109.out _) | exact HI0.out)) (by (with_reducible repeat (first | apply Kd.R_alloc | apply Kd.R_drewN | apply Kd.R_drew));exact HO115.out) T46_) hk (fun _ h => h.2)) (fun _ h => h.1));have n3_ := aZ_ (KeepBut.trans T21_ hk (.inl rfl));have n4_ := aZ_ (hb);have n5_ := aZ_ (hi);clear BK101;clear BK109;clear HO115;clear HK;clear HB;clear HI0;have BK101 := n0_;have BK109 := n1_;have HO115 := n2_;have HK := n3_;have HB := n4_;have HI0 := n5_;clear n0_ n1_ n2_ n3_ n4_ n5_;(try clear hb);(try clear hb2);(try clear hk);(try clear hi);have hcz19_0 : w18.cell? ⟨gb109,0,none⟩ = some (.int .i64 t105) := (blk_cell BK109.out 0).trans rfl;have hcz19_1 : w18.cell? ⟨gb109,1,none⟩ = some (.int .i64 t106) := (blk_cell BK109.out 1).trans rfl;have hfz19_0 := blk_frozen BK109.out 0;have hfz19_1 := blk_frozen BK109.out 1;have hnb20 := NB101_0.out;have hnc20 := NB0_101.out;have hcz21_0 : w18.cell? ⟨gb101,0,none⟩ = some (.int .i64 0) := (blk_cell BK101.out 0).trans rfl;have hcz21_1 : w18.cell? ⟨gb101,1,none⟩ = some (.int .i64 0) := (blk_cell BK101.out 1).trans rfl;have hfz21_0 := blk_frozen BK101.out 0;have hfz21_1 := blk_frozen BK101.out 1))
  refine bodyPost_ret (results_cell_row rfl _ _ gb101 25 #[.int .i64 t116,.int .i64 t106] (0,0) _ rfl (by (with_reducible repeat (first | refine blk_drewN ?_ _ | refine blk_drew ?_ | refine blk_alloc ?_ _));refine blk_put (cs := #[.int .i64 t116,.int .i64 0]) ?_ 1 _ rfl;(with_reducible repeat (first | refine blk_drewN ?_ _ | refine blk_drew ?_ | refine blk_alloc ?_ _));refine blk_put (cs := #[.int .i64 0,.int .i64 0]) ?_ 0 _ rfl;(with_reducible repeat (first | refine blk_drewN ?_ _ | refine blk_drew ?_ | refine blk_alloc ?_ _));refine blk_far ?_ NB101_109.out _;(with_reducible repeat (first | refine blk_drewN ?_ _ | refine blk_drew ?_ | refine blk_alloc ?_ _));exact BK101.out) Try.underlying25 rfl T17_) rfl ?_
  exact ⟨by first | rfl | (simp [errW_none,errW_some] <;> rfl) | (simp [*,errW_none,errW_some] <;> rfl),by repeat (first | (with_reducible first | exact HI0.out | apply IsS64.alloc | apply IsS64.drewN | apply IsS64.drew | apply IsS64.set_1 | apply IsS64.set_2 | refine IsS64.far ?_ NB0_101.out _ | refine IsS64.far ?_ NB0_109.out _) | exact HI0.out),by repeat (first | (with_reducible first | exact HB.out | apply below_alloc | apply pw_below_drewN | apply below_drew1 | refine below_set ?_ (IsS64.ge HI0.out) | refine below_set ?_ GE101.out | refine below_set ?_ GE109.out) | exact HB.out),by repeat (first | (with_reducible first | exact HK.out | apply KeepBut.set_ | apply keep_drewN | apply keep_drew | apply keep_alloc | refine keep_far ?_ GW101.out _ | refine keep_far ?_ GW109.out _) | exact HK.out)⟩
 ·rw [if_neg c5] at H
  have c5b0 : (t110 == 0) = false := beq_eq_false_iff_ne.mpr c5
  have c5b1 : (t110 != 0) = true := bne_iff_ne.mpr c5
  by_cases c22 : t110 = 1
  ·rw [if_pos c22] at H
   have c22b0 : (t110 == 1) = true := beq_iff_eq.mpr c22
   have c22b1 : (t110 != 1) = false := bne_eq_false_iff_eq.mpr c22
   clear c22
   obtain ⟨y119,hy119⟩ : ∃ y_ : List Int,y_ = (([(-1),0,1,65536,9223372036854775807] : List Int)) := ⟨_,rfl⟩
   replace H : ((spec_l1PickInt.f s0_0 t111 t112 y119).bind fun bt122 => (some (t105,bt122.1,bt122.2.1,bt122.2.2))) = some (r1,r2,r3,r4) := by first | (rw [hy119];with_reducible exact H) | (have H2_ := (Option.bind_some _ _).symm.trans H;rw [hy119];with_reducible exact H2_) | (have H2_ := (Option.bind_some _ _).symm.trans H;with_reducible exact H2_) | with_reducible exact H | (rw [hy119];exact H) | exact H
   have Ny119 := aZ_ hy119
   clear hy119
   replace H := Option.bind_eq_some_iff.mp H
   obtain ⟨⟨t122,t123,t124⟩,A230,H⟩ := H
   replace H : (some (t105,t122,t123,t124)) = some (r1,r2,r3,r4) := H
   have A23 := aZ_ A230
   clear A230
   simp only [Option.some.injEq,Prod.mk.injEq] at H
   obtain ⟨rfl,rfl,rfl,rfl⟩ := H
   go_enter Try.func32,Try.ntmps32
   go_wp2_with (first | ((with_reducible refine gate_dst (N := 2) rfl ?_);refine box_event ?hg (N := 2) ?hd (cs := #[.int .i64 0,.int .i64 0]) (t := 25) ?hr ?_;(case hd => rfl);(case hg => rfl);(case hr => first | (go_simp;done) | (go_simp;rfl));intro gb101 hg w24 hbox hb;have n0_ := aZ_ (IsS64.below T19_ hb);have n1_ := aZ_ (KeepBut.trans T15_ (KeepBut.of_below hb g none) (.inl rfl));have n2_ := aZ_ (below_step T18_ hb);have n3_ := aZ_ (hbox);have n4_ := aZ_ ((T8_ : w.heap.size ≤ gb101));have n5_ := aZ_ ((Nat.le_trans HW0.out (T8_ : w.heap.size ≤ gb101) : w0.heap.size ≤ gb101));have n6_ := aZ_ ((T13_ : g ≠ gb101));have n7_ := aZ_ ((T14_ : gb101 ≠ g));clear HI0;clear HK;clear HB;have HI0 := n0_;have HK := n1_;have HB := n2_;have BK101 := n3_;have GW101 := n4_;have GE101 := n5_;have NB0_101 := n6_;have NB101_0 := n7_;clear n0_ n1_ n2_ n3_ n4_ n5_ n6_ n7_;clear hb hbox hg) | ((with_reducible refine gate_callee (f := 31) rfl ?_);refine goesL_ (some 6) rfl rfl Try.func31 T17_ rfl #[.pointer (some ⟨g,0,none⟩),.int .i64 5] rfl T4_ ?_;(with_reducible refine (spec_l1Below.calls g s0_0 s0_1 s0_2 5 t102 t103 t104 w0 _ ?side1 ?side2 A2.out).mono ?_);(case side1 => repeat (first | (with_reducible first | exact HI0.out | apply IsS64.alloc | apply IsS64.drewN | apply IsS64.drew | apply IsS64.set_1 | apply IsS64.set_2 | refine IsS64.far ?_ NB0_101.out _) | exact HI0.out));(case side2 => repeat (first | (with_reducible first | exact HB.out | apply below_alloc | apply pw_below_drewN | apply below_drew1 | refine below_set ?_ (IsS64.ge HI0.out) | refine below_set ?_ GE101.out) | exact HB.out));rintro e w25 ⟨rfl,hi,hb,hk⟩;refine ⟨_,rfl,?_⟩;have n0_ := aZ_ (KeepBut.blk hk (g' := gb101) (o := .cells #[.int .i64 0,.int .i64 0] 25 (0,0)) T1_ NB101_0.out T44_);have n1_ := aZ_ (KeepBut.trans T6_ hk (.inl rfl));have n2_ := aZ_ (hb);have n3_ := aZ_ (hi);clear BK101;clear HK;clear HB;clear HI0;have BK101 := n0_;have HK := n1_;have HB := n2_;have HI0 := n3_;clear n0_ n1_ n2_ n3_;(try clear hb);(try clear hb2);(try clear hk);(try clear hi)) | ((with_reducible refine gate_callee (f := 57) rfl ?_);refine goesL_ (some 7) rfl rfl Try.func57 T17_ rfl #[.pointer (some ⟨g,0,none⟩),.int .i64 t102] rfl T4_ ?_;(with_reducible refine (spec_l2Draw.calls k g s0_0 t103 t104 t102 t105 t106 t107 t108 w0 _ ?side1 ?side2 A3.out).mono ?_);(case side1 => repeat (first | (with_reducible first | exact HI0.out | apply IsS64.alloc | apply IsS64.drewN | apply IsS64.drew | apply IsS64.set_1 | apply IsS64.set_2 | refine IsS64.far ?_ NB0_101.out _) | exact HI0.out));(case side2 => repeat (first | (with_reducible first | exact HB.out | apply below_alloc | apply pw_below_drewN | apply below_drew1 | refine below_set ?_ (IsS64.ge HI0.out) | refine below_set ?_ GE101.out) | exact HB.out));rintro e w26 ⟨rfl,hi,hb,hk⟩;refine ⟨_,rfl,?_⟩;have n0_ := aZ_ (KeepBut.blk hk (g' := gb101) (o := .cells #[.int .i64 0,.int .i64 0] 25 (0,0)) T1_ NB101_0.out T44_);have n1_ := aZ_ (KeepBut.trans T6_ hk (.inl rfl));have n2_ := aZ_ (hb);have n3_ := aZ_ (hi);clear BK101;clear HK;clear HB;clear HI0;have BK101 := n0_;have HK := n1_;have HB := n2_;have HI0 := n3_;clear n0_ n1_ n2_ n3_;(try clear hb);(try clear hb2);(try clear hk);(try clear hi)) | ((with_reducible refine gate_dst (N := 3) rfl ?_);refine box_event ?hg (N := 3) ?hd (cs := #[.int .i64 0,.int .i64 0]) (t := 25) ?hr ?_;(case hd => rfl);(case hg => rfl);(case hr => first | (go_simp;done) | (go_simp;rfl));intro gb109 hg w27 hbox hb;have n0_ := aZ_ (IsS64.below T10_ hb);have n1_ := aZ_ (blk_below (g := gb101) (o := .cells #[.int .i64 0,.int .i64 0] 25 (0,0)) T1_ hb);have n2_ := aZ_ (KeepBut.trans T6_ (KeepBut.of_below hb g none) (.inl rfl));have n3_ := aZ_ (below_step T11_ hb);have n4_ := aZ_ (hbox);have n5_ := aZ_ ((T25_ : w.heap.size ≤ gb109));have n6_ := aZ_ ((Nat.le_trans HW0.out (T25_ : w.heap.size ≤ gb109) : w0.heap.size ≤ gb109));have n7_ := aZ_ ((T30_ : gb101 ≠ gb109));have n8_ := aZ_ ((T31_ : gb109 ≠ gb101));have n9_ := aZ_ ((T34_ : g ≠ gb109));have n10_ := aZ_ ((T35_ : gb109 ≠ g));clear HI0;clear BK101;clear HK;clear HB;have HI0 := n0_;have BK101 := n1_;have HK := n2_;have HB := n3_;have BK109 := n4_;have GW109 := n5_;have GE109 := n6_;have NB101_109 := n7_;have NB109_101 := n8_;have NB0_109 := n9_;have NB109_0 := n10_;clear n0_ n1_ n2_ n3_ n4_ n5_ n6_ n7_ n8_ n9_ n10_;clear hb hbox hg;have hnb28 := NB109_101.out;have hnc28 := NB101_109.out;have hnb29 := NB109_0.out;have hnc29 := NB0_109.out;have hcz30_0 : w27.cell? ⟨gb109,0,none⟩ = some (.int .i64 0) := (blk_cell BK109.out 0).trans rfl;have hcz30_1 : w27.cell? ⟨gb109,1,none⟩ = some (.int .i64 0) := (blk_cell BK109.out 1).trans rfl;have hfz30_0 := blk_frozen BK109.out 0;have hfz30_1 := blk_frozen BK109.out 1) | ((with_reducible refine gate_callee (f := 31) rfl ?_);refine goesL_ (some 9) rfl rfl Try.func31 T17_ rfl #[.pointer (some ⟨g,0,none⟩),.int .i64 14] rfl T4_ ?_;(with_reducible refine (spec_l1Below.calls g s0_0 t107 t108 14 t110 t111 t112 w0 _ ?side1 ?side2 A4.out).mono ?_);(case side1 => repeat (first | (with_reducible first | exact HI0.out | apply IsS64.alloc | apply IsS64.drewN | apply IsS64.drew | apply IsS64.set_1 | apply IsS64.set_2 | refine IsS64.far ?_ NB0_101.out _ | refine IsS64.far ?_ NB0_109.out _) | exact HI0.out));(case side2 => repeat (first | (with_reducible first | exact HB.out | apply below_alloc | apply pw_below_drewN | apply below_drew1 | refine below_set ?_ (IsS64.ge HI0.out) | refine below_set ?_ GE101.out | refine below_set ?_ GE109.out) | exact HB.out));rintro e w31 ⟨rfl,hi,hb,hk⟩;refine ⟨_,rfl,?_⟩;have n0_ := aZ_ (KeepBut.blk hk (g' := gb101) (o := .cells #[.int .i64 0,.int .i64 0] 25 (0,0)) T32_ NB101_0.out T44_);have n1_ := aZ_ (KeepBut.blk hk (g' := gb109) (o := .cells #[.int .i64 t105,.int .i64 t106] 25 (0,0)) T28_ NB109_0.out T44_);have n2_ := aZ_ (KeepBut.trans T21_ hk (.inl rfl));have n3_ := aZ_ (hb);have n4_ := aZ_ (hi);clear BK101;clear BK109;clear HK;clear HB;clear HI0;have BK101 := n0_;have BK109 := n1_;have HK := n2_;have HB := n3_;have HI0 := n4_;clear n0_ n1_ n2_ n3_ n4_;(try clear hb);(try clear hb2);(try clear hk);(try clear hi)) | ((with_reducible refine gate_dst (N := 19) rfl ?_);refine Kd.R_lit (Kd.int .i64) _ 3 ?hg (N := 19) ?hd (xs := ([(-1),0,1,65536,9223372036854775807] : List Int)) (inner := [.int .i64 (-1),.int .i64 0,.int .i64 1,.int .i64 65536,.int .i64 9223372036854775807]) (ok := fun _ => True) (okp := fun _ => True) ?hr ?hp (fun _ hk => hk) trivial (Below.refl _ _) (Nat.le_refl _) T44_ ?_;(case hd => rfl);(case hg => rfl);(case hr => first | (go_simp;done) | (go_simp;rfl));(case hp => exact (Reps.one (show Kd.M (Kd.int .i64) _ _ _ (-1) [.int .i64 (-1)] from rfl) (Reps.one (show Kd.M (Kd.int .i64) _ _ _ 0 [.int .i64 0] from rfl) (Reps.one (show Kd.M (Kd.int .i64) _ _ _ 1 [.int .i64 1] from rfl) (Reps.one (show Kd.M (Kd.int .i64) _ _ _ 65536 [.int .i64 65536] from rfl) (Reps.one (show Kd.M (Kd.int .i64) _ _ _ 9223372036854775807 [.int .i64 9223372036854775807] from rfl) (Reps.none _ _)))))));intro v120 w32 ho33 hb hg_ hnew_;clear hg_ hnew_;(first | rw [← Ny119.out] at ho33 | (simp only [Int.reduceToNat] at ho33;rw [← Ny119.out] at ho33));have n0_ := aZ_ (Kd.R_lower ho33 (keep_size (w := w) (g := g) (row := none) T21_));have n1_ := aZ_ (IsS64.below T42_ hb);have n2_ := aZ_ (blk_below (g := gb101) (o := .cells #[.int .i64 0,.int .i64 0] 25 (0,0)) T1_ hb);have n3_ := aZ_ (blk_below (g := gb109) (o := .cells #[.int .i64 t105,.int .i64 t106] 25 (0,0)) T45_ hb);have n4_ := aZ_ (KeepBut.trans T21_ (KeepBut.of_below hb g none) (.inl rfl));have n5_ := aZ_ (below_step T43_ hb);clear HI0;clear BK101;clear BK109;clear HK;clear HB;have HO121 := n0_;have HI0 := n1_;have BK101 := n2_;have BK109 := n3_;have HK := n4_;have HB := n5_;clear n0_ n1_ n2_ n3_ n4_ n5_;clear hb ho33;obtain ⟨Ao34,co34,eo34⟩ := Kd.R_slice HO121.out;subst eo34) | ((with_reducible refine gate_callee (f := 58) rfl ?_);refine goesL_ (some 20) rfl rfl Try.func58 T17_ rfl #[.pointer (some ⟨g,0,none⟩),.slice Ao34 y119.length co34] rfl T4_ ?_;(with_reducible refine (spec_l1PickInt.calls g s0_0 t111 t112 _ _ y119 t122 t123 t124 w0 _ ?side1 ?side2 ?side3 ?side4 ?side5 A23.out).mono ?_);(case side1 => repeat (first | (with_reducible first | exact HI0.out | apply IsS64.alloc | apply IsS64.drewN | apply IsS64.drew | apply IsS64.set_1 | apply IsS64.set_2 | refine IsS64.far ?_ NB0_101.out _ | refine IsS64.far ?_ NB0_109.out _) | exact HI0.out));(case side2 => repeat (first | (with_reducible first | exact HB.out | apply below_alloc | apply pw_below_drewN | apply below_drew1 | refine below_set ?_ (IsS64.ge HI0.out) | refine below_set ?_ GE101.out | refine below_set ?_ GE109.out) | exact HB.out));(case side3 => repeat (first | exact (Kd.R_reads' HO121.out).2.2 | (with_reducible refine Kd.C_alloc ?_ _) | (with_reducible refine Kd.C_drewN ?_ _) | (with_reducible refine Kd.C_drew ?_)));(case side4 => exact (Kd.R_reads' HO121.out).2.1);(case side5 => exact far_slice (IsS64.own_ne HI0.out HO121.out T46_));rintro e w35 ⟨rfl,hi,hb,hk⟩;refine ⟨_,rfl,?_⟩;have n0_ := aZ_ (KeepBut.blk hk (g' := gb101) (o := .cells #[.int .i64 0,.int .i64 0] 25 (0,0)) T1_ NB101_0.out T44_);have n1_ := aZ_ (KeepBut.blk hk (g' := gb109) (o := .cells #[.int .i64 t105,.int .i64 t106] 25 (0,0)) T45_ NB109_0.out T44_);have n2_ := aZ_ (Kd.R_mono (Kd.R_keep (IsS64.apart (show IsS64 w0 _ g s0_0 t111 t112 from by repeat (first | (with_reducible first | exact HI0.out | apply IsS64.alloc | apply IsS64.drewN | apply IsS64.drew | apply IsS64.set_1 | apply IsS64.set_2 | refine IsS64.far ?_ NB0_101.out _ | refine IsS64.far ?_ NB0_109.out _) | exact HI0.out)) (by (with_reducible repeat (first | apply Kd.R_alloc | apply Kd.R_drewN | apply Kd.R_drew));exact HO121.out) T46_) hk (fun _ h => h.2)) (fun _ h => h.1));have n3_ := aZ_ (KeepBut.trans T21_ hk (.inl rfl));have n4_ := aZ_ (hb);have n5_ := aZ_ (hi);clear BK101;clear BK109;clear HO121;clear HK;clear HB;clear HI0;have BK101 := n0_;have BK109 := n1_;have HO121 := n2_;have HK := n3_;have HB := n4_;have HI0 := n5_;clear n0_ n1_ n2_ n3_ n4_ n5_;(try clear hb);(try clear hb2);(try clear hk);(try clear hi);have hcz36_0 : w35.cell? ⟨gb109,0,none⟩ = some (.int .i64 t105) := (blk_cell BK109.out 0).trans rfl;have hcz36_1 : w35.cell? ⟨gb109,1,none⟩ = some (.int .i64 t106) := (blk_cell BK109.out 1).trans rfl;have hfz36_0 := blk_frozen BK109.out 0;have hfz36_1 := blk_frozen BK109.out 1;have hnb37 := NB101_0.out;have hnc37 := NB0_101.out;have hcz38_0 : w35.cell? ⟨gb101,0,none⟩ = some (.int .i64 0) := (blk_cell BK101.out 0).trans rfl;have hcz38_1 : w35.cell? ⟨gb101,1,none⟩ = some (.int .i64 0) := (blk_cell BK101.out 1).trans rfl;have hfz38_0 := blk_frozen BK101.out 0;have hfz38_1 := blk_frozen BK101.out 1))
   refine bodyPost_ret (results_cell_row rfl _ _ gb101 25 #[.int .i64 t105,.int .i64 t122] (0,0) _ rfl (by (with_reducible repeat (first | refine blk_drewN ?_ _ | refine blk_drew ?_ | refine blk_alloc ?_ _));refine blk_put (cs := #[.int .i64 t105,.int .i64 0]) ?_ 1 _ rfl;(with_reducible repeat (first | refine blk_drewN ?_ _ | refine blk_drew ?_ | refine blk_alloc ?_ _));refine blk_put (cs := #[.int .i64 0,.int .i64 0]) ?_ 0 _ rfl;(with_reducible repeat (first | refine blk_drewN ?_ _ | refine blk_drew ?_ | refine blk_alloc ?_ _));refine blk_far ?_ NB101_109.out _;(with_reducible repeat (first | refine blk_drewN ?_ _ | refine blk_drew ?_ | refine blk_alloc ?_ _));exact BK101.out) Try.underlying25 rfl T17_) rfl ?_
   exact ⟨by first | rfl | (simp [errW_none,errW_some] <;> rfl) | (simp [*,errW_none,errW_some] <;> rfl),by repeat (first | (with_reducible first | exact HI0.out | apply IsS64.alloc | apply IsS64.drewN | apply IsS64.drew | apply IsS64.set_1 | apply IsS64.set_2 | refine IsS64.far ?_ NB0_101.out _ | refine IsS64.far ?_ NB0_109.out _) | exact HI0.out),by repeat (first | (with_reducible first | exact HB.out | apply below_alloc | apply pw_below_drewN | apply below_drew1 | refine below_set ?_ (IsS64.ge HI0.out) | refine below_set ?_ GE101.out | refine below_set ?_ GE109.out) | exact HB.out),by repeat (first | (with_reducible first | exact HK.out | apply KeepBut.set_ | apply keep_drewN | apply keep_drew | apply keep_alloc | refine keep_far ?_ GW101.out _ | refine keep_far ?_ GW109.out _) | exact HK.out)⟩
  ·rw [if_neg c22] at H
   have c22b0 : (t110 == 1) = false := beq_eq_false_iff_ne.mpr c22
   have c22b1 : (t110 != 1) = true := bne_iff_ne.mpr c22
   simp only [Option.some.injEq,Prod.mk.injEq] at H
   obtain ⟨rfl,rfl,rfl,rfl⟩ := H
   go_enter Try.func32,Try.ntmps32
   go_wp2_with (first | ((with_reducible refine gate_dst (N := 2) rfl ?_);refine box_event ?hg (N := 2) ?hd (cs := #[.int .i64 0,.int .i64 0]) (t := 25) ?hr ?_;(case hd => rfl);(case hg => rfl);(case hr => first | (go_simp;done) | (go_simp;rfl));intro gb101 hg w39 hbox hb;have n0_ := aZ_ (IsS64.below T19_ hb);have n1_ := aZ_ (KeepBut.trans T15_ (KeepBut.of_below hb g none) (.inl rfl));have n2_ := aZ_ (below_step T18_ hb);have n3_ := aZ_ (hbox);have n4_ := aZ_ ((T8_ : w.heap.size ≤ gb101));have n5_ := aZ_ ((Nat.le_trans HW0.out (T8_ : w.heap.size ≤ gb101) : w0.heap.size ≤ gb101));have n6_ := aZ_ ((T13_ : g ≠ gb101));have n7_ := aZ_ ((T14_ : gb101 ≠ g));clear HI0;clear HK;clear HB;have HI0 := n0_;have HK := n1_;have HB := n2_;have BK101 := n3_;have GW101 := n4_;have GE101 := n5_;have NB0_101 := n6_;have NB101_0 := n7_;clear n0_ n1_ n2_ n3_ n4_ n5_ n6_ n7_;clear hb hbox hg) | ((with_reducible refine gate_callee (f := 31) rfl ?_);refine goesL_ (some 6) rfl rfl Try.func31 T17_ rfl #[.pointer (some ⟨g,0,none⟩),.int .i64 5] rfl T4_ ?_;(with_reducible refine (spec_l1Below.calls g s0_0 s0_1 s0_2 5 t102 t103 t104 w0 _ ?side1 ?side2 A2.out).mono ?_);(case side1 => repeat (first | (with_reducible first | exact HI0.out | apply IsS64.alloc | apply IsS64.drewN | apply IsS64.drew | apply IsS64.set_1 | apply IsS64.set_2 | refine IsS64.far ?_ NB0_101.out _) | exact HI0.out));(case side2 => repeat (first | (with_reducible first | exact HB.out | apply below_alloc | apply pw_below_drewN | apply below_drew1 | refine below_set ?_ (IsS64.ge HI0.out) | refine below_set ?_ GE101.out) | exact HB.out));rintro e w40 ⟨rfl,hi,hb,hk⟩;refine ⟨_,rfl,?_⟩;have n0_ := aZ_ (KeepBut.blk hk (g' := gb101) (o := .cells #[.int .i64 0,.int .i64 0] 25 (0,0)) T1_ NB101_0.out T44_);have n1_ := aZ_ (KeepBut.trans T6_ hk (.inl rfl));have n2_ := aZ_ (hb);have n3_ := aZ_ (hi);clear BK101;clear HK;clear HB;clear HI0;have BK101 := n0_;have HK := n1_;have HB := n2_;have HI0 := n3_;clear n0_ n1_ n2_ n3_;(try clear hb);(try clear hb2);(try clear hk);(try clear hi)) | ((with_reducible refine gate_callee (f := 57) rfl ?_);refine goesL_ (some 7) rfl rfl Try.func57 T17_ rfl #[.pointer (some ⟨g,0,none⟩),.int .i64 t102] rfl T4_ ?_;(with_reducible refine (spec_l2Draw.calls k g s0_0 t103 t104 t102 t105 t106 t107 t108 w0 _ ?side1 ?side2 A3.out).mono ?_);(case side1 => repeat (first | (with_reducible first | exact HI0.out | apply IsS64.alloc | apply IsS64.drewN | apply IsS64.drew | apply IsS64.set_1 | apply IsS64.set_2 | refine IsS64.far ?_ NB0_101.out _) | exact HI0.out));(case side2 => repeat (first | (with_reducible first | exact HB.out | apply below_alloc | apply pw_below_drewN | apply below_drew1 | refine below_set ?_ (IsS64.ge HI0.out) | refine below_set ?_ GE101.out) | exact HB.out));rintro e w41 ⟨rfl,hi,hb,hk⟩;refine ⟨_,rfl,?_⟩;have n0_ := aZ_ (KeepBut.blk hk (g' := gb101) (o := .cells #[.int .i64 0,.int .i64 0] 25 (0,0)) T1_ NB101_0.out T44_);have n1_ := aZ_ (KeepBut.trans T6_ hk (.inl rfl));have n2_ := aZ_ (hb);have n3_ := aZ_ (hi);clear BK101;clear HK;clear HB;clear HI0;have BK101 := n0_;have HK := n1_;have HB := n2_;have HI0 := n3_;clear n0_ n1_ n2_ n3_;(try clear hb);(try clear hb2);(try clear hk);(try clear hi)) | ((with_reducible refine gate_dst (N := 3) rfl ?_);refine box_event ?hg (N := 3) ?hd (cs := #[.int .i64 0,.int .i64 0]) (t := 25) ?hr ?_;(case hd => rfl);(case hg => rfl);(case hr => first | (go_simp;done) | (go_simp;rfl));intro gb109 hg w42 hbox hb;have n0_ := aZ_ (IsS64.below T10_ hb);have n1_ := aZ_ (blk_below (g := gb101) (o := .cells #[.int .i64 0,.int .i64 0] 25 (0,0)) T1_ hb);have n2_ := aZ_ (KeepBut.trans T6_ (KeepBut.of_below hb g none) (.inl rfl));have n3_ := aZ_ (below_step T11_ hb);have n4_ := aZ_ (hbox);have n5_ := aZ_ ((T25_ : w.heap.size ≤ gb109));have n6_ := aZ_ ((Nat.le_trans HW0.out (T25_ : w.heap.size ≤ gb109) : w0.heap.size ≤ gb109));have n7_ := aZ_ ((T30_ : gb101 ≠ gb109));have n8_ := aZ_ ((T31_ : gb109 ≠ gb101));have n9_ := aZ_ ((T34_ : g ≠ gb109));have n10_ := aZ_ ((T35_ : gb109 ≠ g));clear HI0;clear BK101;clear HK;clear HB;have HI0 := n0_;have BK101 := n1_;have HK := n2_;have HB := n3_;have BK109 := n4_;have GW109 := n5_;have GE109 := n6_;have NB101_109 := n7_;have NB109_101 := n8_;have NB0_109 := n9_;have NB109_0 := n10_;clear n0_ n1_ n2_ n3_ n4_ n5_ n6_ n7_ n8_ n9_ n10_;clear hb hbox hg;have hnb43 := NB109_101.out;have hnc43 := NB101_109.out;have hnb44 := NB109_0.out;have hnc44 := NB0_109.out;have hcz45_0 : w42.cell? ⟨gb109,0,none⟩ = some (.int .i64 0) := (blk_cell BK109.out 0).trans rfl;have hcz45_1 : w42.cell? ⟨gb109,1,none⟩ = some (.int .i64 0) := (blk_cell BK109.out 1).trans rfl;have hfz45_0 := blk_frozen BK109.out 0;have hfz45_1 := blk_frozen BK109.out 1) | ((with_reducible refine gate_callee (f := 31) rfl ?_);refine goesL_ (some 9) rfl rfl Try.func31 T17_ rfl #[.pointer (some ⟨g,0,none⟩),.int .i64 14] rfl T4_ ?_;(with_reducible refine (spec_l1Below.calls g s0_0 t107 t108 14 t110 t111 t112 w0 _ ?side1 ?side2 A4.out).mono ?_);(case side1 => repeat (first | (with_reducible first | exact HI0.out | apply IsS64.alloc | apply IsS64.drewN | apply IsS64.drew | apply IsS64.set_1 | apply IsS64.set_2 | refine IsS64.far ?_ NB0_101.out _ | refine IsS64.far ?_ NB0_109.out _) | exact HI0.out));(case side2 => repeat (first | (with_reducible first | exact HB.out | apply below_alloc | apply pw_below_drewN | apply below_drew1 | refine below_set ?_ (IsS64.ge HI0.out) | refine below_set ?_ GE101.out | refine below_set ?_ GE109.out) | exact HB.out));rintro e w46 ⟨rfl,hi,hb,hk⟩;refine ⟨_,rfl,?_⟩;have n0_ := aZ_ (KeepBut.blk hk (g' := gb101) (o := .cells #[.int .i64 0,.int .i64 0] 25 (0,0)) T32_ NB101_0.out T44_);have n1_ := aZ_ (KeepBut.blk hk (g' := gb109) (o := .cells #[.int .i64 t105,.int .i64 t106] 25 (0,0)) T28_ NB109_0.out T44_);have n2_ := aZ_ (KeepBut.trans T21_ hk (.inl rfl));have n3_ := aZ_ (hb);have n4_ := aZ_ (hi);clear BK101;clear BK109;clear HK;clear HB;clear HI0;have BK101 := n0_;have BK109 := n1_;have HK := n2_;have HB := n3_;have HI0 := n4_;clear n0_ n1_ n2_ n3_ n4_;(try clear hb);(try clear hb2);(try clear hk);(try clear hi);have hcz47_0 : w46.cell? ⟨gb109,0,none⟩ = some (.int .i64 t105) := (blk_cell BK109.out 0).trans rfl;have hcz47_1 : w46.cell? ⟨gb109,1,none⟩ = some (.int .i64 t106) := (blk_cell BK109.out 1).trans rfl;have hfz47_0 := blk_frozen BK109.out 0;have hfz47_1 := blk_frozen BK109.out 1;have hnb48 := NB101_0.out;have hnc48 := NB0_101.out;have hcz49_0 : w46.cell? ⟨gb101,0,none⟩ = some (.int .i64 0) := (blk_cell BK101.out 0).trans rfl;have hcz49_1 : w46.cell? ⟨gb101,1,none⟩ = some (.int .i64 0) := (blk_cell BK101.out 1).trans rfl;have hfz49_0 := blk_frozen BK101.out 0;have hfz49_1 := blk_frozen BK101.out 1))
   refine bodyPost_ret (results_cell_row rfl _ _ gb101 25 #[.int .i64 t105,.int .i64 t106] (0,0) _ rfl T29_ Try.underlying25 rfl T17_) rfl ?_
   exact ⟨by first | rfl | (simp [errW_none,errW_some] <;> rfl) | (simp [*,errW_none,errW_some] <;> rfl),by repeat (first | (with_reducible first | exact HI0.out | apply IsS64.alloc | apply IsS64.drewN | apply IsS64.drew | apply IsS64.set_1 | apply IsS64.set_2 | refine IsS64.far ?_ NB0_101.out _ | refine IsS64.far ?_ NB0_109.out _) | exact HI0.out),by repeat (first | (with_reducible first | exact HB.out | apply below_alloc | apply pw_below_drewN | apply below_drew1 | refine below_set ?_ (IsS64.ge HI0.out) | refine below_set ?_ GE101.out | refine below_set ?_ GE109.out) | exact HB.out),by repeat (first | (with_reducible first | exact HK.out | apply KeepBut.set_ | apply keep_drewN | apply keep_drew | apply keep_alloc | refine keep_far ?_ GW101.out _ | refine keep_far ?_ GW109.out _) | exact HK.out)⟩
def spec_DrawIsAffine.f (k : Nat) (l0 : List Int) : Option (Int × Int) := (spec_l1New.f k l0).bind fun bt102 => ((spec_l1Once.f bt102.1 bt102.2.1 bt102.2.2 2).bind fun bt106 => (if bt106.1 = true then ((spec_l1Below.f bt102.1 bt106.2.1 bt106.2.2 5).bind fun bt109 => (if 0 ≤ bt109.1 then ((spec_l1Below.f bt102.1 bt109.2.1 bt109.2.2 (shl .i64 1 bt109.1)).bind fun bt112 => ((spec_l1Below.f bt102.1 bt112.2.1 bt112.2.2 2).bind fun bt115 => ((spec_AffineTable.f k bt109.1 bt112.1 bt115.1).bind fun bt118 => (some (bt118.1,bt118.2.1))))) else (none))) else ((spec_l2Any.f k bt102.1 bt106.2.1 bt106.2.2).bind fun bt122 => (some (bt122.1,bt122.2.1)))))
set_option maxHeartbeats 8000000 in
set_option maxRecDepth 100000 in
theorem spec_DrawIsAffine.calls (k : Nat) (A0 : Option Addr) (c0 : Nat) (l0 : List Int) (r1 : Int) (r2 : Int) (w : World) (hr0 : Kd.C (Kd.int .u8) w A0 l0.length l0) (hc0 : l0.length ≤ c0) (h : spec_DrawIsAffine.f k l0 = some (r1,r2)) :
  Calls Try.prog 5 #[.slice A0 l0.length c0] w fun e w' => e = .returned (.agg #[.int .i64 r1,.int .i64 r2]) ∧ Below w.heap.size w w' := by
 have hu25 := Try.underlying25
 have HR0 := aZ_ hr0
 have HC0 := aZ_ hc0
 clear hr0 hc0
 have HB := aZ_ (Below.refl w.heap.size w)
 have H : ((spec_l1New.f k l0).bind fun bt102 => ((spec_l1Once.f bt102.1 bt102.2.1 bt102.2.2 2).bind fun bt106 => (if bt106.1 = true then ((spec_l1Below.f bt102.1 bt106.2.1 bt106.2.2 5).bind fun bt109 => (if 0 ≤ bt109.1 then ((spec_l1Below.f bt102.1 bt109.2.1 bt109.2.2 (shl .i64 1 bt109.1)).bind fun bt112 => ((spec_l1Below.f bt102.1 bt112.2.1 bt112.2.2 2).bind fun bt115 => ((spec_AffineTable.f k bt109.1 bt112.1 bt115.1).bind fun bt118 => (some (bt118.1,bt118.2.1))))) else (none))) else ((spec_l2Any.f k bt102.1 bt106.2.1 bt106.2.2).bind fun bt122 => (some (bt122.1,bt122.2.1)))))) = some (r1,r2) := h
 clear h
 replace H := Option.bind_eq_some_iff.mp H
 obtain ⟨⟨t102,t103,t104⟩,A20,H⟩ := H
 replace H : ((spec_l1Once.f t102 t103 t104 2).bind fun bt106 => (if bt106.1 = true then ((spec_l1Below.f t102 bt106.2.1 bt106.2.2 5).bind fun bt109 => (if 0 ≤ bt109.1 then ((spec_l1Below.f t102 bt109.2.1 bt109.2.2 (shl .i64 1 bt109.1)).bind fun bt112 => ((spec_l1Below.f t102 bt112.2.1 bt112.2.2 2).bind fun bt115 => ((spec_AffineTable.f k bt109.1 bt112.1 bt115.1).bind fun bt118 => (some (bt118.1,bt118.2.1))))) else (none))) else ((spec_l2Any.f k t102 bt106.2.1 bt106.2.2).bind fun bt122 => (some (bt122.1,bt122.2.1))))) = some (r1,r2) := H
 have A2 := aZ_ A20
 clear A20
 replace H := Option.bind_eq_some_iff.mp H
 obtain ⟨⟨t106,t107,t108⟩,A30,H⟩ := H
 replace H : (if t106 = true then ((spec_l1Below.f t102 t107 t108 5).bind fun bt109 => (if 0 ≤ bt109.1 then ((spec_l1Below.f t102 bt109.2.1 bt109.2.2 (shl .i64 1 bt109.1)).bind fun bt112 => ((spec_l1Below.f t102 bt112.2.1 bt112.2.2 2).bind fun bt115 => ((spec_AffineTable.f k bt109.1 bt112.1 bt115.1).bind fun bt118 => (some (bt118.1,bt118.2.1))))) else (none))) else ((spec_l2Any.f k t102 t107 t108).bind fun bt122 => (some (bt122.1,bt122.2.1)))) = some (r1,r2) := H
 have A3 := aZ_ A30
 clear A30
 by_cases c4 : t106 = true
 ·subst c4
  have H1 : ((spec_l1Below.f t102 t107 t108 5).bind fun bt109 => (if 0 ≤ bt109.1 then ((spec_l1Below.f t102 bt109.2.1 bt109.2.2 (shl .i64 1 bt109.1)).bind fun bt112 => ((spec_l1Below.f t102 bt112.2.1 bt112.2.2 2).bind fun bt115 => ((spec_AffineTable.f k bt109.1 bt112.1 bt115.1).bind fun bt118 => (some (bt118.1,bt118.2.1))))) else (none))) = some (r1,r2) := by rw [if_pos rfl] at H;exact H
  clear H
  have H := H1
  clear H1
  replace H := Option.bind_eq_some_iff.mp H
  obtain ⟨⟨t109,t110,t111⟩,A50,H⟩ := H
  replace H : (if 0 ≤ t109 then ((spec_l1Below.f t102 t110 t111 (shl .i64 1 t109)).bind fun bt112 => ((spec_l1Below.f t102 bt112.2.1 bt112.2.2 2).bind fun bt115 => ((spec_AffineTable.f k t109 bt112.1 bt115.1).bind fun bt118 => (some (bt118.1,bt118.2.1))))) else (none)) = some (r1,r2) := H
  have A5 := aZ_ A50
  clear A50
  by_cases c6 : 0 ≤ t109
  ·rw [if_pos c6] at H
   have c6b0 := eq_true c6
   have c6b1 : decide (0 ≤ t109) = true := decide_eq_true c6
   clear c6
   obtain ⟨ji7,hji7⟩ : ∃ j_ : Int,(shl .i64 1 t109) = j_ := ⟨_,rfl⟩
   replace H : ((spec_l1Below.f t102 t110 t111 (ji7)).bind fun bt112 => ((spec_l1Below.f t102 bt112.2.1 bt112.2.2 2).bind fun bt115 => ((spec_AffineTable.f k t109 bt112.1 bt115.1).bind fun bt118 => (some (bt118.1,bt118.2.1))))) = some (r1,r2) := by first | (rw [hji7] at H;exact H) | (simp only [hji7] at H ⊢;exact H)
   (try rw [hji7] at A2)
   (try rw [hji7] at A3)
   (try rw [hji7] at A5)
   have hji7_ : (IntKind.i64.wrap (1 * 2 ^ min t109.toNat 64)) = ji7 := hji7
   have hji7z : t109 ≤ 64 → (IntKind.i64.wrap (1 * 2 ^ t109.toNat)) = ji7 := shl_small hji7
   have hji7u : (IntKind.i64.wrap (2 ^ min t109.toNat 64)) = ji7 := by have h_ := hji7_;rw [Int.one_mul] at h_;exact h_
   have hji7v : t109 ≤ 64 → (IntKind.i64.wrap (2 ^ t109.toNat)) = ji7 := fun hle_ => by have h_ := hji7z hle_;rw [Int.one_mul] at h_;exact h_
   have hji7y : (wrap64 (1 * 2 ^ min t109.toNat 64)) = ji7 := (i64_w _).symm.trans hji7_
   have hji7x : t109 ≤ 64 → (wrap64 (1 * 2 ^ t109.toNat)) = ji7 := fun h_ => (i64_w _).symm.trans (hji7z h_)
   replace H := Option.bind_eq_some_iff.mp H
   obtain ⟨⟨t112,t113,t114⟩,A80,H⟩ := H
   replace H : ((spec_l1Below.f t102 t113 t114 2).bind fun bt115 => ((spec_AffineTable.f k t109 t112 bt115.1).bind fun bt118 => (some (bt118.1,bt118.2.1)))) = some (r1,r2) := H
   have A8 := aZ_ A80
   clear A80
   replace H := Option.bind_eq_some_iff.mp H
   obtain ⟨⟨t115,t116,t117⟩,A90,H⟩ := H
   replace H : ((spec_AffineTable.f k t109 t112 t115).bind fun bt118 => (some (bt118.1,bt118.2.1))) = some (r1,r2) := H
   have A9 := aZ_ A90
   clear A90
   replace H := Option.bind_eq_some_iff.mp H
   obtain ⟨⟨t118,t119,t120⟩,A100,H⟩ := H
   replace H : (some (t118,t119)) = some (r1,r2) := H
   have A10 := aZ_ A100
   clear A100
   simp only [Option.some.injEq,Prod.mk.injEq] at H
   obtain ⟨rfl,rfl⟩ := H
   go_enter Try.func5,Try.ntmps5
   go_wp2_with (first | ((with_reducible refine gate_dst (N := 2) rfl ?_);refine box_event ?hg (N := 2) ?hd (cs := #[.int .i64 0,.int .i64 0]) (t := 25) ?hr ?_;(case hd => rfl);(case hg => rfl);(case hr => first | (go_simp;done) | (go_simp;rfl));intro gb101 hg w11 hbox hb;have n0_ := aZ_ (below_step T5_ hb);have n1_ := aZ_ (hbox);have n2_ := aZ_ ((T2_ : w.heap.size ≤ gb101));have n3_ := aZ_ ((T2_ : w.heap.size ≤ gb101));clear HB;have HB := n0_;have BK101 := n1_;have GW101 := n2_;have GE101 := n3_;clear n0_ n1_ n2_ n3_;clear hb hbox hg) | ((with_reducible refine gate_callee (f := 29) rfl ?_);refine goesL_ (some 8) rfl rfl Try.func29 T17_ rfl #[.slice A0 l0.length c0] rfl T4_ ?_;(with_reducible refine (spec_l1New.calls k _ _ l0 t102 t103 t104 w _ ?side1 ?side2 ?side3 A2.out).mono ?_);(case side1 => repeat (first | (with_reducible first | exact HB.out | apply below_alloc | apply pw_below_drewN | apply below_drew1 | refine below_set ?_ GE101.out) | exact HB.out));(case side2 => exact HR0.out);(case side3 => exact HC0.out);rintro e w12 ⟨g105,rfl,hi,hb,hb2⟩;refine ⟨_,rfl,?_⟩;have n0_ := aZ_ (blk_below (g := gb101) (o := .cells #[.int .i64 0,.int .i64 0] 25 (0,0)) T1_ hb2);have n1_ := aZ_ (hb);have n2_ := aZ_ (hi);have n3_ := aZ_ (IsS64.ne_blk hi (blk_below (g := gb101) (o := .cells #[.int .i64 0,.int .i64 0] 25 (0,0)) T1_ hb2) T46_);have n4_ := aZ_ (Ne.symm (IsS64.ne_blk hi (blk_below (g := gb101) (o := .cells #[.int .i64 0,.int .i64 0] 25 (0,0)) T1_ hb2) T46_));clear BK101;clear HB;have BK101 := n0_;have HB := n1_;have HI105 := n2_;have NB105_101 := n3_;have NB101_105 := n4_;clear n0_ n1_ n2_ n3_ n4_;(try clear hb);(try clear hb2);(try clear hk);(try clear hi)) | ((with_reducible refine gate_callee (f := 30) rfl ?_);refine goesL_ (some 10) rfl rfl Try.func30 T17_ rfl #[.pointer (some ⟨g105,0,none⟩),.int .i64 2] rfl T4_ ?_;(with_reducible refine (spec_l1Once.calls g105 t102 t103 t104 2 true t107 t108 w _ ?side1 ?side2 A3.out).mono ?_);(case side1 => repeat (first | (with_reducible first | exact HI105.out | apply IsS64.alloc | apply IsS64.drewN | apply IsS64.drew | apply IsS64.set_1 | apply IsS64.set_2 | refine IsS64.far ?_ NB105_101.out _) | exact HI105.out));(case side2 => repeat (first | (with_reducible first | exact HB.out | apply below_alloc | apply pw_below_drewN | apply below_drew1 | refine below_set ?_ (IsS64.ge HI105.out) | refine below_set ?_ GE101.out) | exact HB.out));rintro e w13 ⟨rfl,hi,hb,hk⟩;refine ⟨_,rfl,?_⟩;have n0_ := aZ_ (KeepBut.blk hk (g' := gb101) (o := .cells #[.int .i64 0,.int .i64 0] 25 (0,0)) T1_ NB101_105.out T44_);have n1_ := aZ_ (hb);have n2_ := aZ_ (hi);clear BK101;clear HB;clear HI105;have BK101 := n0_;have HB := n1_;have HI105 := n2_;clear n0_ n1_ n2_;(try clear hb);(try clear hb2);(try clear hk);(try clear hi)) | ((with_reducible refine gate_callee (f := 31) rfl ?_);refine goesL_ (some 12) rfl rfl Try.func31 T17_ rfl #[.pointer (some ⟨g105,0,none⟩),.int .i64 5] rfl T4_ ?_;(with_reducible refine (spec_l1Below.calls g105 t102 t107 t108 5 t109 t110 t111 w _ ?side1 ?side2 A5.out).mono ?_);(case side1 => repeat (first | (with_reducible first | exact HI105.out | apply IsS64.alloc | apply IsS64.drewN | apply IsS64.drew | apply IsS64.set_1 | apply IsS64.set_2 | refine IsS64.far ?_ NB105_101.out _) | exact HI105.out));(case side2 => repeat (first | (with_reducible first | exact HB.out | apply below_alloc | apply pw_below_drewN | apply below_drew1 | refine below_set ?_ (IsS64.ge HI105.out) | refine below_set ?_ GE101.out) | exact HB.out));rintro e w14 ⟨rfl,hi,hb,hk⟩;refine ⟨_,rfl,?_⟩;have n0_ := aZ_ (KeepBut.blk hk (g' := gb101) (o := .cells #[.int .i64 0,.int .i64 0] 25 (0,0)) T1_ NB101_105.out T44_);have n1_ := aZ_ (hb);have n2_ := aZ_ (hi);clear BK101;clear HB;clear HI105;have BK101 := n0_;have HB := n1_;have HI105 := n2_;clear n0_ n1_ n2_;(try clear hb);(try clear hb2);(try clear hk);(try clear hi)) | ((with_reducible refine gate_callee (f := 31) rfl ?_);refine goesL_ (some 18) rfl rfl Try.func31 T17_ rfl #[.pointer (some ⟨g105,0,none⟩),.int .i64 ji7] rfl (by (try simp only [List.map_toArray,List.map_cons,List.map_nil]);first | done | (simp only [hji7];rfl) | rfl | (simp only [List.length_drop,List.length_take];rfl)) ?_;(with_reducible refine (spec_l1Below.calls g105 t102 t110 t111 ji7 t112 t113 t114 w _ ?side1 ?side2 A8.out).mono ?_);(case side1 => repeat (first | (with_reducible first | exact HI105.out | apply IsS64.alloc | apply IsS64.drewN | apply IsS64.drew | apply IsS64.set_1 | apply IsS64.set_2 | refine IsS64.far ?_ NB105_101.out _) | exact HI105.out));(case side2 => repeat (first | (with_reducible first | exact HB.out | apply below_alloc | apply pw_below_drewN | apply below_drew1 | refine below_set ?_ (IsS64.ge HI105.out) | refine below_set ?_ GE101.out) | exact HB.out));rintro e w15 ⟨rfl,hi,hb,hk⟩;refine ⟨_,rfl,?_⟩;have n0_ := aZ_ (KeepBut.blk hk (g' := gb101) (o := .cells #[.int .i64 0,.int .i64 0] 25 (0,0)) T1_ NB101_105.out T44_);have n1_ := aZ_ (hb);have n2_ := aZ_ (hi);clear BK101;clear HB;clear HI105;have BK101 := n0_;have HB := n1_;have HI105 := n2_;clear n0_ n1_ n2_;(try clear hb);(try clear hb2);(try clear hk);(try clear hi)) | ((with_reducible refine gate_callee (f := 31) rfl ?_);refine goesL_ (some 20) rfl rfl Try.func31 T17_ rfl #[.pointer (some ⟨g105,0,none⟩),.int .i64 2] rfl T4_ ?_;(with_reducible refine (spec_l1Below.calls g105 t102 t113 t114 2 t115 t116 t117 w _ ?side1 ?side2 A9.out).mono ?_);(case side1 => repeat (first | (with_reducible first | exact HI105.out | apply IsS64.alloc | apply IsS64.drewN | apply IsS64.drew | apply IsS64.set_1 | apply IsS64.set_2 | refine IsS64.far ?_ NB105_101.out _) | exact HI105.out));(case side2 => repeat (first | (with_reducible first | exact HB.out | apply below_alloc | apply pw_below_drewN | apply below_drew1 | refine below_set ?_ (IsS64.ge HI105.out) | refine below_set ?_ GE101.out) | exact HB.out));rintro e w16 ⟨rfl,hi,hb,hk⟩;refine ⟨_,rfl,?_⟩;have n0_ := aZ_ (KeepBut.blk hk (g' := gb101) (o := .cells #[.int .i64 0,.int .i64 0] 25 (0,0)) T1_ NB101_105.out T44_);have n1_ := aZ_ (hb);have n2_ := aZ_ (hi);clear BK101;clear HB;clear HI105;have BK101 := n0_;have HB := n1_;have HI105 := n2_;clear n0_ n1_ n2_;(try clear hb);(try clear hb2);(try clear hk);(try clear hi)) | ((with_reducible refine gate_callee (f := 23) rfl ?_);refine goesL_ (some 21) rfl rfl Try.func23 T17_ rfl #[.int .i64 t109,.int .i64 t112,.int .i64 t115] rfl T4_ ?_;(with_reducible refine (spec_AffineTable.calls k t109 t112 t115 t118 t119 t120 _ A10.out).mono ?_);rintro e w17 ⟨rfl,hb⟩;refine ⟨_,rfl,?_⟩;have n0_ := aZ_ (blk_below (g := gb101) (o := .cells #[.int .i64 0,.int .i64 0] 25 (0,0)) T1_ hb);have n1_ := aZ_ (IsS64.below T39_ hb);have n2_ := aZ_ (below_step T40_ hb);clear BK101;clear HI105;clear HB;have BK101 := n0_;have HI105 := n1_;have HB := n2_;clear n0_ n1_ n2_;(try clear hb);(try clear hb2);(try clear hk);(try clear hi)) | ((with_reducible refine gate_dst (N := 5) rfl ?_);refine box_event ?hg (N := 5) ?hd (cs := #[.int .i64 0,.int .i64 0]) (t := 25) ?hr ?_;(case hd => rfl);(case hg => rfl);(case hr => first | (go_simp;done) | (go_simp;rfl));intro gb121 hg w18 hbox hb;have n0_ := aZ_ (blk_below (g := gb101) (o := .cells #[.int .i64 0,.int .i64 0] 25 (0,0)) T1_ hb);have n1_ := aZ_ (IsS64.below T39_ hb);have n2_ := aZ_ (below_step T40_ hb);have n3_ := aZ_ (hbox);have n4_ := aZ_ ((T33_ : w.heap.size ≤ gb121));have n5_ := aZ_ ((T33_ : w.heap.size ≤ gb121));have n6_ := aZ_ ((T30_ : gb101 ≠ gb121));have n7_ := aZ_ ((T31_ : gb121 ≠ gb101));have n8_ := aZ_ ((by rw [hg];exact Nat.ne_of_lt (IsS64.lt (show IsS64 w _ g105 t102 t116 t117 from by repeat (first | (with_reducible first | exact HI105.out | apply IsS64.alloc | apply IsS64.drewN | apply IsS64.drew | apply IsS64.set_1 | apply IsS64.set_2 | refine IsS64.far ?_ NB105_101.out _) | exact HI105.out))) : g105 ≠ gb121));have n9_ := aZ_ ((by rw [hg];exact Nat.ne_of_gt (IsS64.lt (show IsS64 w _ g105 t102 t116 t117 from by repeat (first | (with_reducible first | exact HI105.out | apply IsS64.alloc | apply IsS64.drewN | apply IsS64.drew | apply IsS64.set_1 | apply IsS64.set_2 | refine IsS64.far ?_ NB105_101.out _) | exact HI105.out))) : gb121 ≠ g105));clear BK101;clear HI105;clear HB;have BK101 := n0_;have HI105 := n1_;have HB := n2_;have BK121 := n3_;have GW121 := n4_;have GE121 := n5_;have NB101_121 := n6_;have NB121_101 := n7_;have NB105_121 := n8_;have NB121_105 := n9_;clear n0_ n1_ n2_ n3_ n4_ n5_ n6_ n7_ n8_ n9_;clear hb hbox hg;have hnb19 := NB121_101.out;have hnc19 := NB101_121.out;have hnb20 := NB121_105.out;have hnc20 := NB105_121.out;have hcz21_0 : w18.cell? ⟨gb121,0,none⟩ = some (.int .i64 0) := (blk_cell BK121.out 0).trans rfl;have hcz21_1 : w18.cell? ⟨gb121,1,none⟩ = some (.int .i64 0) := (blk_cell BK121.out 1).trans rfl;have hfz21_0 := blk_frozen BK121.out 0;have hfz21_1 := blk_frozen BK121.out 1;have hnb22 := NB101_105.out;have hnc22 := NB105_101.out;have hcz23_0 : w18.cell? ⟨gb101,0,none⟩ = some (.int .i64 0) := (blk_cell BK101.out 0).trans rfl;have hcz23_1 : w18.cell? ⟨gb101,1,none⟩ = some (.int .i64 0) := (blk_cell BK101.out 1).trans rfl;have hfz23_0 := blk_frozen BK101.out 0;have hfz23_1 := blk_frozen BK101.out 1))
   refine bodyPost_ret (results_cell_row rfl _ _ gb101 25 #[.int .i64 t118,.int .i64 t119] (0,0) _ rfl (by (with_reducible repeat (first | refine blk_drewN ?_ _ | refine blk_drew ?_ | refine blk_alloc ?_ _));refine blk_put (cs := #[.int .i64 t118,.int .i64 0]) ?_ 1 _ rfl;(with_reducible repeat (first | refine blk_drewN ?_ _ | refine blk_drew ?_ | refine blk_alloc ?_ _));refine blk_put (cs := #[.int .i64 0,.int .i64 0]) ?_ 0 _ rfl;(with_reducible repeat (first | refine blk_drewN ?_ _ | refine blk_drew ?_ | refine blk_alloc ?_ _));refine blk_far ?_ NB101_121.out _;(with_reducible repeat (first | refine blk_drewN ?_ _ | refine blk_drew ?_ | refine blk_alloc ?_ _));refine blk_far ?_ NB101_121.out _;(with_reducible repeat (first | refine blk_drewN ?_ _ | refine blk_drew ?_ | refine blk_alloc ?_ _));exact BK101.out) Try.underlying25 rfl T17_) rfl ?_
   exact ⟨by first | rfl | (simp [errW_none,errW_some] <;> rfl) | (simp only [← hji7];first | rfl | (simp [errW_none,errW_some] <;> rfl)) | (simp [*,errW_none,errW_some] <;> rfl),by repeat (first | (with_reducible first | exact HB.out | apply below_alloc | apply pw_below_drewN | apply below_drew1 | refine below_set ?_ (IsS64.ge HI105.out) | refine below_set ?_ GE101.out | refine below_set ?_ GE121.out) | exact HB.out)⟩
  ·rw [if_neg c6] at H
   exact absurd H T44_
 ·replace c4 := Bool.eq_false_iff.mpr c4
  subst c4
  have H1 : ((spec_l2Any.f k t102 t107 t108).bind fun bt122 => (some (bt122.1,bt122.2.1))) = some (r1,r2) := by rw [if_neg (show ¬ (false = true) by decide)] at H;exact H
  clear H
  have H := H1
  clear H1
  replace H := Option.bind_eq_some_iff.mp H
  obtain ⟨⟨t122,t123,t124,t125⟩,A240,H⟩ := H
  replace H : (some (t122,t123)) = some (r1,r2) := H
  have A24 := aZ_ A240
  clear A240
  simp only [Option.some.injEq,Prod.mk.injEq] at H
  obtain ⟨rfl,rfl⟩ := H
  go_enter Try.func5,Try.ntmps5
  go_wp2_with (first | ((with_reducible refine gate_dst (N := 2) rfl ?_);refine box_event ?hg (N := 2) ?hd (cs := #[.int .i64 0,.int .i64 0]) (t := 25) ?hr ?_;(case hd => rfl);(case hg => rfl);(case hr => first | (go_simp;done) | (go_simp;rfl));intro gb101 hg w25 hbox hb;have n0_ := aZ_ (below_step T5_ hb);have n1_ := aZ_ (hbox);have n2_ := aZ_ ((T2_ : w.heap.size ≤ gb101));have n3_ := aZ_ ((T2_ : w.heap.size ≤ gb101));clear HB;have HB := n0_;have BK101 := n1_;have GW101 := n2_;have GE101 := n3_;clear n0_ n1_ n2_ n3_;clear hb hbox hg) | ((with_reducible refine gate_callee (f := 29) rfl ?_);refine goesL_ (some 8) rfl rfl Try.func29 T17_ rfl #[.slice A0 l0.length c0] rfl T4_ ?_;(with_reducible refine (spec_l1New.calls k _ _ l0 t102 t103 t104 w _ ?side1 ?side2 ?side3 A2.out).mono ?_);(case side1 => repeat (first | (with_reducible first | exact HB.out | apply below_alloc | apply pw_below_drewN | apply below_drew1 | refine below_set ?_ GE101.out) | exact HB.out));(case side2 => exact HR0.out);(case side3 => exact HC0.out);rintro e w26 ⟨g105,rfl,hi,hb,hb2⟩;refine ⟨_,rfl,?_⟩;have n0_ := aZ_ (blk_below (g := gb101) (o := .cells #[.int .i64 0,.int .i64 0] 25 (0,0)) T1_ hb2);have n1_ := aZ_ (hb);have n2_ := aZ_ (hi);have n3_ := aZ_ (IsS64.ne_blk hi (blk_below (g := gb101) (o := .cells #[.int .i64 0,.int .i64 0] 25 (0,0)) T1_ hb2) T46_);have n4_ := aZ_ (Ne.symm (IsS64.ne_blk hi (blk_below (g := gb101) (o := .cells #[.int .i64 0,.int .i64 0] 25 (0,0)) T1_ hb2) T46_));clear BK101;clear HB;have BK101 := n0_;have HB := n1_;have HI105 := n2_;have NB105_101 := n3_;have NB101_105 := n4_;clear n0_ n1_ n2_ n3_ n4_;(try clear hb);(try clear hb2);(try clear hk);(try clear hi)) | ((with_reducible refine gate_callee (f := 30) rfl ?_);refine goesL_ (some 10) rfl rfl Try.func30 T17_ rfl #[.pointer (some ⟨g105,0,none⟩),.int .i64 2] rfl T4_ ?_;(with_reducible refine (spec_l1Once.calls g105 t102 t103 t104 2 false t107 t108 w _ ?side1 ?side2 A3.out).mono ?_);(case side1 => repeat (first | (with_reducible first | exact HI105.out | apply IsS64.alloc | apply IsS64.drewN | apply IsS64.drew | apply IsS64.set_1 | apply IsS64.set_2 | refine IsS64.far ?_ NB105_101.out _) | exact HI105.out));(case side2 => repeat (first | (with_reducible first | exact HB.out | apply below_alloc | apply pw_below_drewN | apply below_drew1 | refine below_set ?_ (IsS64.ge HI105.out) | refine below_set ?_ GE101.out) | exact HB.out));rintro e w27 ⟨rfl,hi,hb,hk⟩;refine ⟨_,rfl,?_⟩;have n0_ := aZ_ (KeepBut.blk hk (g' := gb101) (o := .cells #[.int .i64 0,.int .i64 0] 25 (0,0)) T1_ NB101_105.out T44_);have n1_ := aZ_ (hb);have n2_ := aZ_ (hi);clear BK101;clear HB;clear HI105;have BK101 := n0_;have HB := n1_;have HI105 := n2_;clear n0_ n1_ n2_;(try clear hb);(try clear hb2);(try clear hk);(try clear hi)) | ((with_reducible refine gate_callee (f := 32) rfl ?_);refine goesL_ (some 26) rfl rfl Try.func32 T17_ rfl #[.pointer (some ⟨g105,0,none⟩)] rfl T4_ ?_;(with_reducible refine (spec_l2Any.calls k g105 t102 t107 t108 t122 t123 t124 t125 w _ ?side1 ?side2 A24.out).mono ?_);(case side1 => repeat (first | (with_reducible first | exact HI105.out | apply IsS64.alloc | apply IsS64.drewN | apply IsS64.drew | apply IsS64.set_1 | apply IsS64.set_2 | refine IsS64.far ?_ NB105_101.out _) | exact HI105.out));(case side2 => repeat (first | (with_reducible first | exact HB.out | apply below_alloc | apply pw_below_drewN | apply below_drew1 | refine below_set ?_ (IsS64.ge HI105.out) | refine below_set ?_ GE101.out) | exact HB.out));rintro e w28 ⟨rfl,hi,hb,hk⟩;refine ⟨_,rfl,?_⟩;have n0_ := aZ_ (KeepBut.blk hk (g' := gb101) (o := .cells #[.int .i64 0,.int .i64 0] 25 (0,0)) T1_ NB101_105.out T44_);have n1_ := aZ_ (hb);have n2_ := aZ_ (hi);clear BK101;clear HB;clear HI105;have BK101 := n0_;have HB := n1_;have HI105 := n2_;clear n0_ n1_ n2_;(try clear hb);(try clear hb2);(try clear hk);(try clear hi);have hnb29 := NB101_105.out;have hnc29 := NB105_101.out;have hcz30_0 : w28.cell? ⟨gb101,0,none⟩ = some (.int .i64 0) := (blk_cell BK101.out 0).trans rfl;have hcz30_1 : w28.cell? ⟨gb101,1,none⟩ = some (.int .i64 0) := (blk_cell BK101.out 1).trans rfl;have hfz30_0 := blk_frozen BK101.out 0;have hfz30_1 := blk_frozen BK101.out 1))
  refine bodyPost_ret (results_cell_row rfl _ _ gb101 25 #[.int .i64 t122,.int .i64 t123] (0,0) _ rfl (by (with_reducible repeat (first | refine blk_drewN ?_ _ | refine blk_drew ?_ | refine blk_alloc ?_ _));refine blk_put (cs := #[.int .i64 t122,.int .i64 0]) ?_ 1 _ rfl;(with_reducible repeat (first | refine blk_drewN ?_ _ | refine blk_drew ?_ | refine blk_alloc ?_ _));refine blk_put (cs := #[.int .i64 0,.int .i64 0]) ?_ 0 _ rfl;(with_reducible repeat (first | refine blk_drewN ?_ _ | refine blk_drew ?_ | refine blk_alloc ?_ _));exact BK101.out) Try.underlying25 rfl T17_) rfl ?_
  exact ⟨by first | rfl | (simp [errW_none,errW_some] <;> rfl) | (simp [*,errW_none,errW_some] <;> rfl),by repeat (first | (with_reducible first | exact HB.out | apply below_alloc | apply pw_below_drewN | apply below_drew1 | refine below_set ?_ (IsS64.ge HI105.out) | refine below_set ?_ GE101.out) | exact HB.out)⟩
def impl_affine.p (u b x : Nat) : Bool := (impl_ones.f ((u &&& x : Nat) : Int)).any fun (v : Int) => (v + (b : Int)) % 2 == 1
def impl_affine.okx (u x : Nat) : Bool := (impl_ones.f ((u &&& x : Nat) : Int)).any fun (v : Int) => decide (0 ≤ v ∧ v ≤ 64)
theorem impl_affine.okx_of {u b x : Nat} (h : impl_affine.okx u x = true) : ∃ v,impl_ones.f ((u &&& x : Nat) : Int) = some v ∧ 0 ≤ v ∧ v ≤ 64 ∧ impl_affine.p u b x = ((v + b) % 2 == 1) := by
 unfold impl_affine.okx at h
 unfold impl_affine.p
 generalize impl_ones.f ((u &&& x : Nat) : Int) = o at h ⊢
 cases o with
 | none => cases h
 | some v => have h := of_decide_eq_true h;exact ⟨v,rfl,h.1,h.2,rfl⟩
set_option maxHeartbeats 400000 in
theorem impl_affine_1.any (u b x : Nat) (hu : u < 32) (hb : b ≤ 1) (hx : x < 32) (ho : impl_affine.okx u x = true) (g1 g2 : Nat) (W : World) (h1 : W.heap[g1]? = some (.cells #[.int .i64 u] 3 (0,0))) (h2 : W.heap[g2]? = some (.cells #[.int .i64 b] 3 (0,0))) :
  Gives Try.prog 62 #[.pointer (some ⟨g1,0,none⟩),.pointer (some ⟨g2,0,none⟩)] #[.int .i64 x] (.bool (impl_affine.p u b x)) W := by
 show Calls Try.prog 62 #[.int .i64 x,.pointer (some ⟨g1,0,none⟩),.pointer (some ⟨g2,0,none⟩)] W _
 have hc0 : W.cell? ⟨g1,0,none⟩ = some (.int .i64 u) := (blk_cell h1 0).trans rfl
 have hd0 : W.cell? ⟨g2,0,none⟩ = some (.int .i64 b) := (blk_cell h2 0).trans rfl
 obtain ⟨v,hv,h0,h64,hE⟩ := impl_affine.okx_of (b := b) ho
 have e1 : Go.bits .and .i64 (u : Int) (x : Int) = ((u &&& x : Nat) : Int) := B.and_cast (by omega) (by omega)
 generalize u &&& x = y at e1 hv
 have HV := aZ_ hv
 have HE := aZ_ hE
 have b1 : (b : Int) ≤ 1 := by omega
 clear hv hE ho h1 h2 hu hx hb
 go_enter Try.func62,Try.ntmps62
 go_wp2
 go_quiet ((go_at_call 41;(with_reducible refine (impl_ones.calls y v _ HV.out).mono ?_);rintro e w' ⟨rfl,⟨nd,rfl⟩⟩;(try first | exact ⟨rfl,_,World.drewN_drewN _ _ _⟩ | exact ⟨rfl,_,Eq.trans (World.drewN_drewN _ _ _) (congrArg (World.drewN _) (Nat.add_assoc _ _ _))⟩)))
 go_wp2
 go_ret
 exact ⟨by rw [HE.out];rfl,by repeat (first | (with_reducible first | exact Below.refl _ _ | apply below_alloc | apply pw_below_drewN | apply below_drew1) | exact Below.refl _ _)⟩
set_option maxHeartbeats 400000 in
set_option maxRecDepth 100000 in
theorem impl_affine.any (n u b : Nat) (hn : n ≤ 5) (hu0 : u < 32) (hb0 : b ≤ 1) (ho : ∀ x,x < 2 ^ n → impl_affine.okx u x = true) (w : World) :
  Calls Try.prog 42 #[.int .i64 n,.int .i64 u,.int .i64 b] w fun e w' => e = .returned (.agg #[.int .i64 n,.int .i64 (B.tabN (impl_affine.p u b) (2 ^ n) : Nat)]) ∧ Below w.heap.size w w' := by
 have hu := Try.underlying25
 have HN := aZ_ hn
 have HU0 := aZ_ hu0
 have HB0 := aZ_ hb0
 have HO := aZ_ ho
 clear hn hu0 hb0 ho
 have EG := aZ_ (enters_of Try.func62 T17_ rfl)
 go_enter Try.func42,Try.ntmps42
 go_wp2_with (go_at_call 59;refine (impl_makeTable.any n HN.out (impl_affine.p u b) 62 #[.pointer (some ⟨w.heap.size,0,none⟩),.pointer (some ⟨w.heap.size + 1,0,none⟩)] EG.out _ (fun W x hx hb => impl_affine_1.any u b x HU0.out HB0.out (Nat.lt_of_lt_of_le hx (B.pow_le HN.out)) (HO.out x hx) _ _ W (blk_below (blk_alloc (blk_alloc (blk_new w _) _) _) hb) (blk_below (blk_alloc (by simpa using blk_new (w.alloc (.cells #[.int .i64 u] 3)) (.cells #[.int .i64 b] 3)) _) hb))).mono ?_;rintro e w' ⟨rfl,hb⟩;have BK : Aside0 (w'.heap[w.heap.size + 1 + 1]? = some (.cells #[.int .i64 0,.int .i64 0] 25 (0,0))) := ⟨by have h_ := blk_below (blk_new _ _) hb;simpa using h_⟩;have HB := aZ_ (below_step (below_alloc (below_alloc (below_alloc (Below.refl w.heap.size w) _) _) _) hb);clear hb;have hc0 : w'.cell? ⟨w.heap.size + 1 + 1,0,none⟩ = some (.int .i64 0) := (blk_cell BK.out 0).trans rfl;have hc1 : w'.cell? ⟨w.heap.size + 1 + 1,1,none⟩ = some (.int .i64 0) := (blk_cell BK.out 1).trans rfl;have hf0 : w'.frozen? ⟨w.heap.size + 1 + 1,0,none⟩ = false := blk_frozen BK.out 0;have hf1 : w'.frozen? ⟨w.heap.size + 1 + 1,1,none⟩ = false := blk_frozen BK.out 1)
 refine bodyPost_ret (results_cell_row rfl _ _ (w.heap.size + 1 + 1) 25 #[.int .i64 n,.int .i64 (B.tabN (impl_affine.p u b) (2 ^ n) : Nat)] (0,0) _ rfl T49_ Try.underlying25 rfl T17_) rfl ?_
 exact ⟨rfl,below_set (below_set HB.out (by omega)) (by omega)⟩
def impl_affine.f (a0 a1 a2 : Int) : Option (Int × Int) := if (0 ≤ a0 ∧ a0 ≤ 5 ∧ 0 ≤ a1 ∧ a1 < 32 ∧ 0 ≤ a2 ∧ a2 ≤ 1) ∧ B.allN (impl_affine.okx a1.toNat) (2 ^ a0.toNat) = true then some (a0,((B.tabN (impl_affine.p a1.toNat a2.toNat) (2 ^ a0.toNat) : Nat) : Int)) else none
theorem impl_affine.calls (a0 a1 a2 r1 r2 : Int) (w : World) (h : impl_affine.f a0 a1 a2 = some (r1,r2)) :
  Calls Try.prog 42 #[.int .i64 a0,.int .i64 a1,.int .i64 a2] w fun e w' => e = .returned (.agg #[.int .i64 r1,.int .i64 r2]) ∧ Below w.heap.size w w' := by
 unfold impl_affine.f at h
 split at h
 next hc =>
  obtain ⟨n,rfl⟩ := Int.eq_ofNat_of_zero_le hc.1.1
  obtain ⟨u,rfl⟩ := Int.eq_ofNat_of_zero_le hc.1.2.2.1
  obtain ⟨b,rfl⟩ := Int.eq_ofNat_of_zero_le hc.1.2.2.2.2.1
  simp only [Int.toNat_natCast] at h hc
  have h := Option.some.inj h
  obtain ⟨rfl,rfl⟩ := Prod.mk.injEq .. ▸ h
  exact impl_affine.any n u b (by omega) (by omega) (by omega) (B.allN_iff.mp hc.2) w
 next => cases h
mutual
def impl_NearestAffine.l0 : Nat → Int → Int → Int → Int → Int → Int → Int → Option (Int × Int × Int × Bool)
 | 0,_,_,_,_,_,_,_ => none
 | k + 1,x6,x7,x8,x19,x20,x102000,x102001 => if x20 < x19 then (impl_NearestAffine.l1 k x6 x7 x8 x20 x19 x20 0 x102000 x102001) else (some (x6,x7,x8,true))
def impl_NearestAffine.l1 : Nat → Int → Int → Int → Int → Int → Int → Int → Int → Int → Option (Int × Int × Int × Bool)
 | 0,_,_,_,_,_,_,_,_,_ => none
 | k + 1,x6,x7,x8,x9,x19,x20,x23,x102000,x102001 => if x23 < 2 then ((impl_affine.f x102000 x9 x23).bind fun bt105 => ((impl_ones.f (Go.bits .xor .i64 x102001 bt105.2)).bind fun t107 => (if t107 < x8 then (impl_NearestAffine.l1 k x9 x23 t107 x9 x19 x20 (wrap64 (x23 + 1)) x102000 x102001) else (impl_NearestAffine.l1 k x6 x7 x8 x9 x19 x20 (wrap64 (x23 + 1)) x102000 x102001)))) else (impl_NearestAffine.l0 k x6 x7 x8 x19 (wrap64 (x20 + 1)) x102000 x102001)
end
def impl_NearestAffine.f (k : Nat) (a0_0 : Int) (a0_1 : Int) : Option (Int × Int × Int × Bool) := (impl_IsTable.f a0_0 a0_1).bind fun t102 => (if t102 = true then ((impl_Table_size.f a0_0 a0_1).bind fun t103 => ((impl_Table_size.f a0_0 a0_1).bind fun t104 => (impl_NearestAffine.l0 k 0 0 (wrap64 (t103 + 1)) t104 0 a0_0 a0_1))) else (some (0,0,0,false)))
def impl_NearestAffine.T10 : Bool × List (List Nat × List Nat) := (true,[([],[]),([0],[0]),([],[]),([2],[2]),([],[]),([],[]),([3,4,5],[3,4,5]),([6],[6]),([1,7],[1,7]),([8,6],[8]),([9,9,0,1,2,3,4,5,6,7,8,9],[9])])
def impl_NearestAffine.B10 : List Nat := [0,1,0,4,0,0,60,124,255,511,1023]
theorem impl_NearestAffine.tab10 : rtab .any (opsOf Try.f13 10) = impl_NearestAffine.T10 := by kernel_rfl
theorem impl_NearestAffine.bits10 : waitsOk impl_NearestAffine.T10.2 impl_NearestAffine.B10 = true := by kernel_rfl
set_option maxHeartbeats 8000000 in
set_option maxRecDepth 100000 in
theorem impl_NearestAffine.calls (k : Nat) (a0_0 : Int) (a0_1 : Int) (r1 : Int) (r2 : Int) (r3 : Int) (r4 : Bool) (w : World) (h : impl_NearestAffine.f k a0_0 a0_1 = some (r1,r2,r3,r4)) :
  Calls Try.prog 13 #[.agg #[.int .i64 a0_0,.int .i64 a0_1]] w fun e w' => e = .returned (.tuple #[.int .i64 r1,.int .i64 r2,.int .i64 r3,.bool r4]) ∧ Below w.heap.size w w' := by
 have hu25 := Try.underlying25
 have hfd25_1 : ∀ (x0_ x1_ : Int) (W : World),(Instr.field 25 (.agg #[.int .i64 x0_,.int .i64 x1_]) 1).run Try.prog W = .ok (.int .i64 x1_) W := fun _ _ _ => by kernel_rfl
 have HB := aZ_ (Below.refl w.heap.size w)
 have H : ((impl_IsTable.f a0_0 a0_1).bind fun t102 => (if t102 = true then ((impl_Table_size.f a0_0 a0_1).bind fun t103 => ((impl_Table_size.f a0_0 a0_1).bind fun t104 => (impl_NearestAffine.l0 k 0 0 (wrap64 (t103 + 1)) t104 0 a0_0 a0_1))) else (some (0,0,0,false)))) = some (r1,r2,r3,r4) := h
 clear h
 replace H := Option.bind_eq_some_iff.mp H
 obtain ⟨t102,A20,H⟩ := H
 replace H : (if t102 = true then ((impl_Table_size.f a0_0 a0_1).bind fun t103 => ((impl_Table_size.f a0_0 a0_1).bind fun t104 => (impl_NearestAffine.l0 k 0 0 (wrap64 (t103 + 1)) t104 0 a0_0 a0_1))) else (some (0,0,0,false))) = some (r1,r2,r3,r4) := H
 have A2 := aZ_ A20
 clear A20
 by_cases c3 : t102 = true
 ·subst c3
  have H1 : ((impl_Table_size.f a0_0 a0_1).bind fun t103 => ((impl_Table_size.f a0_0 a0_1).bind fun t104 => (impl_NearestAffine.l0 k 0 0 (wrap64 (t103 + 1)) t104 0 a0_0 a0_1))) = some (r1,r2,r3,r4) := by rw [if_pos rfl] at H;exact H
  clear H
  have H := H1
  clear H1
  replace H := Option.bind_eq_some_iff.mp H
  obtain ⟨t103,A40,H⟩ := H
  replace H : ((impl_Table_size.f a0_0 a0_1).bind fun t104 => (impl_NearestAffine.l0 k 0 0 (wrap64 (t103 + 1)) t104 0 a0_0 a0_1)) = some (r1,r2,r3,r4) := H
  have A4 := aZ_ A40
  clear A40
  replace H := Option.bind_eq_some_iff.mp H
  obtain ⟨t104,A50,H⟩ := H
  replace H : (impl_NearestAffine.l0 k 0 0 (wrap64 (t103 + 1)) t104 0 a0_0 a0_1) = some (r1,r2,r3,r4) := H
  have A5 := aZ_ A50
  clear A50
  have H' := aZ_ H
  clear H
  go_enter Try.func13,Try.ntmps13
  go_wp2_with (first | ((with_reducible refine gate_dst (N := 1) rfl ?_);refine box_event ?hg (N := 1) ?hd (cs := #[.int .i64 a0_0,.int .i64 a0_1]) (t := 25) ?hr ?_;(case hd => rfl);(case hg => rfl);(case hr => first | (go_simp;done) | (go_simp;rfl));intro gb101 hg w6 hbox hb;have n0_ := aZ_ (below_step T5_ hb);have n1_ := aZ_ (hbox);have n2_ := aZ_ ((T2_ : w.heap.size ≤ gb101));have n3_ := aZ_ ((T2_ : w.heap.size ≤ gb101));clear HB;have HB := n0_;have BK101 := n1_;have GW101 := n2_;have GE101 := n3_;clear n0_ n1_ n2_ n3_;clear hb hbox hg;have hcz7_0 : w6.cell? ⟨gb101,0,none⟩ = some (.int .i64 a0_0) := (blk_cell BK101.out 0).trans rfl;have hcz7_1 : w6.cell? ⟨gb101,1,none⟩ = some (.int .i64 a0_1) := (blk_cell BK101.out 1).trans rfl;have hfz7_0 := blk_frozen BK101.out 0;have hfz7_1 := blk_frozen BK101.out 1) | ((with_reducible refine gate_callee (f := 34) rfl ?_);refine goesL_ (some 13) rfl rfl Try.func34 T17_ rfl #[.agg #[.int .i64 a0_0,.int .i64 a0_1]] rfl T4_ ?_;(with_reducible refine (impl_IsTable.calls a0_0 a0_1 true _ A2.out).mono ?_);rintro e w8 ⟨rfl,hb⟩;refine ⟨_,rfl,?_⟩;have n0_ := aZ_ (blk_below (g := gb101) (o := .cells #[.int .i64 a0_0,.int .i64 a0_1] 25 (0,0)) T1_ hb);have n1_ := aZ_ (below_step T3_ hb);clear BK101;clear HB;have BK101 := n0_;have HB := n1_;clear n0_ n1_;(try clear hb);(try clear hb2);(try clear hk);(try clear hi);have hcz9_0 : w8.cell? ⟨gb101,0,none⟩ = some (.int .i64 a0_0) := (blk_cell BK101.out 0).trans rfl;have hcz9_1 : w8.cell? ⟨gb101,1,none⟩ = some (.int .i64 a0_1) := (blk_cell BK101.out 1).trans rfl;have hfz9_0 := blk_frozen BK101.out 0;have hfz9_1 := blk_frozen BK101.out 1) | ((with_reducible refine gate_callee (f := 35) rfl ?_);refine goesL_ (some 16) rfl rfl Try.func35 T17_ rfl #[.agg #[.int .i64 a0_0,.int .i64 a0_1]] rfl T4_ ?_;(with_reducible refine (impl_Table_size.calls a0_0 a0_1 t103 _ A4.out).mono ?_);rintro e w10 ⟨rfl,hb⟩;refine ⟨_,rfl,?_⟩;have n0_ := aZ_ (blk_below (g := gb101) (o := .cells #[.int .i64 a0_0,.int .i64 a0_1] 25 (0,0)) T1_ hb);have n1_ := aZ_ (below_step T3_ hb);clear BK101;clear HB;have BK101 := n0_;have HB := n1_;clear n0_ n1_;(try clear hb);(try clear hb2);(try clear hk);(try clear hi);have hcz11_0 : w10.cell? ⟨gb101,0,none⟩ = some (.int .i64 a0_0) := (blk_cell BK101.out 0).trans rfl;have hcz11_1 : w10.cell? ⟨gb101,1,none⟩ = some (.int .i64 a0_1) := (blk_cell BK101.out 1).trans rfl;have hfz11_0 := blk_frozen BK101.out 0;have hfz11_1 := blk_frozen BK101.out 1) | ((with_reducible refine gate_callee (f := 35) rfl ?_);refine goesL_ (some 19) rfl rfl Try.func35 T17_ rfl #[.agg #[.int .i64 a0_0,.int .i64 a0_1]] rfl T4_ ?_;(with_reducible refine (impl_Table_size.calls a0_0 a0_1 t104 _ A5.out).mono ?_);rintro e w12 ⟨rfl,hb⟩;refine ⟨_,rfl,?_⟩;have n0_ := aZ_ (blk_below (g := gb101) (o := .cells #[.int .i64 a0_0,.int .i64 a0_1] 25 (0,0)) T1_ hb);have n1_ := aZ_ (below_step T3_ hb);clear BK101;clear HB;have BK101 := n0_;have HB := n1_;clear n0_ n1_;(try clear hb);(try clear hb2);(try clear hk);(try clear hi)))
  go_loopg [6,7,8,20] k (fun kq v6 v7 v8 v20 w' => ∃ (x6_1 : Int) (x7_1 : Int) (x8_1 : Int) (x20_1 : Int),v6 = .int .i64 x6_1 ∧ v7 = .int .i64 x7_1 ∧ v8 = .int .i64 x8_1 ∧ v20 = .int .i64 x20_1 ∧ Aside0 (impl_NearestAffine.l0 kq x6_1 x7_1 x8_1 t104 x20_1 a0_0 a0_1 = some (r1,r2,r3,r4)) ∧ Aside0 (kq ≤ k) ∧ Aside0 (w'.heap[gb101]? = some (.cells #[.int .i64 a0_0,.int .i64 a0_1] 25 (0,0))) ∧ Aside0 (Below w.heap.size w w'))
  case atStart => exact ⟨(0),(0),(wrap64 (t103 + 1)),(0),T7_,T7_,T7_,T7_,H',⟨Nat.le_refl _⟩,⟨by (with_reducible repeat (first | refine blk_drewN ?_ _ | refine blk_drew ?_ | refine blk_alloc ?_ _));exact BK101.out⟩,⟨by repeat (first | (with_reducible first | exact HB.out | apply below_alloc | apply pw_below_drewN | apply below_drew1 | refine below_set ?_ GE101.out) | exact HB.out)⟩⟩
  case round =>
   clear H'
   try clear c1
   try clear p2
   try clear c3
   try clear p6
   try clear hcz11_0
   try clear hcz11_1
   try clear hcz7_0
   try clear hcz7_1
   try clear hcz9_0
   try clear hcz9_1
   try clear hfz11_0
   try clear hfz11_1
   try clear hfz7_0
   try clear hfz7_1
   try clear hfz9_0
   try clear hfz9_1
   obtain ⟨x6_1,x7_1,x8_1,x20_1,rfl,rfl,rfl,rfl,HA,HK1,BK101,HB⟩ := hrel
   cases gk with
   | zero => exact absurd HA.out (by simp [impl_NearestAffine.l0])
   | succ k1 =>
    have H := HA.out
    clear HA
    simp only [impl_NearestAffine.l0] at H
    by_cases c13 : x20_1 < t104
    ·rw [if_pos c13] at H
     have c13b0 : decide (x20_1 < t104) = true := decide_eq_true c13
     clear c13
     have H' := aZ_ H
     clear H
     go_wp2
     go_loopg [6,7,8,23] k1 (fun kq v6 v7 v8 v23 w' => ∃ (x6_2 : Int) (x7_2 : Int) (x8_2 : Int) (x23_2 : Int),v6 = .int .i64 x6_2 ∧ v7 = .int .i64 x7_2 ∧ v8 = .int .i64 x8_2 ∧ v23 = .int .i64 x23_2 ∧ Aside0 (impl_NearestAffine.l1 kq x6_2 x7_2 x8_2 x20_1 t104 x20_1 x23_2 a0_0 a0_1 = some (r1,r2,r3,r4)) ∧ Aside0 (kq ≤ k1) ∧ Aside0 (w'.heap[gb101]? = some (.cells #[.int .i64 a0_0,.int .i64 a0_1] 25 (0,0))) ∧ Aside0 (Below w.heap.size w w'))
     case atStart => exact ⟨(x6_1),(x7_1),(x8_1),(0),T7_,T7_,T7_,T7_,H',⟨Nat.le_refl _⟩,⟨by (with_reducible repeat (first | refine blk_drewN ?_ _ | refine blk_drew ?_ | refine blk_alloc ?_ _));exact BK101.out⟩,⟨by repeat (first | (with_reducible first | exact HB.out | apply below_alloc | apply pw_below_drewN | apply below_drew1 | refine below_set ?_ GE101.out) | exact HB.out)⟩⟩
     case round =>
      clear H'
      try clear c1
      try clear p2
      try clear c3
      try clear p6
      try clear c13
      try clear c13b0
      try clear hcz11_0
      try clear hcz11_1
      try clear hcz7_0
      try clear hcz7_1
      try clear hcz9_0
      try clear hcz9_1
      try clear hfz11_0
      try clear hfz11_1
      try clear hfz7_0
      try clear hfz7_1
      try clear hfz9_0
      try clear hfz9_1
      try clear p2
      try clear p6
      obtain ⟨x6_2,x7_2,x8_2,x23_2,rfl,rfl,rfl,rfl,HA,HK2,BK101,HB⟩ := hrel
      cases gk with
      | zero => exact absurd HA.out (by simp [impl_NearestAffine.l1])
      | succ k2 =>
       have H := HA.out
       clear HA
       simp only [impl_NearestAffine.l1] at H
       by_cases c14 : x23_2 < 2
       ·rw [if_pos c14] at H
        have c14b0 : decide (x23_2 < 2) = true := decide_eq_true c14
        clear c14
        replace H := Option.bind_eq_some_iff.mp H
        obtain ⟨⟨t105,t106⟩,A150,H⟩ := H
        replace H : ((impl_ones.f (Go.bits .xor .i64 a0_1 t106)).bind fun t107 => (if t107 < x8_2 then (impl_NearestAffine.l1 k2 x20_1 x23_2 t107 x20_1 t104 x20_1 (wrap64 (x23_2 + 1)) a0_0 a0_1) else (impl_NearestAffine.l1 k2 x6_2 x7_2 x8_2 x20_1 t104 x20_1 (wrap64 (x23_2 + 1)) a0_0 a0_1))) = some (r1,r2,r3,r4) := H
        have A15 := aZ_ A150
        clear A150
        replace H := Option.bind_eq_some_iff.mp H
        obtain ⟨t107,A160,H⟩ := H
        replace H : (if t107 < x8_2 then (impl_NearestAffine.l1 k2 x20_1 x23_2 t107 x20_1 t104 x20_1 (wrap64 (x23_2 + 1)) a0_0 a0_1) else (impl_NearestAffine.l1 k2 x6_2 x7_2 x8_2 x20_1 t104 x20_1 (wrap64 (x23_2 + 1)) a0_0 a0_1)) = some (r1,r2,r3,r4) := H
        have A16 := aZ_ A160
        clear A160
        by_cases c17 : t107 < x8_2
        ·rw [if_pos c17] at H
         have c17b0 : decide (t107 < x8_2) = true := decide_eq_true c17
         clear c17
         have H' := aZ_ H
         clear H
         try go_wp2
         have n0_ := aZ_ (blk_drew BK101.out)
         have n1_ := aZ_ (below_drew1 HB.out)
         clear BK101
         clear HB
         have BK101 := n0_
         have HB := n1_
         clear n0_ n1_
         refine start_ (n := 11) (S := fun w' => w'.cell? ⟨gb101,0,none⟩ = some (.int .i64 a0_0) ∧ w'.cell? ⟨gb101,1,none⟩ = some (.int .i64 a0_1)) (ds := []) #[false,false,false,false,false,false,false,false,false,false,false] T17_ rfl rfl ⟨(blk_cell BK101.out 0).trans rfl,(blk_cell BK101.out 1).trans rfl⟩ (fun hHeld => ?_);refine with_tabW impl_NearestAffine.tab10 impl_NearestAffine.bits10 (fun HT_ HW_ => ?_)
         generalize wr.drew = w18 at BK101 HB hHeld ⊢
         refine pZ_ 0 (some 26) #[true,false,false,false,false,false,false,false,false,false,false] ?_
         refine pZ_ 2 (some 28) #[true,false,true,false,false,false,false,false,false,false,false] ?_
         refine pZ_ 4 (some 30) #[true,false,true,false,true,false,false,false,false,false,false] ?_
         refine pZ_ 5 (some 31) #[true,false,true,false,true,true,false,false,false,false,false] ?_
         refine tZ2_ 1 (some 27) #[true,true,true,false,true,true,false,false,false,false,false] hHeld ?_
         refine tZ2_ 3 (some 29) #[true,true,true,true,true,true,false,false,false,false,false] hHeld ?_
         refine one_ (i := 6) (N := some 32) #[true,true,true,true,true,true,true,false,false,false,false] rfl rfl (one_of HT_.out T17_) T46_ (fun K hK => ?_)
         refine gZ_ Try.func42 #[.int .i64 a0_0,.int .i64 x20_1,.int .i64 x23_2] ?_
         with_reducible refine (impl_affine.calls a0_0 x20_1 x23_2 t105 t106 _ A15.out).mono ?_
         rintro e w19 ⟨rfl,hb⟩
         refine ⟨_,rfl,?_⟩
         have n0_ := aZ_ (blk_below (g := gb101) (o := .cells #[.int .i64 a0_0,.int .i64 a0_1] 25 (0,0)) T1_ hb)
         have n1_ := aZ_ (below_step T3_ hb)
         clear BK101
         clear HB
         have BK101 := n0_
         have HB := n1_
         clear n0_ n1_
         (try clear hb)
         (try clear hb2)
         (try clear hk)
         (try clear hi)
         refine hK.out _ _ ⟨(blk_cell BK101.out 0).trans rfl,(blk_cell BK101.out 1).trans rfl⟩ (fun hHeld => ?_)
         clear hK K
         refine norm_ (a' := ?_) ?_ ?_
         rotate_left
         ·show Act.put _ (some 32) _ = _
          simp only [Act.put,List.setIfInBounds_toArray,List.set_cons_zero,List.set_cons_succ,i64_w,i32_w]
          rfl
         refine pZ_ 7 (some 33) #[true,true,true,true,true,true,true,true,false,false,false] ?_
         refine pZ_ 8 (some 34) #[true,true,true,true,true,true,true,true,true,false,false] ?_
         refine one_ (i := 9) (N := some 35) #[true,true,true,true,true,true,true,true,true,true,false] rfl rfl (one_of HT_.out T17_) T46_ (fun K hK => ?_)
         refine gZ_ Try.func41 #[.int .i64 (Go.bits .xor .i64 a0_1 t106)] ?_
         with_reducible refine (impl_ones.calls (Go.bits .xor .i64 a0_1 t106) t107 _ A16.out).mono ?_
         rintro e w' ⟨rfl,⟨nd,rfl⟩⟩
         refine ⟨_,rfl,?_⟩
         refine hK.out _ _ ⟨(blk_cell BK101.out 0).trans rfl,(blk_cell BK101.out 1).trans rfl⟩ (fun hHeld => ?_)
         clear hK K
         refine norm_ (a' := ?_) ?_ ?_
         rotate_left
         ·show Act.put _ (some 35) _ = _
          simp only [Act.put,List.setIfInBounds_toArray,List.set_cons_zero,List.set_cons_succ,i64_w,i32_w]
          rfl
         refine pZ_ 10 (some 11) #[true,true,true,true,true,true,true,true,true,true,true] ?_
         refine done_ (done_of HT_.out T17_) ?_
         try go_wp2
         go_roundg k2
         case measure => have := HK1.out;have := HK2.out;omega
         case rel => exact ⟨(x20_1),(x23_2),(t107),(wrap64 (x23_2 + 1)),T7_,T7_,T7_,T7_,H',⟨by have := HK1.out;have := HK2.out;omega⟩,⟨by (with_reducible repeat (first | refine blk_drewN ?_ _ | refine blk_drew ?_ | refine blk_alloc ?_ _));exact BK101.out⟩,⟨by repeat (first | (with_reducible first | exact HB.out | apply below_alloc | apply pw_below_drewN | apply below_drew1 | refine below_set ?_ GE101.out) | exact HB.out)⟩⟩
        ·rw [if_neg c17] at H
         have c17b0 : decide (t107 < x8_2) = false := decide_eq_false c17
         clear c17
         have H' := aZ_ H
         clear H
         try go_wp2
         have n0_ := aZ_ (blk_drew BK101.out)
         have n1_ := aZ_ (below_drew1 HB.out)
         clear BK101
         clear HB
         have BK101 := n0_
         have HB := n1_
         clear n0_ n1_
         refine start_ (n := 11) (S := fun w' => w'.cell? ⟨gb101,0,none⟩ = some (.int .i64 a0_0) ∧ w'.cell? ⟨gb101,1,none⟩ = some (.int .i64 a0_1)) (ds := []) #[false,false,false,false,false,false,false,false,false,false,false] T17_ rfl rfl ⟨(blk_cell BK101.out 0).trans rfl,(blk_cell BK101.out 1).trans rfl⟩ (fun hHeld => ?_);refine with_tabW impl_NearestAffine.tab10 impl_NearestAffine.bits10 (fun HT_ HW_ => ?_)
         generalize wr.drew = w20 at BK101 HB hHeld ⊢
         refine pZ_ 0 (some 26) #[true,false,false,false,false,false,false,false,false,false,false] ?_
         refine pZ_ 2 (some 28) #[true,false,true,false,false,false,false,false,false,false,false] ?_
         refine pZ_ 4 (some 30) #[true,false,true,false,true,false,false,false,false,false,false] ?_
         refine pZ_ 5 (some 31) #[true,false,true,false,true,true,false,false,false,false,false] ?_
         refine tZ2_ 1 (some 27) #[true,true,true,false,true,true,false,false,false,false,false] hHeld ?_
         refine tZ2_ 3 (some 29) #[true,true,true,true,true,true,false,false,false,false,false] hHeld ?_
         refine one_ (i := 6) (N := some 32) #[true,true,true,true,true,true,true,false,false,false,false] rfl rfl (one_of HT_.out T17_) T46_ (fun K hK => ?_)
         refine gZ_ Try.func42 #[.int .i64 a0_0,.int .i64 x20_1,.int .i64 x23_2] ?_
         with_reducible refine (impl_affine.calls a0_0 x20_1 x23_2 t105 t106 _ A15.out).mono ?_
         rintro e w21 ⟨rfl,hb⟩
         refine ⟨_,rfl,?_⟩
         have n0_ := aZ_ (blk_below (g := gb101) (o := .cells #[.int .i64 a0_0,.int .i64 a0_1] 25 (0,0)) T1_ hb)
         have n1_ := aZ_ (below_step T3_ hb)
         clear BK101
         clear HB
         have BK101 := n0_
         have HB := n1_
         clear n0_ n1_
         (try clear hb)
         (try clear hb2)
         (try clear hk)
         (try clear hi)
         refine hK.out _ _ ⟨(blk_cell BK101.out 0).trans rfl,(blk_cell BK101.out 1).trans rfl⟩ (fun hHeld => ?_)
         clear hK K
         refine norm_ (a' := ?_) ?_ ?_
         rotate_left
         ·show Act.put _ (some 32) _ = _
          simp only [Act.put,List.setIfInBounds_toArray,List.set_cons_zero,List.set_cons_succ,i64_w,i32_w]
          rfl
         refine pZ_ 7 (some 33) #[true,true,true,true,true,true,true,true,false,false,false] ?_
         refine pZ_ 8 (some 34) #[true,true,true,true,true,true,true,true,true,false,false] ?_
         refine one_ (i := 9) (N := some 35) #[true,true,true,true,true,true,true,true,true,true,false] rfl rfl (one_of HT_.out T17_) T46_ (fun K hK => ?_)
         refine gZ_ Try.func41 #[.int .i64 (Go.bits .xor .i64 a0_1 t106)] ?_
         with_reducible refine (impl_ones.calls (Go.bits .xor .i64 a0_1 t106) t107 _ A16.out).mono ?_
         rintro e w' ⟨rfl,⟨nd,rfl⟩⟩
         refine ⟨_,rfl,?_⟩
         refine hK.out _ _ ⟨(blk_cell BK101.out 0).trans rfl,(blk_cell BK101.out 1).trans rfl⟩ (fun hHeld => ?_)
         clear hK K
         refine norm_ (a' := ?_) ?_ ?_
         rotate_left
         ·show Act.put _ (some 35) _ = _
          simp only [Act.put,List.setIfInBounds_toArray,List.set_cons_zero,List.set_cons_succ,i64_w,i32_w]
          rfl
         refine pZ_ 10 (some 11) #[true,true,true,true,true,true,true,true,true,true,true] ?_
         refine done_ (done_of HT_.out T17_) ?_
         try go_wp2
         go_roundg k2
         case measure => have := HK1.out;have := HK2.out;omega
         case rel => exact ⟨(x6_2),(x7_2),(x8_2),(wrap64 (x23_2 + 1)),T7_,T7_,T7_,T7_,H',⟨by have := HK1.out;have := HK2.out;omega⟩,⟨by (with_reducible repeat (first | refine blk_drewN ?_ _ | refine blk_drew ?_ | refine blk_alloc ?_ _));exact BK101.out⟩,⟨by repeat (first | (with_reducible first | exact HB.out | apply below_alloc | apply pw_below_drewN | apply below_drew1 | refine below_set ?_ GE101.out) | exact HB.out)⟩⟩
       ·rw [if_neg c14] at H
        have c14b0 : decide (x23_2 < 2) = false := decide_eq_false c14
        clear c14
        have H' := aZ_ H
        clear H
        go_wp2
        go_roundg k2
        case measure => have := HK1.out;have := HK2.out;omega
        case rel => exact ⟨(x6_2),(x7_2),(x8_2),(wrap64 (x20_1 + 1)),T7_,T7_,T7_,T7_,H',⟨by have := HK1.out;have := HK2.out;omega⟩,⟨by (with_reducible repeat (first | refine blk_drewN ?_ _ | refine blk_drew ?_ | refine blk_alloc ?_ _));exact BK101.out⟩,⟨by repeat (first | (with_reducible first | exact HB.out | apply below_alloc | apply pw_below_drewN | apply below_drew1 | refine below_set ?_ GE101.out) | exact HB.out)⟩⟩
    ·rw [if_neg c13] at H
     have c13b0 : decide (x20_1 < t104) = false := decide_eq_false c13
     clear c13
     simp only [Option.some.injEq,Prod.mk.injEq] at H
     obtain ⟨rfl,rfl,rfl,rfl⟩ := H
     go_wp2
     refine bodyPost_ret (results_list (rs := [.tmp 2,.tmp 3,.tmp 4,.tmp 5]) rfl T44_ (.tmp (.tmp (.tmp (.tmp .nil))))) rfl ?_
     exact ⟨by first | rfl | (simp [errW_none,errW_some] <;> rfl) | (simp [*,errW_none,errW_some] <;> rfl),by repeat (first | (with_reducible first | exact HB.out | apply below_alloc | apply pw_below_drewN | apply below_drew1 | refine below_set ?_ GE101.out) | exact HB.out)⟩
 ·replace c3 := Bool.eq_false_iff.mpr c3
  subst c3
  have H1 : (some (0,0,0,false)) = some (r1,r2,r3,r4) := by rw [if_neg (show ¬ (false = true) by decide)] at H;exact H
  clear H
  have H := H1
  clear H1
  simp only [Option.some.injEq,Prod.mk.injEq] at H
  obtain ⟨rfl,rfl,rfl,rfl⟩ := H
  go_enter Try.func13,Try.ntmps13
  go_wp2_with (first | ((with_reducible refine gate_dst (N := 1) rfl ?_);refine box_event ?hg (N := 1) ?hd (cs := #[.int .i64 a0_0,.int .i64 a0_1]) (t := 25) ?hr ?_;(case hd => rfl);(case hg => rfl);(case hr => first | (go_simp;done) | (go_simp;rfl));intro gb101 hg w22 hbox hb;have n0_ := aZ_ (below_step T5_ hb);have n1_ := aZ_ (hbox);have n2_ := aZ_ ((T2_ : w.heap.size ≤ gb101));have n3_ := aZ_ ((T2_ : w.heap.size ≤ gb101));clear HB;have HB := n0_;have BK101 := n1_;have GW101 := n2_;have GE101 := n3_;clear n0_ n1_ n2_ n3_;clear hb hbox hg;have hcz23_0 : w22.cell? ⟨gb101,0,none⟩ = some (.int .i64 a0_0) := (blk_cell BK101.out 0).trans rfl;have hcz23_1 : w22.cell? ⟨gb101,1,none⟩ = some (.int .i64 a0_1) := (blk_cell BK101.out 1).trans rfl;have hfz23_0 := blk_frozen BK101.out 0;have hfz23_1 := blk_frozen BK101.out 1) | ((with_reducible refine gate_callee (f := 34) rfl ?_);refine goesL_ (some 13) rfl rfl Try.func34 T17_ rfl #[.agg #[.int .i64 a0_0,.int .i64 a0_1]] rfl T4_ ?_;(with_reducible refine (impl_IsTable.calls a0_0 a0_1 false _ A2.out).mono ?_);rintro e w24 ⟨rfl,hb⟩;refine ⟨_,rfl,?_⟩;have n0_ := aZ_ (blk_below (g := gb101) (o := .cells #[.int .i64 a0_0,.int .i64 a0_1] 25 (0,0)) T1_ hb);have n1_ := aZ_ (below_step T3_ hb);clear BK101;clear HB;have BK101 := n0_;have HB := n1_;clear n0_ n1_;(try clear hb);(try clear hb2);(try clear hk);(try clear hi)))
  refine bodyPost_ret (results_list (rs := [.tmp 2,.tmp 3,.tmp 4,.tmp 5]) rfl T44_ (.tmp (.tmp (.tmp (.tmp .nil))))) rfl ?_
  exact ⟨by first | rfl | (simp [errW_none,errW_some] <;> rfl) | (simp [*,errW_none,errW_some] <;> rfl),by repeat (first | (with_reducible first | exact HB.out | apply below_alloc | apply pw_below_drewN | apply below_drew1 | refine below_set ?_ GE101.out) | exact HB.out)⟩
def impl_IsAffine.f (k : Nat) (a0_0 : Int) (a0_1 : Int) : Option (Bool) := (impl_NearestAffine.f k a0_0 a0_1).bind fun bt102 => (if bt102.2.2.2 = true then (some (bt102.2.2.1 == 0)) else (some false))
set_option maxHeartbeats 8000000 in
set_option maxRecDepth 100000 in
theorem impl_IsAffine.calls (k : Nat) (a0_0 : Int) (a0_1 : Int) (r : Bool) (w : World) (h : impl_IsAffine.f k a0_0 a0_1 = some r) :
  Calls Try.prog 6 #[.agg #[.int .i64 a0_0,.int .i64 a0_1]] w fun e w' => e = .returned (.bool r) ∧ Below w.heap.size w w' := by
 have hu25 := Try.underlying25
 have HB := aZ_ (Below.refl w.heap.size w)
 have H : ((impl_NearestAffine.f k a0_0 a0_1).bind fun bt102 => (if bt102.2.2.2 = true then (some (bt102.2.2.1 == 0)) else (some false))) = some r := h
 clear h
 replace H := Option.bind_eq_some_iff.mp H
 obtain ⟨⟨t102,t103,t104,t105⟩,A20,H⟩ := H
 replace H : (if t105 = true then (some (t104 == 0)) else (some false)) = some r := H
 have A2 := aZ_ A20
 clear A20
 by_cases c3 : t105 = true
 ·subst c3
  have H1 : (some (t104 == 0)) = some r := by rw [if_pos rfl] at H;exact H
  clear H
  have H := H1
  clear H1
  obtain rfl := Option.some.inj H
  go_enter Try.func6,Try.ntmps6
  go_wp2_with (first | ((with_reducible refine gate_dst (N := 1) rfl ?_);refine box_event ?hg (N := 1) ?hd (cs := #[.int .i64 a0_0,.int .i64 a0_1]) (t := 25) ?hr ?_;(case hd => rfl);(case hg => rfl);(case hr => first | (go_simp;done) | (go_simp;rfl));intro gb101 hg w4 hbox hb;have n0_ := aZ_ (below_step T5_ hb);have n1_ := aZ_ (hbox);have n2_ := aZ_ ((T2_ : w.heap.size ≤ gb101));have n3_ := aZ_ ((T2_ : w.heap.size ≤ gb101));clear HB;have HB := n0_;have BK101 := n1_;have GW101 := n2_;have GE101 := n3_;clear n0_ n1_ n2_ n3_;clear hb hbox hg;have hcz5_0 : w4.cell? ⟨gb101,0,none⟩ = some (.int .i64 a0_0) := (blk_cell BK101.out 0).trans rfl;have hcz5_1 : w4.cell? ⟨gb101,1,none⟩ = some (.int .i64 a0_1) := (blk_cell BK101.out 1).trans rfl;have hfz5_0 := blk_frozen BK101.out 0;have hfz5_1 := blk_frozen BK101.out 1) | ((with_reducible refine gate_callee (f := 13) rfl ?_);refine goesL_ (some 9) rfl rfl Try.func13 T17_ rfl #[.agg #[.int .i64 a0_0,.int .i64 a0_1]] rfl T4_ ?_;(with_reducible refine (impl_NearestAffine.calls k a0_0 a0_1 t102 t103 t104 true _ A2.out).mono ?_);rintro e w6 ⟨rfl,hb⟩;refine ⟨_,rfl,?_⟩;have n0_ := aZ_ (blk_below (g := gb101) (o := .cells #[.int .i64 a0_0,.int .i64 a0_1] 25 (0,0)) T1_ hb);have n1_ := aZ_ (below_step T3_ hb);clear BK101;clear HB;have BK101 := n0_;have HB := n1_;clear n0_ n1_;(try clear hb);(try clear hb2);(try clear hk);(try clear hi)))
  go_ret
  exact ⟨by first | rfl | (simp [errW_none,errW_some] <;> rfl) | (simp [*,errW_none,errW_some] <;> rfl),by repeat (first | (with_reducible first | exact HB.out | apply below_alloc | apply pw_below_drewN | apply below_drew1 | refine below_set ?_ GE101.out) | exact HB.out)⟩
 ·replace c3 := Bool.eq_false_iff.mpr c3
  subst c3
  have H1 : (some false) = some r := by rw [if_neg (show ¬ (false = true) by decide)] at H;exact H
  clear H
  have H := H1
  clear H1
  obtain rfl := Option.some.inj H
  go_enter Try.func6,Try.ntmps6
  go_wp2_with (first | ((with_reducible refine gate_dst (N := 1) rfl ?_);refine box_event ?hg (N := 1) ?hd (cs := #[.int .i64 a0_0,.int .i64 a0_1]) (t := 25) ?hr ?_;(case hd => rfl);(case hg => rfl);(case hr => first | (go_simp;done) | (go_simp;rfl));intro gb101 hg w7 hbox hb;have n0_ := aZ_ (below_step T5_ hb);have n1_ := aZ_ (hbox);have n2_ := aZ_ ((T2_ : w.heap.size ≤ gb101));have n3_ := aZ_ ((T2_ : w.heap.size ≤ gb101));clear HB;have HB := n0_;have BK101 := n1_;have GW101 := n2_;have GE101 := n3_;clear n0_ n1_ n2_ n3_;clear hb hbox hg;have hcz8_0 : w7.cell? ⟨gb101,0,none⟩ = some (.int .i64 a0_0) := (blk_cell BK101.out 0).trans rfl;have hcz8_1 : w7.cell? ⟨gb101,1,none⟩ = some (.int .i64 a0_1) := (blk_cell BK101.out 1).trans rfl;have hfz8_0 := blk_frozen BK101.out 0;have hfz8_1 := blk_frozen BK101.out 1) | ((with_reducible refine gate_callee (f := 13) rfl ?_);refine goesL_ (some 9) rfl rfl Try.func13 T17_ rfl #[.agg #[.int .i64 a0_0,.int .i64 a0_1]] rfl T4_ ?_;(with_reducible refine (impl_NearestAffine.calls k a0_0 a0_1 t102 t103 t104 false _ A2.out).mono ?_);rintro e w9 ⟨rfl,hb⟩;refine ⟨_,rfl,?_⟩;have n0_ := aZ_ (blk_below (g := gb101) (o := .cells #[.int .i64 a0_0,.int .i64 a0_1] 25 (0,0)) T1_ hb);have n1_ := aZ_ (below_step T3_ hb);clear BK101;clear HB;have BK101 := n0_;have HB := n1_;clear n0_ n1_;(try clear hb);(try clear hb2);(try clear hk);(try clear hi)))
  go_ret
  exact ⟨by first | rfl | (simp [errW_none,errW_some] <;> rfl) | (simp [*,errW_none,errW_some] <;> rfl),by repeat (first | (with_reducible first | exact HB.out | apply below_alloc | apply pw_below_drewN | apply below_drew1 | refine below_set ?_ GE101.out) | exact HB.out)⟩
end Go.Proofs.Ytgojehaneegaeac.F
