/- Walks of Go functions and lemmas on what they compute, for the row of FnMatrices (a part of several): each call ends as the Lean function of its name tells; the conditions are those of each theorem. -/
import Derived.Test.YthlajlhjofjmcaaM1FnMatrices
import Derived.Test.YthlajlhjofjmcaaM2FnMatrices
import Derived.Test.YthlajlhjofjmcaaM3FnMatrices
import Derived.Test.YthlajlhjofjmcaaM4FnMatrices
import Derived.Test.YthlajlhjofjmcaaM5FnMatrices
namespace Go.Proofs.Ythlajlhjofjmcaa.F
open Go.RowKit Go.Proofs.YthlajlhjofjmcaaW.PrintWords Go.Proofs.YthlajlhjofjmcaaW.PrintLast Go.Proofs.YthlajlhjofjmcaaW.PrintMore
attribute [local go_sem] max2_int min2_int max_two min_two max_three min_three max_four min_four 
set_option linter.unusedVariables false
set_option linter.unusedSimpArgs false
def spec_l2Any.f (k : Nat) (s0_0 : List Int) (s0_1 : Int) (s0_2 : Int) : Option (Int × Int × Int × Int) := (spec_l1Below.f s0_0 s0_1 s0_2 5).bind fun bt102 => ((spec_l2Draw.f k s0_0 bt102.2.1 bt102.2.2 bt102.1).bind fun bt105 => ((spec_l1Below.f s0_0 bt105.2.2.1 bt105.2.2.2 14).bind fun bt110 => (if bt110.1 = 0 then ((spec_l1PickInt.f s0_0 bt110.2.1 bt110.2.2 (([(-1),6,5,0,9223372036854775807] : List Int))).bind fun bt116 => (some (bt116.1,bt105.2.1,bt116.2.1,bt116.2.2))) else (if bt110.1 = 1 then ((spec_l1PickInt.f s0_0 bt110.2.1 bt110.2.2 (([(-1),0,1,65536,9223372036854775807] : List Int))).bind fun bt122 => (some (bt105.1,bt122.1,bt122.2.1,bt122.2.2))) else (some (bt105.1,bt105.2.1,bt110.2.1,bt110.2.2))))))
set_option maxHeartbeats 8000000 in
set_option maxRecDepth 100000 in
theorem spec_l2Any.calls (k : Nat) (g : Nat) (s0_0 : List Int) (s0_1 : Int) (s0_2 : Int) (r1 : Int) (r2 : Int) (r3 : Int) (r4 : Int) (w0 w : World) (hI : IsS90 w0 w g s0_0 s0_1 s0_2) (hB : Below w0.heap.size w0 w) (h : spec_l2Any.f k s0_0 s0_1 s0_2 = some (r1,r2,r3,r4)) :
  Calls Try.prog 81 #[.pointer (some ⟨g,0,none⟩)] w fun e w' => e = .returned (.agg #[.int .i64 r1,.int .i64 r2]) ∧ IsS90 w0 w' g s0_0 r3 r4 ∧ Below w0.heap.size w0 w' ∧ KeepBut w w' g none := by
 have hu25 := Try.underlying25
 have HI0 := aZ_ hI
 have HK := aZ_ (KeepBut.refl w g none)
 have HL := aZ_ hB.size
 clear hI
 have HW0 := aZ_ hB.size
 have HB := aZ_ hB
 clear hB
 have H : ((spec_l1Below.f s0_0 s0_1 s0_2 5).bind fun bt102 => ((spec_l2Draw.f k s0_0 bt102.2.1 bt102.2.2 bt102.1).bind fun bt105 => ((spec_l1Below.f s0_0 bt105.2.2.1 bt105.2.2.2 14).bind fun bt110 => (if bt110.1 = 0 then ((spec_l1PickInt.f s0_0 bt110.2.1 bt110.2.2 (([(-1),6,5,0,9223372036854775807] : List Int))).bind fun bt116 => (some (bt116.1,bt105.2.1,bt116.2.1,bt116.2.2))) else (if bt110.1 = 1 then ((spec_l1PickInt.f s0_0 bt110.2.1 bt110.2.2 (([(-1),0,1,65536,9223372036854775807] : List Int))).bind fun bt122 => (some (bt105.1,bt122.1,bt122.2.1,bt122.2.2))) else (some (bt105.1,bt105.2.1,bt110.2.1,bt110.2.2))))))) = some (r1,r2,r3,r4) := h
 clear h
 replace H := Option.bind_eq_some_iff.mp H
 obtain ⟨⟨t102,t103,t104⟩,A20,H⟩ := H
 replace H : ((spec_l2Draw.f k s0_0 t103 t104 t102).bind fun bt105 => ((spec_l1Below.f s0_0 bt105.2.2.1 bt105.2.2.2 14).bind fun bt110 => (if bt110.1 = 0 then ((spec_l1PickInt.f s0_0 bt110.2.1 bt110.2.2 (([(-1),6,5,0,9223372036854775807] : List Int))).bind fun bt116 => (some (bt116.1,bt105.2.1,bt116.2.1,bt116.2.2))) else (if bt110.1 = 1 then ((spec_l1PickInt.f s0_0 bt110.2.1 bt110.2.2 (([(-1),0,1,65536,9223372036854775807] : List Int))).bind fun bt122 => (some (bt105.1,bt122.1,bt122.2.1,bt122.2.2))) else (some (bt105.1,bt105.2.1,bt110.2.1,bt110.2.2)))))) = some (r1,r2,r3,r4) := H
 have A2 := aZ_ A20
 clear A20
 replace H := Option.bind_eq_some_iff.mp H
 obtain ⟨⟨t105,t106,t107,t108⟩,A30,H⟩ := H
 replace H : ((spec_l1Below.f s0_0 t107 t108 14).bind fun bt110 => (if bt110.1 = 0 then ((spec_l1PickInt.f s0_0 bt110.2.1 bt110.2.2 (([(-1),6,5,0,9223372036854775807] : List Int))).bind fun bt116 => (some (bt116.1,t106,bt116.2.1,bt116.2.2))) else (if bt110.1 = 1 then ((spec_l1PickInt.f s0_0 bt110.2.1 bt110.2.2 (([(-1),0,1,65536,9223372036854775807] : List Int))).bind fun bt122 => (some (t105,bt122.1,bt122.2.1,bt122.2.2))) else (some (t105,t106,bt110.2.1,bt110.2.2))))) = some (r1,r2,r3,r4) := H
 have A3 := aZ_ A30
 clear A30
 replace H := Option.bind_eq_some_iff.mp H
 obtain ⟨⟨t110,t111,t112⟩,A40,H⟩ := H
 replace H : (if t110 = 0 then ((spec_l1PickInt.f s0_0 t111 t112 (([(-1),6,5,0,9223372036854775807] : List Int))).bind fun bt116 => (some (bt116.1,t106,bt116.2.1,bt116.2.2))) else (if t110 = 1 then ((spec_l1PickInt.f s0_0 t111 t112 (([(-1),0,1,65536,9223372036854775807] : List Int))).bind fun bt122 => (some (t105,bt122.1,bt122.2.1,bt122.2.2))) else (some (t105,t106,t111,t112)))) = some (r1,r2,r3,r4) := H
 have A4 := aZ_ A40
 clear A40
 by_cases c5 : t110 = 0
 ·rw [if_pos c5] at H
  have c5b0 : (t110 == 0) = true := beq_iff_eq.mpr c5
  have c5b1 : (t110 != 0) = false := bne_eq_false_iff_eq.mpr c5
  clear c5
  obtain ⟨y113,hy113⟩ : ∃ y_ : List Int,y_ = (([(-1),6,5,0,9223372036854775807] : List Int)) := ⟨_,rfl⟩
  replace H : ((spec_l1PickInt.f s0_0 t111 t112 y113).bind fun bt116 => (some (bt116.1,t106,bt116.2.1,bt116.2.2))) = some (r1,r2,r3,r4) := by first | (rw [hy113];with_reducible exact H) | (have H2_ := (Option.bind_some _ _).symm.trans H;rw [hy113];with_reducible exact H2_) | (have H2_ := (Option.bind_some _ _).symm.trans H;with_reducible exact H2_) | with_reducible exact H | (rw [hy113];exact H) | exact H
  have Ny113 := aZ_ hy113
  clear hy113
  replace H := Option.bind_eq_some_iff.mp H
  obtain ⟨⟨t116,t117,t118⟩,A60,H⟩ := H
  replace H : (some (t116,t106,t117,t118)) = some (r1,r2,r3,r4) := H
  have A6 := aZ_ A60
  clear A60
  simp only [Option.some.injEq,Prod.mk.injEq] at H
  obtain ⟨rfl,rfl,rfl,rfl⟩ := H
  go_enter Try.func81,Try.ntmps81
  go_wp2_with (first | ((with_reducible refine gate_dst (N := 2) rfl ?_);refine box_event ?hg (N := 2) ?hd (cs := #[.int .i64 0,.int .i64 0]) (t := 25) ?hr ?_;(case hd => rfl);(case hg => rfl);(case hr => first | (go_simp;done) | (go_simp;rfl));intro gb101 hg w7 hbox hb;have n0_ := aZ_ (IsS90.below T28_ hb);have n1_ := aZ_ (KeepBut.trans T22_ (KeepBut.of_below hb g none) (.inl rfl));have n2_ := aZ_ (below_step T27_ hb);have n3_ := aZ_ (hbox);have n4_ := aZ_ ((T12_ : w.heap.size ≤ gb101));have n5_ := aZ_ ((Nat.le_trans HW0.out (T12_ : w.heap.size ≤ gb101) : w0.heap.size ≤ gb101));have n6_ := aZ_ ((T23_ : g ≠ gb101));have n7_ := aZ_ ((T24_ : gb101 ≠ g));clear HI0;clear HK;clear HB;have HI0 := n0_;have HK := n1_;have HB := n2_;have BK101 := n3_;have GW101 := n4_;have GE101 := n5_;have NB0_101 := n6_;have NB101_0 := n7_;clear n0_ n1_ n2_ n3_ n4_ n5_ n6_ n7_;clear hb hbox hg) | ((with_reducible refine gate_callee (f := 62) rfl ?_);refine goesL_ (some 6) rfl rfl Try.func62 T15_ rfl #[.pointer (some ⟨g,0,none⟩),.int .i64 5] rfl T4_ ?_;(with_reducible refine (spec_l1Below.calls g s0_0 s0_1 s0_2 5 t102 t103 t104 w0 _ ?side1 ?side2 A2.out).mono ?_);(case side1 => repeat (first | (with_reducible first | exact HI0.out | apply IsS90.alloc | apply IsS90.drewN | apply IsS90.drew | apply IsS90.set_1 | apply IsS90.set_2 | refine IsS90.far ?_ NB0_101.out _) | exact HI0.out));(case side2 => repeat (first | (with_reducible first | exact HB.out | apply below_alloc | apply pw_below_drewN | apply below_drew1 | refine below_set ?_ (IsS90.ge HI0.out) | refine below_set ?_ GE101.out) | exact HB.out));rintro e w8 ⟨rfl,hi,hb,hk⟩;refine ⟨_,rfl,?_⟩;have n0_ := aZ_ (KeepBut.blk hk (g' := gb101) (o := .cells #[.int .i64 0,.int .i64 0] 25 (0,0)) T3_ NB101_0.out T49_);have n1_ := aZ_ (KeepBut.trans T8_ hk (.inl rfl));have n2_ := aZ_ (hb);have n3_ := aZ_ (hi);clear BK101;clear HK;clear HB;clear HI0;have BK101 := n0_;have HK := n1_;have HB := n2_;have HI0 := n3_;clear n0_ n1_ n2_ n3_;(try clear hb);(try clear hb2);(try clear hk);(try clear hi)) | ((with_reducible refine gate_callee (f := 90) rfl ?_);refine goesL_ (some 7) rfl rfl Try.func90 T15_ rfl #[.pointer (some ⟨g,0,none⟩),.int .i64 t102] rfl T4_ ?_;(with_reducible refine (spec_l2Draw.calls k g s0_0 t103 t104 t102 t105 t106 t107 t108 w0 _ ?side1 ?side2 A3.out).mono ?_);(case side1 => repeat (first | (with_reducible first | exact HI0.out | apply IsS90.alloc | apply IsS90.drewN | apply IsS90.drew | apply IsS90.set_1 | apply IsS90.set_2 | refine IsS90.far ?_ NB0_101.out _) | exact HI0.out));(case side2 => repeat (first | (with_reducible first | exact HB.out | apply below_alloc | apply pw_below_drewN | apply below_drew1 | refine below_set ?_ (IsS90.ge HI0.out) | refine below_set ?_ GE101.out) | exact HB.out));rintro e w9 ⟨rfl,hi,hb,hk⟩;refine ⟨_,rfl,?_⟩;have n0_ := aZ_ (KeepBut.blk hk (g' := gb101) (o := .cells #[.int .i64 0,.int .i64 0] 25 (0,0)) T3_ NB101_0.out T49_);have n1_ := aZ_ (KeepBut.trans T8_ hk (.inl rfl));have n2_ := aZ_ (hb);have n3_ := aZ_ (hi);clear BK101;clear HK;clear HB;clear HI0;have BK101 := n0_;have HK := n1_;have HB := n2_;have HI0 := n3_;clear n0_ n1_ n2_ n3_;(try clear hb);(try clear hb2);(try clear hk);(try clear hi)) | ((with_reducible refine gate_dst (N := 3) rfl ?_);refine box_event ?hg (N := 3) ?hd (cs := #[.int .i64 0,.int .i64 0]) (t := 25) ?hr ?_;(case hd => rfl);(case hg => rfl);(case hr => first | (go_simp;done) | (go_simp;rfl));intro gb109 hg w10 hbox hb;have n0_ := aZ_ (IsS90.below T13_ hb);have n1_ := aZ_ (blk_below (g := gb101) (o := .cells #[.int .i64 0,.int .i64 0] 25 (0,0)) T3_ hb);have n2_ := aZ_ (KeepBut.trans T8_ (KeepBut.of_below hb g none) (.inl rfl));have n3_ := aZ_ (below_step T14_ hb);have n4_ := aZ_ (hbox);have n5_ := aZ_ ((T29_ : w.heap.size ≤ gb109));have n6_ := aZ_ ((Nat.le_trans HW0.out (T29_ : w.heap.size ≤ gb109) : w0.heap.size ≤ gb109));have n7_ := aZ_ ((T19_ : gb101 ≠ gb109));have n8_ := aZ_ ((T20_ : gb109 ≠ gb101));have n9_ := aZ_ ((T40_ : g ≠ gb109));have n10_ := aZ_ ((T41_ : gb109 ≠ g));clear HI0;clear BK101;clear HK;clear HB;have HI0 := n0_;have BK101 := n1_;have HK := n2_;have HB := n3_;have BK109 := n4_;have GW109 := n5_;have GE109 := n6_;have NB101_109 := n7_;have NB109_101 := n8_;have NB0_109 := n9_;have NB109_0 := n10_;clear n0_ n1_ n2_ n3_ n4_ n5_ n6_ n7_ n8_ n9_ n10_;clear hb hbox hg;have hnb11 := NB109_101.out;have hnc11 := NB101_109.out;have hnb12 := NB109_0.out;have hnc12 := NB0_109.out;have hcz13_0 : w10.cell? ⟨gb109,0,none⟩ = some (.int .i64 0) := (blk_cell BK109.out 0).trans rfl;have hcz13_1 : w10.cell? ⟨gb109,1,none⟩ = some (.int .i64 0) := (blk_cell BK109.out 1).trans rfl;have hfz13_0 := blk_frozen BK109.out 0;have hfz13_1 := blk_frozen BK109.out 1) | ((with_reducible refine gate_callee (f := 62) rfl ?_);refine goesL_ (some 9) rfl rfl Try.func62 T15_ rfl #[.pointer (some ⟨g,0,none⟩),.int .i64 14] rfl T4_ ?_;(with_reducible refine (spec_l1Below.calls g s0_0 t107 t108 14 t110 t111 t112 w0 _ ?side1 ?side2 A4.out).mono ?_);(case side1 => repeat (first | (with_reducible first | exact HI0.out | apply IsS90.alloc | apply IsS90.drewN | apply IsS90.drew | apply IsS90.set_1 | apply IsS90.set_2 | refine IsS90.far ?_ NB0_101.out _ | refine IsS90.far ?_ NB0_109.out _) | exact HI0.out));(case side2 => repeat (first | (with_reducible first | exact HB.out | apply below_alloc | apply pw_below_drewN | apply below_drew1 | refine below_set ?_ (IsS90.ge HI0.out) | refine below_set ?_ GE101.out | refine below_set ?_ GE109.out) | exact HB.out));rintro e w14 ⟨rfl,hi,hb,hk⟩;refine ⟨_,rfl,?_⟩;have n0_ := aZ_ (KeepBut.blk hk (g' := gb101) (o := .cells #[.int .i64 0,.int .i64 0] 25 (0,0)) T34_ NB101_0.out T49_);have n1_ := aZ_ (KeepBut.blk hk (g' := gb109) (o := .cells #[.int .i64 t105,.int .i64 t106] 25 (0,0)) T32_ NB109_0.out T49_);have n2_ := aZ_ (KeepBut.trans T26_ hk (.inl rfl));have n3_ := aZ_ (hb);have n4_ := aZ_ (hi);clear BK101;clear BK109;clear HK;clear HB;clear HI0;have BK101 := n0_;have BK109 := n1_;have HK := n2_;have HB := n3_;have HI0 := n4_;clear n0_ n1_ n2_ n3_ n4_;(try clear hb);(try clear hb2);(try clear hk);(try clear hi)) | ((with_reducible refine gate_dst (N := 13) rfl ?_);refine Kd.R_lit (Kd.int .i64) _ 3 ?hg (N := 13) ?hd (xs := ([(-1),6,5,0,9223372036854775807] : List Int)) (inner := [.int .i64 (-1),.int .i64 6,.int .i64 5,.int .i64 0,.int .i64 9223372036854775807]) (ok := fun _ => True) (okp := fun _ => True) ?hr ?hp (fun _ hk => hk) trivial (Below.refl _ _) (Nat.le_refl _) T49_ ?_;(case hd => rfl);(case hg => rfl);(case hr => first | (go_simp;done) | (go_simp;rfl));(case hp => exact (Reps.one (show Kd.M (Kd.int .i64) _ _ _ (-1) [.int .i64 (-1)] from rfl) (Reps.one (show Kd.M (Kd.int .i64) _ _ _ 6 [.int .i64 6] from rfl) (Reps.one (show Kd.M (Kd.int .i64) _ _ _ 5 [.int .i64 5] from rfl) (Reps.one (show Kd.M (Kd.int .i64) _ _ _ 0 [.int .i64 0] from rfl) (Reps.one (show Kd.M (Kd.int .i64) _ _ _ 9223372036854775807 [.int .i64 9223372036854775807] from rfl) (Reps.none _ _)))))));intro v114 w15 ho16 hb hg_ hnew_;clear hg_ hnew_;(first | rw [← Ny113.out] at ho16 | (simp only [Int.reduceToNat] at ho16;rw [← Ny113.out] at ho16));have n0_ := aZ_ (Kd.R_lower ho16 (keep_size (w := w) (g := g) (row := none) T26_));have n1_ := aZ_ (IsS90.below T55_ hb);have n2_ := aZ_ (blk_below (g := gb101) (o := .cells #[.int .i64 0,.int .i64 0] 25 (0,0)) T3_ hb);have n3_ := aZ_ (blk_below (g := gb109) (o := .cells #[.int .i64 t105,.int .i64 t106] 25 (0,0)) T58_ hb);have n4_ := aZ_ (KeepBut.trans T26_ (KeepBut.of_below hb g none) (.inl rfl));have n5_ := aZ_ (below_step T57_ hb);clear HI0;clear BK101;clear BK109;clear HK;clear HB;have HO115 := n0_;have HI0 := n1_;have BK101 := n2_;have BK109 := n3_;have HK := n4_;have HB := n5_;clear n0_ n1_ n2_ n3_ n4_ n5_;clear hb ho16;obtain ⟨Ao17,co17,eo17⟩ := Kd.R_slice HO115.out;subst eo17) | ((with_reducible refine gate_callee (f := 64) rfl ?_);refine goesL_ (some 14) rfl rfl Try.func64 T15_ rfl #[.pointer (some ⟨g,0,none⟩),.slice Ao17 y113.length co17] rfl T4_ ?_;(with_reducible refine (spec_l1PickInt.calls g s0_0 t111 t112 _ _ y113 t116 t117 t118 w0 _ ?side1 ?side2 ?side3 ?side4 ?side5 A6.out).mono ?_);(case side1 => repeat (first | (with_reducible first | exact HI0.out | apply IsS90.alloc | apply IsS90.drewN | apply IsS90.drew | apply IsS90.set_1 | apply IsS90.set_2 | refine IsS90.far ?_ NB0_101.out _ | refine IsS90.far ?_ NB0_109.out _) | exact HI0.out));(case side2 => repeat (first | (with_reducible first | exact HB.out | apply below_alloc | apply pw_below_drewN | apply below_drew1 | refine below_set ?_ (IsS90.ge HI0.out) | refine below_set ?_ GE101.out | refine below_set ?_ GE109.out) | exact HB.out));(case side3 => repeat (first | exact (Kd.R_reads' HO115.out).2.2 | (with_reducible refine Kd.C_alloc ?_ _) | (with_reducible refine Kd.C_drewN ?_ _) | (with_reducible refine Kd.C_drew ?_)));(case side4 => exact (Kd.R_reads' HO115.out).2.1);(case side5 => exact far_slice (IsS90.own_ne HI0.out HO115.out T48_));rintro e w18 ⟨rfl,hi,hb,hk⟩;refine ⟨_,rfl,?_⟩;have n0_ := aZ_ (KeepBut.blk hk (g' := gb101) (o := .cells #[.int .i64 0,.int .i64 0] 25 (0,0)) T3_ NB101_0.out T49_);have n1_ := aZ_ (KeepBut.blk hk (g' := gb109) (o := .cells #[.int .i64 t105,.int .i64 t106] 25 (0,0)) T58_ NB109_0.out T49_);have n2_ := aZ_ (Kd.R_mono (Kd.R_keep (IsS90.apart (show IsS90 w0 _ g s0_0 t111 t112 from by repeat (first | (with_reducible first | exact HI0.out | apply IsS90.alloc | apply IsS90.drewN | apply IsS90.drew | apply IsS90.set_1 | apply IsS90.set_2 | refine IsS90.far ?_ NB0_101.out _ | refine IsS90.far ?_ NB0_109.out _) | exact HI0.out)) (by (with_reducible repeat (first | apply Kd.R_alloc | apply Kd.R_drewN | apply Kd.R_drew));exact HO115.out) T48_) hk (fun _ h => h.2)) (fun _ h => h.1));have n3_ := aZ_ (KeepBut.trans T26_ hk (.inl rfl));have n4_ := aZ_ (hb);have n5_ := aZ_ (hi);clear BK101;clear BK109;clear HO115;clear HK;clear HB;clear HI0;have BK101 := n0_;have BK109 := n1_;have HO115 := n2_;have HK := n3_;have HB := n4_;have HI0 := n5_;clear n0_ n1_ n2_ n3_ n4_ n5_;(try clear hb);(try clear hb2);(try clear hk);(try clear hi);have hcz19_0 : w18.cell? ⟨gb109,0,none⟩ = some (.int .i64 t105) := (blk_cell BK109.out 0).trans rfl;have hcz19_1 : w18.cell? ⟨gb109,1,none⟩ = some (.int .i64 t106) := (blk_cell BK109.out 1).trans rfl;have hfz19_0 := blk_frozen BK109.out 0;have hfz19_1 := blk_frozen BK109.out 1;have hnb20 := NB101_0.out;have hnc20 := NB0_101.out;have hcz21_0 : w18.cell? ⟨gb101,0,none⟩ = some (.int .i64 0) := (blk_cell BK101.out 0).trans rfl;have hcz21_1 : w18.cell? ⟨gb101,1,none⟩ = some (.int .i64 0) := (blk_cell BK101.out 1).trans rfl;have hfz21_0 := blk_frozen BK101.out 0;have hfz21_1 := blk_frozen BK101.out 1))
  refine bodyPost_ret (results_cell_row rfl _ _ gb101 25 #[.int .i64 t116,.int .i64 t106] (0,0) _ rfl (by (with_reducible repeat (first | refine blk_drewN ?_ _ | refine blk_drew ?_ | refine blk_alloc ?_ _));refine blk_put (cs := #[.int .i64 t116,.int .i64 0]) ?_ 1 _ rfl;(with_reducible repeat (first | refine blk_drewN ?_ _ | refine blk_drew ?_ | refine blk_alloc ?_ _));refine blk_put (cs := #[.int .i64 0,.int .i64 0]) ?_ 0 _ rfl;(with_reducible repeat (first | refine blk_drewN ?_ _ | refine blk_drew ?_ | refine blk_alloc ?_ _));refine blk_far ?_ NB101_109.out _;(with_reducible repeat (first | refine blk_drewN ?_ _ | refine blk_drew ?_ | refine blk_alloc ?_ _));exact BK101.out) Try.underlying25 rfl T15_) rfl ?_
  exact ⟨by first | rfl | (simp [errW_none,errW_some] <;> rfl) | (simp [*,errW_none,errW_some] <;> rfl),by repeat (first | (with_reducible first | exact HI0.out | apply IsS90.alloc | apply IsS90.drewN | apply IsS90.drew | apply IsS90.set_1 | apply IsS90.set_2 | refine IsS90.far ?_ NB0_101.out _ | refine IsS90.far ?_ NB0_109.out _) | exact HI0.out),by repeat (first | (with_reducible first | exact HB.out | apply below_alloc | apply pw_below_drewN | apply below_drew1 | refine below_set ?_ (IsS90.ge HI0.out) | refine below_set ?_ GE101.out | refine below_set ?_ GE109.out) | exact HB.out),by repeat (first | (with_reducible first | exact HK.out | apply KeepBut.set_ | apply keep_drewN | apply keep_drew | apply keep_alloc | refine keep_far ?_ GW101.out _ | refine keep_far ?_ GW109.out _) | exact HK.out)⟩
 ·rw [if_neg c5] at H
  have c5b0 : (t110 == 0) = false := beq_eq_false_iff_ne.mpr c5
  have c5b1 : (t110 != 0) = true := bne_iff_ne.mpr c5
  by_cases c22 : t110 = 1
  ·rw [if_pos c22] at H
   have c22b0 : (t110 == 1) = true := beq_iff_eq.mpr c22
   have c22b1 : (t110 != 1) = false := bne_eq_false_iff_eq.mpr c22
   clear c22
   obtain ⟨y119,hy119⟩ : ∃ y_ : List Int,y_ = (([(-1),0,1,65536,9223372036854775807] : List Int)) := ⟨_,rfl⟩
   replace H : ((spec_l1PickInt.f s0_0 t111 t112 y119).bind fun bt122 => (some (t105,bt122.1,bt122.2.1,bt122.2.2))) = some (r1,r2,r3,r4) := by first | (rw [hy119];with_reducible exact H) | (have H2_ := (Option.bind_some _ _).symm.trans H;rw [hy119];with_reducible exact H2_) | (have H2_ := (Option.bind_some _ _).symm.trans H;with_reducible exact H2_) | with_reducible exact H | (rw [hy119];exact H) | exact H
   have Ny119 := aZ_ hy119
   clear hy119
   replace H := Option.bind_eq_some_iff.mp H
   obtain ⟨⟨t122,t123,t124⟩,A230,H⟩ := H
   replace H : (some (t105,t122,t123,t124)) = some (r1,r2,r3,r4) := H
   have A23 := aZ_ A230
   clear A230
   simp only [Option.some.injEq,Prod.mk.injEq] at H
   obtain ⟨rfl,rfl,rfl,rfl⟩ := H
   go_enter Try.func81,Try.ntmps81
   go_wp2_with (first | ((with_reducible refine gate_dst (N := 2) rfl ?_);refine box_event ?hg (N := 2) ?hd (cs := #[.int .i64 0,.int .i64 0]) (t := 25) ?hr ?_;(case hd => rfl);(case hg => rfl);(case hr => first | (go_simp;done) | (go_simp;rfl));intro gb101 hg w24 hbox hb;have n0_ := aZ_ (IsS90.below T28_ hb);have n1_ := aZ_ (KeepBut.trans T22_ (KeepBut.of_below hb g none) (.inl rfl));have n2_ := aZ_ (below_step T27_ hb);have n3_ := aZ_ (hbox);have n4_ := aZ_ ((T12_ : w.heap.size ≤ gb101));have n5_ := aZ_ ((Nat.le_trans HW0.out (T12_ : w.heap.size ≤ gb101) : w0.heap.size ≤ gb101));have n6_ := aZ_ ((T23_ : g ≠ gb101));have n7_ := aZ_ ((T24_ : gb101 ≠ g));clear HI0;clear HK;clear HB;have HI0 := n0_;have HK := n1_;have HB := n2_;have BK101 := n3_;have GW101 := n4_;have GE101 := n5_;have NB0_101 := n6_;have NB101_0 := n7_;clear n0_ n1_ n2_ n3_ n4_ n5_ n6_ n7_;clear hb hbox hg) | ((with_reducible refine gate_callee (f := 62) rfl ?_);refine goesL_ (some 6) rfl rfl Try.func62 T15_ rfl #[.pointer (some ⟨g,0,none⟩),.int .i64 5] rfl T4_ ?_;(with_reducible refine (spec_l1Below.calls g s0_0 s0_1 s0_2 5 t102 t103 t104 w0 _ ?side1 ?side2 A2.out).mono ?_);(case side1 => repeat (first | (with_reducible first | exact HI0.out | apply IsS90.alloc | apply IsS90.drewN | apply IsS90.drew | apply IsS90.set_1 | apply IsS90.set_2 | refine IsS90.far ?_ NB0_101.out _) | exact HI0.out));(case side2 => repeat (first | (with_reducible first | exact HB.out | apply below_alloc | apply pw_below_drewN | apply below_drew1 | refine below_set ?_ (IsS90.ge HI0.out) | refine below_set ?_ GE101.out) | exact HB.out));rintro e w25 ⟨rfl,hi,hb,hk⟩;refine ⟨_,rfl,?_⟩;have n0_ := aZ_ (KeepBut.blk hk (g' := gb101) (o := .cells #[.int .i64 0,.int .i64 0] 25 (0,0)) T3_ NB101_0.out T49_);have n1_ := aZ_ (KeepBut.trans T8_ hk (.inl rfl));have n2_ := aZ_ (hb);have n3_ := aZ_ (hi);clear BK101;clear HK;clear HB;clear HI0;have BK101 := n0_;have HK := n1_;have HB := n2_;have HI0 := n3_;clear n0_ n1_ n2_ n3_;(try clear hb);(try clear hb2);(try clear hk);(try clear hi)) | ((with_reducible refine gate_callee (f := 90) rfl ?_);refine goesL_ (some 7) rfl rfl Try.func90 T15_ rfl #[.pointer (some ⟨g,0,none⟩),.int .i64 t102] rfl T4_ ?_;(with_reducible refine (spec_l2Draw.calls k g s0_0 t103 t104 t102 t105 t106 t107 t108 w0 _ ?side1 ?side2 A3.out).mono ?_);(case side1 => repeat (first | (with_reducible first | exact HI0.out | apply IsS90.alloc | apply IsS90.drewN | apply IsS90.drew | apply IsS90.set_1 | apply IsS90.set_2 | refine IsS90.far ?_ NB0_101.out _) | exact HI0.out));(case side2 => repeat (first | (with_reducible first | exact HB.out | apply below_alloc | apply pw_below_drewN | apply below_drew1 | refine below_set ?_ (IsS90.ge HI0.out) | refine below_set ?_ GE101.out) | exact HB.out));rintro e w26 ⟨rfl,hi,hb,hk⟩;refine ⟨_,rfl,?_⟩;have n0_ := aZ_ (KeepBut.blk hk (g' := gb101) (o := .cells #[.int .i64 0,.int .i64 0] 25 (0,0)) T3_ NB101_0.out T49_);have n1_ := aZ_ (KeepBut.trans T8_ hk (.inl rfl));have n2_ := aZ_ (hb);have n3_ := aZ_ (hi);clear BK101;clear HK;clear HB;clear HI0;have BK101 := n0_;have HK := n1_;have HB := n2_;have HI0 := n3_;clear n0_ n1_ n2_ n3_;(try clear hb);(try clear hb2);(try clear hk);(try clear hi)) | ((with_reducible refine gate_dst (N := 3) rfl ?_);refine box_event ?hg (N := 3) ?hd (cs := #[.int .i64 0,.int .i64 0]) (t := 25) ?hr ?_;(case hd => rfl);(case hg => rfl);(case hr => first | (go_simp;done) | (go_simp;rfl));intro gb109 hg w27 hbox hb;have n0_ := aZ_ (IsS90.below T13_ hb);have n1_ := aZ_ (blk_below (g := gb101) (o := .cells #[.int .i64 0,.int .i64 0] 25 (0,0)) T3_ hb);have n2_ := aZ_ (KeepBut.trans T8_ (KeepBut.of_below hb g none) (.inl rfl));have n3_ := aZ_ (below_step T14_ hb);have n4_ := aZ_ (hbox);have n5_ := aZ_ ((T29_ : w.heap.size ≤ gb109));have n6_ := aZ_ ((Nat.le_trans HW0.out (T29_ : w.heap.size ≤ gb109) : w0.heap.size ≤ gb109));have n7_ := aZ_ ((T19_ : gb101 ≠ gb109));have n8_ := aZ_ ((T20_ : gb109 ≠ gb101));have n9_ := aZ_ ((T40_ : g ≠ gb109));have n10_ := aZ_ ((T41_ : gb109 ≠ g));clear HI0;clear BK101;clear HK;clear HB;have HI0 := n0_;have BK101 := n1_;have HK := n2_;have HB := n3_;have BK109 := n4_;have GW109 := n5_;have GE109 := n6_;have NB101_109 := n7_;have NB109_101 := n8_;have NB0_109 := n9_;have NB109_0 := n10_;clear n0_ n1_ n2_ n3_ n4_ n5_ n6_ n7_ n8_ n9_ n10_;clear hb hbox hg;have hnb28 := NB109_101.out;have hnc28 := NB101_109.out;have hnb29 := NB109_0.out;have hnc29 := NB0_109.out;have hcz30_0 : w27.cell? ⟨gb109,0,none⟩ = some (.int .i64 0) := (blk_cell BK109.out 0).trans rfl;have hcz30_1 : w27.cell? ⟨gb109,1,none⟩ = some (.int .i64 0) := (blk_cell BK109.out 1).trans rfl;have hfz30_0 := blk_frozen BK109.out 0;have hfz30_1 := blk_frozen BK109.out 1) | ((with_reducible refine gate_callee (f := 62) rfl ?_);refine goesL_ (some 9) rfl rfl Try.func62 T15_ rfl #[.pointer (some ⟨g,0,none⟩),.int .i64 14] rfl T4_ ?_;(with_reducible refine (spec_l1Below.calls g s0_0 t107 t108 14 t110 t111 t112 w0 _ ?side1 ?side2 A4.out).mono ?_);(case side1 => repeat (first | (with_reducible first | exact HI0.out | apply IsS90.alloc | apply IsS90.drewN | apply IsS90.drew | apply IsS90.set_1 | apply IsS90.set_2 | refine IsS90.far ?_ NB0_101.out _ | refine IsS90.far ?_ NB0_109.out _) | exact HI0.out));(case side2 => repeat (first | (with_reducible first | exact HB.out | apply below_alloc | apply pw_below_drewN | apply below_drew1 | refine below_set ?_ (IsS90.ge HI0.out) | refine below_set ?_ GE101.out | refine below_set ?_ GE109.out) | exact HB.out));rintro e w31 ⟨rfl,hi,hb,hk⟩;refine ⟨_,rfl,?_⟩;have n0_ := aZ_ (KeepBut.blk hk (g' := gb101) (o := .cells #[.int .i64 0,.int .i64 0] 25 (0,0)) T34_ NB101_0.out T49_);have n1_ := aZ_ (KeepBut.blk hk (g' := gb109) (o := .cells #[.int .i64 t105,.int .i64 t106] 25 (0,0)) T32_ NB109_0.out T49_);have n2_ := aZ_ (KeepBut.trans T26_ hk (.inl rfl));have n3_ := aZ_ (hb);have n4_ := aZ_ (hi);clear BK101;clear BK109;clear HK;clear HB;clear HI0;have BK101 := n0_;have BK109 := n1_;have HK := n2_;have HB := n3_;have HI0 := n4_;clear n0_ n1_ n2_ n3_ n4_;(try clear hb);(try clear hb2);(try clear hk);(try clear hi)) | ((with_reducible refine gate_dst (N := 19) rfl ?_);refine Kd.R_lit (Kd.int .i64) _ 3 ?hg (N := 19) ?hd (xs := ([(-1),0,1,65536,9223372036854775807] : List Int)) (inner := [.int .i64 (-1),.int .i64 0,.int .i64 1,.int .i64 65536,.int .i64 9223372036854775807]) (ok := fun _ => True) (okp := fun _ => True) ?hr ?hp (fun _ hk => hk) trivial (Below.refl _ _) (Nat.le_refl _) T49_ ?_;(case hd => rfl);(case hg => rfl);(case hr => first | (go_simp;done) | (go_simp;rfl));(case hp => exact (Reps.one (show Kd.M (Kd.int .i64) _ _ _ (-1) [.int .i64 (-1)] from rfl) (Reps.one (show Kd.M (Kd.int .i64) _ _ _ 0 [.int .i64 0] from rfl) (Reps.one (show Kd.M (Kd.int .i64) _ _ _ 1 [.int .i64 1] from rfl) (Reps.one (show Kd.M (Kd.int .i64) _ _ _ 65536 [.int .i64 65536] from rfl) (Reps.one (show Kd.M (Kd.int .i64) _ _ _ 9223372036854775807 [.int .i64 9223372036854775807] from rfl) (Reps.none _ _)))))));intro v120 w32 ho33 hb hg_ hnew_;clear hg_ hnew_;(first | rw [← Ny119.out] at ho33 | (simp only [Int.reduceToNat] at ho33;rw [← Ny119.out] at ho33));have n0_ := aZ_ (Kd.R_lower ho33 (keep_size (w := w) (g := g) (row := none) T26_));have n1_ := aZ_ (IsS90.below T55_ hb);have n2_ := aZ_ (blk_below (g := gb101) (o := .cells #[.int .i64 0,.int .i64 0] 25 (0,0)) T3_ hb);have n3_ := aZ_ (blk_below (g := gb109) (o := .cells #[.int .i64 t105,.int .i64 t106] 25 (0,0)) T58_ hb);have n4_ := aZ_ (KeepBut.trans T26_ (KeepBut.of_below hb g none) (.inl rfl));have n5_ := aZ_ (below_step T57_ hb);clear HI0;clear BK101;clear BK109;clear HK;clear HB;have HO121 := n0_;have HI0 := n1_;have BK101 := n2_;have BK109 := n3_;have HK := n4_;have HB := n5_;clear n0_ n1_ n2_ n3_ n4_ n5_;clear hb ho33;obtain ⟨Ao34,co34,eo34⟩ := Kd.R_slice HO121.out;subst eo34) | ((with_reducible refine gate_callee (f := 64) rfl ?_);refine goesL_ (some 20) rfl rfl Try.func64 T15_ rfl #[.pointer (some ⟨g,0,none⟩),.slice Ao34 y119.length co34] rfl T4_ ?_;(with_reducible refine (spec_l1PickInt.calls g s0_0 t111 t112 _ _ y119 t122 t123 t124 w0 _ ?side1 ?side2 ?side3 ?side4 ?side5 A23.out).mono ?_);(case side1 => repeat (first | (with_reducible first | exact HI0.out | apply IsS90.alloc | apply IsS90.drewN | apply IsS90.drew | apply IsS90.set_1 | apply IsS90.set_2 | refine IsS90.far ?_ NB0_101.out _ | refine IsS90.far ?_ NB0_109.out _) | exact HI0.out));(case side2 => repeat (first | (with_reducible first | exact HB.out | apply below_alloc | apply pw_below_drewN | apply below_drew1 | refine below_set ?_ (IsS90.ge HI0.out) | refine below_set ?_ GE101.out | refine below_set ?_ GE109.out) | exact HB.out));(case side3 => repeat (first | exact (Kd.R_reads' HO121.out).2.2 | (with_reducible refine Kd.C_alloc ?_ _) | (with_reducible refine Kd.C_drewN ?_ _) | (with_reducible refine Kd.C_drew ?_)));(case side4 => exact (Kd.R_reads' HO121.out).2.1);(case side5 => exact far_slice (IsS90.own_ne HI0.out HO121.out T48_));rintro e w35 ⟨rfl,hi,hb,hk⟩;refine ⟨_,rfl,?_⟩;have n0_ := aZ_ (KeepBut.blk hk (g' := gb101) (o := .cells #[.int .i64 0,.int .i64 0] 25 (0,0)) T3_ NB101_0.out T49_);have n1_ := aZ_ (KeepBut.blk hk (g' := gb109) (o := .cells #[.int .i64 t105,.int .i64 t106] 25 (0,0)) T58_ NB109_0.out T49_);have n2_ := aZ_ (Kd.R_mono (Kd.R_keep (IsS90.apart (show IsS90 w0 _ g s0_0 t111 t112 from by repeat (first | (with_reducible first | exact HI0.out | apply IsS90.alloc | apply IsS90.drewN | apply IsS90.drew | apply IsS90.set_1 | apply IsS90.set_2 | refine IsS90.far ?_ NB0_101.out _ | refine IsS90.far ?_ NB0_109.out _) | exact HI0.out)) (by (with_reducible repeat (first | apply Kd.R_alloc | apply Kd.R_drewN | apply Kd.R_drew));exact HO121.out) T48_) hk (fun _ h => h.2)) (fun _ h => h.1));have n3_ := aZ_ (KeepBut.trans T26_ hk (.inl rfl));have n4_ := aZ_ (hb);have n5_ := aZ_ (hi);clear BK101;clear BK109;clear HO121;clear HK;clear HB;clear HI0;have BK101 := n0_;have BK109 := n1_;have HO121 := n2_;have HK := n3_;have HB := n4_;have HI0 := n5_;clear n0_ n1_ n2_ n3_ n4_ n5_;(try clear hb);(try clear hb2);(try clear hk);(try clear hi);have hcz36_0 : w35.cell? ⟨gb109,0,none⟩ = some (.int .i64 t105) := (blk_cell BK109.out 0).trans rfl;have hcz36_1 : w35.cell? ⟨gb109,1,none⟩ = some (.int .i64 t106) := (blk_cell BK109.out 1).trans rfl;have hfz36_0 := blk_frozen BK109.out 0;have hfz36_1 := blk_frozen BK109.out 1;have hnb37 := NB101_0.out;have hnc37 := NB0_101.out;have hcz38_0 : w35.cell? ⟨gb101,0,none⟩ = some (.int .i64 0) := (blk_cell BK101.out 0).trans rfl;have hcz38_1 : w35.cell? ⟨gb101,1,none⟩ = some (.int .i64 0) := (blk_cell BK101.out 1).trans rfl;have hfz38_0 := blk_frozen BK101.out 0;have hfz38_1 := blk_frozen BK101.out 1))
   refine bodyPost_ret (results_cell_row rfl _ _ gb101 25 #[.int .i64 t105,.int .i64 t122] (0,0) _ rfl (by (with_reducible repeat (first | refine blk_drewN ?_ _ | refine blk_drew ?_ | refine blk_alloc ?_ _));refine blk_put (cs := #[.int .i64 t105,.int .i64 0]) ?_ 1 _ rfl;(with_reducible repeat (first | refine blk_drewN ?_ _ | refine blk_drew ?_ | refine blk_alloc ?_ _));refine blk_put (cs := #[.int .i64 0,.int .i64 0]) ?_ 0 _ rfl;(with_reducible repeat (first | refine blk_drewN ?_ _ | refine blk_drew ?_ | refine blk_alloc ?_ _));refine blk_far ?_ NB101_109.out _;(with_reducible repeat (first | refine blk_drewN ?_ _ | refine blk_drew ?_ | refine blk_alloc ?_ _));exact BK101.out) Try.underlying25 rfl T15_) rfl ?_
   exact ⟨by first | rfl | (simp [errW_none,errW_some] <;> rfl) | (simp [*,errW_none,errW_some] <;> rfl),by repeat (first | (with_reducible first | exact HI0.out | apply IsS90.alloc | apply IsS90.drewN | apply IsS90.drew | apply IsS90.set_1 | apply IsS90.set_2 | refine IsS90.far ?_ NB0_101.out _ | refine IsS90.far ?_ NB0_109.out _) | exact HI0.out),by repeat (first | (with_reducible first | exact HB.out | apply below_alloc | apply pw_below_drewN | apply below_drew1 | refine below_set ?_ (IsS90.ge HI0.out) | refine below_set ?_ GE101.out | refine below_set ?_ GE109.out) | exact HB.out),by repeat (first | (with_reducible first | exact HK.out | apply KeepBut.set_ | apply keep_drewN | apply keep_drew | apply keep_alloc | refine keep_far ?_ GW101.out _ | refine keep_far ?_ GW109.out _) | exact HK.out)⟩
  ·rw [if_neg c22] at H
   have c22b0 : (t110 == 1) = false := beq_eq_false_iff_ne.mpr c22
   have c22b1 : (t110 != 1) = true := bne_iff_ne.mpr c22
   simp only [Option.some.injEq,Prod.mk.injEq] at H
   obtain ⟨rfl,rfl,rfl,rfl⟩ := H
   go_enter Try.func81,Try.ntmps81
   go_wp2_with (first | ((with_reducible refine gate_dst (N := 2) rfl ?_);refine box_event ?hg (N := 2) ?hd (cs := #[.int .i64 0,.int .i64 0]) (t := 25) ?hr ?_;(case hd => rfl);(case hg => rfl);(case hr => first | (go_simp;done) | (go_simp;rfl));intro gb101 hg w39 hbox hb;have n0_ := aZ_ (IsS90.below T28_ hb);have n1_ := aZ_ (KeepBut.trans T22_ (KeepBut.of_below hb g none) (.inl rfl));have n2_ := aZ_ (below_step T27_ hb);have n3_ := aZ_ (hbox);have n4_ := aZ_ ((T12_ : w.heap.size ≤ gb101));have n5_ := aZ_ ((Nat.le_trans HW0.out (T12_ : w.heap.size ≤ gb101) : w0.heap.size ≤ gb101));have n6_ := aZ_ ((T23_ : g ≠ gb101));have n7_ := aZ_ ((T24_ : gb101 ≠ g));clear HI0;clear HK;clear HB;have HI0 := n0_;have HK := n1_;have HB := n2_;have BK101 := n3_;have GW101 := n4_;have GE101 := n5_;have NB0_101 := n6_;have NB101_0 := n7_;clear n0_ n1_ n2_ n3_ n4_ n5_ n6_ n7_;clear hb hbox hg) | ((with_reducible refine gate_callee (f := 62) rfl ?_);refine goesL_ (some 6) rfl rfl Try.func62 T15_ rfl #[.pointer (some ⟨g,0,none⟩),.int .i64 5] rfl T4_ ?_;(with_reducible refine (spec_l1Below.calls g s0_0 s0_1 s0_2 5 t102 t103 t104 w0 _ ?side1 ?side2 A2.out).mono ?_);(case side1 => repeat (first | (with_reducible first | exact HI0.out | apply IsS90.alloc | apply IsS90.drewN | apply IsS90.drew | apply IsS90.set_1 | apply IsS90.set_2 | refine IsS90.far ?_ NB0_101.out _) | exact HI0.out));(case side2 => repeat (first | (with_reducible first | exact HB.out | apply below_alloc | apply pw_below_drewN | apply below_drew1 | refine below_set ?_ (IsS90.ge HI0.out) | refine below_set ?_ GE101.out) | exact HB.out));rintro e w40 ⟨rfl,hi,hb,hk⟩;refine ⟨_,rfl,?_⟩;have n0_ := aZ_ (KeepBut.blk hk (g' := gb101) (o := .cells #[.int .i64 0,.int .i64 0] 25 (0,0)) T3_ NB101_0.out T49_);have n1_ := aZ_ (KeepBut.trans T8_ hk (.inl rfl));have n2_ := aZ_ (hb);have n3_ := aZ_ (hi);clear BK101;clear HK;clear HB;clear HI0;have BK101 := n0_;have HK := n1_;have HB := n2_;have HI0 := n3_;clear n0_ n1_ n2_ n3_;(try clear hb);(try clear hb2);(try clear hk);(try clear hi)) | ((with_reducible refine gate_callee (f := 90) rfl ?_);refine goesL_ (some 7) rfl rfl Try.func90 T15_ rfl #[.pointer (some ⟨g,0,none⟩),.int .i64 t102] rfl T4_ ?_;(with_reducible refine (spec_l2Draw.calls k g s0_0 t103 t104 t102 t105 t106 t107 t108 w0 _ ?side1 ?side2 A3.out).mono ?_);(case side1 => repeat (first | (with_reducible first | exact HI0.out | apply IsS90.alloc | apply IsS90.drewN | apply IsS90.drew | apply IsS90.set_1 | apply IsS90.set_2 | refine IsS90.far ?_ NB0_101.out _) | exact HI0.out));(case side2 => repeat (first | (with_reducible first | exact HB.out | apply below_alloc | apply pw_below_drewN | apply below_drew1 | refine below_set ?_ (IsS90.ge HI0.out) | refine below_set ?_ GE101.out) | exact HB.out));rintro e w41 ⟨rfl,hi,hb,hk⟩;refine ⟨_,rfl,?_⟩;have n0_ := aZ_ (KeepBut.blk hk (g' := gb101) (o := .cells #[.int .i64 0,.int .i64 0] 25 (0,0)) T3_ NB101_0.out T49_);have n1_ := aZ_ (KeepBut.trans T8_ hk (.inl rfl));have n2_ := aZ_ (hb);have n3_ := aZ_ (hi);clear BK101;clear HK;clear HB;clear HI0;have BK101 := n0_;have HK := n1_;have HB := n2_;have HI0 := n3_;clear n0_ n1_ n2_ n3_;(try clear hb);(try clear hb2);(try clear hk);(try clear hi)) | ((with_reducible refine gate_dst (N := 3) rfl ?_);refine box_event ?hg (N := 3) ?hd (cs := #[.int .i64 0,.int .i64 0]) (t := 25) ?hr ?_;(case hd => rfl);(case hg => rfl);(case hr => first | (go_simp;done) | (go_simp;rfl));intro gb109 hg w42 hbox hb;have n0_ := aZ_ (IsS90.below T13_ hb);have n1_ := aZ_ (blk_below (g := gb101) (o := .cells #[.int .i64 0,.int .i64 0] 25 (0,0)) T3_ hb);have n2_ := aZ_ (KeepBut.trans T8_ (KeepBut.of_below hb g none) (.inl rfl));have n3_ := aZ_ (below_step T14_ hb);have n4_ := aZ_ (hbox);have n5_ := aZ_ ((T29_ : w.heap.size ≤ gb109));have n6_ := aZ_ ((Nat.le_trans HW0.out (T29_ : w.heap.size ≤ gb109) : w0.heap.size ≤ gb109));have n7_ := aZ_ ((T19_ : gb101 ≠ gb109));have n8_ := aZ_ ((T20_ : gb109 ≠ gb101));have n9_ := aZ_ ((T40_ : g ≠ gb109));have n10_ := aZ_ ((T41_ : gb109 ≠ g));clear HI0;clear BK101;clear HK;clear HB;have HI0 := n0_;have BK101 := n1_;have HK := n2_;have HB := n3_;have BK109 := n4_;have GW109 := n5_;have GE109 := n6_;have NB101_109 := n7_;have NB109_101 := n8_;have NB0_109 := n9_;have NB109_0 := n10_;clear n0_ n1_ n2_ n3_ n4_ n5_ n6_ n7_ n8_ n9_ n10_;clear hb hbox hg;have hnb43 := NB109_101.out;have hnc43 := NB101_109.out;have hnb44 := NB109_0.out;have hnc44 := NB0_109.out;have hcz45_0 : w42.cell? ⟨gb109,0,none⟩ = some (.int .i64 0) := (blk_cell BK109.out 0).trans rfl;have hcz45_1 : w42.cell? ⟨gb109,1,none⟩ = some (.int .i64 0) := (blk_cell BK109.out 1).trans rfl;have hfz45_0 := blk_frozen BK109.out 0;have hfz45_1 := blk_frozen BK109.out 1) | ((with_reducible refine gate_callee (f := 62) rfl ?_);refine goesL_ (some 9) rfl rfl Try.func62 T15_ rfl #[.pointer (some ⟨g,0,none⟩),.int .i64 14] rfl T4_ ?_;(with_reducible refine (spec_l1Below.calls g s0_0 t107 t108 14 t110 t111 t112 w0 _ ?side1 ?side2 A4.out).mono ?_);(case side1 => repeat (first | (with_reducible first | exact HI0.out | apply IsS90.alloc | apply IsS90.drewN | apply IsS90.drew | apply IsS90.set_1 | apply IsS90.set_2 | refine IsS90.far ?_ NB0_101.out _ | refine IsS90.far ?_ NB0_109.out _) | exact HI0.out));(case side2 => repeat (first | (with_reducible first | exact HB.out | apply below_alloc | apply pw_below_drewN | apply below_drew1 | refine below_set ?_ (IsS90.ge HI0.out) | refine below_set ?_ GE101.out | refine below_set ?_ GE109.out) | exact HB.out));rintro e w46 ⟨rfl,hi,hb,hk⟩;refine ⟨_,rfl,?_⟩;have n0_ := aZ_ (KeepBut.blk hk (g' := gb101) (o := .cells #[.int .i64 0,.int .i64 0] 25 (0,0)) T34_ NB101_0.out T49_);have n1_ := aZ_ (KeepBut.blk hk (g' := gb109) (o := .cells #[.int .i64 t105,.int .i64 t106] 25 (0,0)) T32_ NB109_0.out T49_);have n2_ := aZ_ (KeepBut.trans T26_ hk (.inl rfl));have n3_ := aZ_ (hb);have n4_ := aZ_ (hi);clear BK101;clear BK109;clear HK;clear HB;clear HI0;have BK101 := n0_;have BK109 := n1_;have HK := n2_;have HB := n3_;have HI0 := n4_;clear n0_ n1_ n2_ n3_ n4_;(try clear hb);(try clear hb2);(try clear hk);(try clear hi);have hcz47_0 : w46.cell? ⟨gb109,0,none⟩ = some (.int .i64 t105) := (blk_cell BK109.out 0).trans rfl;have hcz47_1 : w46.cell? ⟨gb109,1,none⟩ = some (.int .i64 t106) := (blk_cell BK109.out 1).trans rfl;have hfz47_0 := blk_frozen BK109.out 0;have hfz47_1 := blk_frozen BK109.out 1;have hnb48 := NB101_0.out;have hnc48 := NB0_101.out;have hcz49_0 : w46.cell? ⟨gb101,0,none⟩ = some (.int .i64 0) := (blk_cell BK101.out 0).trans rfl;have hcz49_1 : w46.cell? ⟨gb101,1,none⟩ = some (.int .i64 0) := (blk_cell BK101.out 1).trans rfl;have hfz49_0 := blk_frozen BK101.out 0;have hfz49_1 := blk_frozen BK101.out 1))
   refine bodyPost_ret (results_cell_row rfl _ _ gb101 25 #[.int .i64 t105,.int .i64 t106] (0,0) _ rfl (by (with_reducible repeat (first | refine blk_drewN ?_ _ | refine blk_drew ?_ | refine blk_alloc ?_ _));refine blk_put (cs := #[.int .i64 t105,.int .i64 0]) ?_ 1 _ rfl;(with_reducible repeat (first | refine blk_drewN ?_ _ | refine blk_drew ?_ | refine blk_alloc ?_ _));refine blk_put (cs := #[.int .i64 0,.int .i64 0]) ?_ 0 _ rfl;(with_reducible repeat (first | refine blk_drewN ?_ _ | refine blk_drew ?_ | refine blk_alloc ?_ _));exact BK101.out) Try.underlying25 rfl T15_) rfl ?_
   exact ⟨by first | rfl | (simp [errW_none,errW_some] <;> rfl) | (simp [*,errW_none,errW_some] <;> rfl),by repeat (first | (with_reducible first | exact HI0.out | apply IsS90.alloc | apply IsS90.drewN | apply IsS90.drew | apply IsS90.set_1 | apply IsS90.set_2 | refine IsS90.far ?_ NB0_101.out _ | refine IsS90.far ?_ NB0_109.out _) | exact HI0.out),by repeat (first | (with_reducible first | exact HB.out | apply below_alloc | apply pw_below_drewN | apply below_drew1 | refine below_set ?_ (IsS90.ge HI0.out) | refine below_set ?_ GE101.out | refine below_set ?_ GE109.out) | exact HB.out),by repeat (first | (with_reducible first | exact HK.out | apply KeepBut.set_ | apply keep_drewN | apply keep_drew | apply keep_alloc | refine keep_far ?_ GW101.out _ | refine keep_far ?_ GW109.out _) | exact HK.out)⟩
def spec_l1New.l0 : Nat → List Int → Int → Int → Option (List Int × Int × Int)
 | 0,_,_,_ => none
 | k + 1,x0,x3,x4 => if x4 < (x0.length : Int) then (if x4 < 4000 then (if 0 ≤ x4 then (spec_l1New.l0 k x0 (Go.bits .and .i64 (wrap64 ((wrap64 ((wrap64 (x3 * 131)) + (wrap64 (rd x0 x4)))) + 7)) 1073741823) (wrap64 (x4 + 1))) else (none)) else (some (x0,0,x3))) else (some (x0,0,x3))
def spec_l1New.f (k : Nat) (l0 : List Int) : Option (List Int × Int × Int) := spec_l1New.l0 k l0 (wrap64 (10101 + (l0.length : Int))) 0
set_option maxHeartbeats 8000000 in
set_option maxRecDepth 100000 in
theorem spec_l1New.calls (k : Nat) (A0 : Option Addr) (c0 : Nat) (l0 : List Int) (r1 : List Int) (r2 : Int) (r3 : Int) (w0 w : World) (hB : Below w0.heap.size w0 w) (hr0 : Kd.C (Kd.int .u8) w0 A0 l0.length l0) (hc0 : l0.length ≤ c0) (h : spec_l1New.f k l0 = some (r1,r2,r3)) :
  Calls Try.prog 47 #[.slice A0 l0.length c0] w fun e w' => ∃ g_ : Nat,e = .returned (.pointer (some ⟨g_,0,none⟩)) ∧ IsS90 w0 w' g_ r1 r2 r3 ∧ Below w0.heap.size w0 w' ∧ Below w.heap.size w w' := by
 have hu90 := Try.underlying90
 have HR0 := aZ_ hr0
 have HC0 := aZ_ hc0
 clear hr0 hc0
 have HBW := aZ_ (Below.refl w.heap.size w)
 have HW0 := aZ_ hB.size
 have HB := aZ_ hB
 clear hB
 have H : (spec_l1New.l0 k l0 (wrap64 (10101 + (l0.length : Int))) 0) = some (r1,r2,r3) := h
 clear h
 have H' := aZ_ H
 clear H
 go_enter Try.func47,Try.ntmps47
 go_wp2
 go_loopg [3,4] k (fun kq v3 v4 w' => ∃ (x3_1 : Int) (x4_1 : Int),v3 = .int .i64 x3_1 ∧ v4 = .int .i64 x4_1 ∧ Aside0 (spec_l1New.l0 kq l0 x3_1 x4_1 = some (r1,r2,r3)) ∧ Aside0 (kq ≤ k) ∧ Aside0 (Below w0.heap.size w0 w') ∧ Aside0 (Below w.heap.size w w'))
 case atStart => exact ⟨(wrap64 (10101 + (l0.length : Int))),(0),T10_,T10_,H',⟨Nat.le_refl _⟩,⟨by repeat (first | (with_reducible first | exact HB.out | apply below_alloc | apply pw_below_drewN | apply below_drew1) | exact HB.out)⟩,HBW⟩
 case round =>
  clear H'
  obtain ⟨x3_1,x4_1,rfl,rfl,HA,HK1,HB,HBW⟩ := hrel
  cases gk with
  | zero => exact absurd HA.out (by simp [spec_l1New.l0])
  | succ k1 =>
   have H := HA.out
   clear HA
   simp only [spec_l1New.l0] at H
   by_cases c2 : x4_1 < (l0.length : Int)
   ·rw [if_pos c2] at H
    have c2b0 : decide (x4_1 < (l0.length : Int)) = true := decide_eq_true c2
    clear c2
    by_cases c3 : x4_1 < 4000
    ·rw [if_pos c3] at H
     have c3b0 : decide (x4_1 < 4000) = true := decide_eq_true c3
     clear c3
     by_cases c4 : 0 ≤ x4_1
     ·rw [if_pos c4] at H
      have c4b0 : decide (0 ≤ x4_1) = true := decide_eq_true c4
      clear c4
      have H' := aZ_ H
      clear H
      have p101 : 0 ≤ (x4_1 : Int) := of_decide_eq_true T6_
      have q101 : x4_1 < (l0.length : Int) := of_decide_eq_true T6_
      obtain ⟨ad101,e101,hx101_0⟩ := Kd.at_int HR0.out x4_1 p101 q101
      cases e101
      replace hx101_0 := pw_cell_below HB.out hx101_0
      replace p101 := eq_true p101
      replace q101 := eq_true q101
      go_wp2
      go_roundg k1
      case measure => have := HK1.out;omega
      case rel => exact ⟨(Go.bits .and .i64 (wrap64 ((wrap64 ((wrap64 (x3_1 * 131)) + (wrap64 (rd l0 x4_1)))) + 7)) 1073741823),(wrap64 (x4_1 + 1)),T10_,T10_,H',⟨by have := HK1.out;omega⟩,⟨by repeat (first | (with_reducible first | exact HB.out | apply below_alloc | apply pw_below_drewN | apply below_drew1) | exact HB.out)⟩,HBW⟩
     ·rw [if_neg c4] at H
      exact absurd H T49_
    ·rw [if_neg c3] at H
     have c3b0 : decide (x4_1 < 4000) = false := decide_eq_false c3
     clear c3
     simp only [Option.some.injEq,Prod.mk.injEq] at H
     obtain ⟨rfl,rfl,rfl⟩ := H
     go_wp2_with (first | ((with_reducible refine gate_dst (N := 31) rfl ?_);refine box_event ?hg (N := 31) ?hd (cs := #[.slice A0 l0.length c0,.int .i64 0,.int .i64 x3_1]) (t := 90) ?hr ?_;(case hd => rfl);(case hg => rfl);(case hr => first | (go_simp;done) | (go_simp;rfl));intro gb102 hg w5 hbox hb;have n0_ := aZ_ (below_step HBW.out hb);have n1_ := aZ_ (below_step T5_ hb);have n2_ := aZ_ (hbox);have n3_ := aZ_ ((T50_ : w.heap.size ≤ gb102));have n4_ := aZ_ ((Nat.le_trans HW0.out (T50_ : w.heap.size ≤ gb102) : w0.heap.size ≤ gb102));clear HBW;clear HB;have HBW := n0_;have HB := n1_;have BK102 := n2_;have GW102 := n3_;have GE102 := n4_;clear n0_ n1_ n2_ n3_ n4_;clear hb hbox hg))
     go_ret
     exact ⟨_,rfl,(show IsS90 w0 _ gb102 l0 0 x3_1 from ⟨_,_,by (with_reducible repeat (first | refine blk_drewN ?_ _ | refine blk_drew ?_ | refine blk_alloc ?_ _));exact BK102.out,GE102.out,HR0.out⟩),by repeat (first | (with_reducible first | exact HB.out | apply below_alloc | apply pw_below_drewN | apply below_drew1 | refine below_set ?_ GE102.out) | exact HB.out),by repeat (first | (with_reducible first | exact HBW.out | apply below_alloc | apply pw_below_drewN | apply below_drew1 | refine below_set ?_ GW102.out) | exact HBW.out)⟩
   ·rw [if_neg c2] at H
    have c2b0 : decide (x4_1 < (l0.length : Int)) = false := decide_eq_false c2
    clear c2
    simp only [Option.some.injEq,Prod.mk.injEq] at H
    obtain ⟨rfl,rfl,rfl⟩ := H
    go_wp2_with (first | ((with_reducible refine gate_dst (N := 31) rfl ?_);refine box_event ?hg (N := 31) ?hd (cs := #[.slice A0 l0.length c0,.int .i64 0,.int .i64 x3_1]) (t := 90) ?hr ?_;(case hd => rfl);(case hg => rfl);(case hr => first | (go_simp;done) | (go_simp;rfl));intro gb103 hg w6 hbox hb;have n0_ := aZ_ (below_step HBW.out hb);have n1_ := aZ_ (below_step T5_ hb);have n2_ := aZ_ (hbox);have n3_ := aZ_ ((T50_ : w.heap.size ≤ gb103));have n4_ := aZ_ ((Nat.le_trans HW0.out (T50_ : w.heap.size ≤ gb103) : w0.heap.size ≤ gb103));clear HBW;clear HB;have HBW := n0_;have HB := n1_;have BK103 := n2_;have GW103 := n3_;have GE103 := n4_;clear n0_ n1_ n2_ n3_ n4_;clear hb hbox hg))
    go_ret
    exact ⟨_,rfl,(show IsS90 w0 _ gb103 l0 0 x3_1 from ⟨_,_,by (with_reducible repeat (first | refine blk_drewN ?_ _ | refine blk_drew ?_ | refine blk_alloc ?_ _));exact BK103.out,GE103.out,HR0.out⟩),by repeat (first | (with_reducible first | exact HB.out | apply below_alloc | apply pw_below_drewN | apply below_drew1 | refine below_set ?_ GE103.out) | exact HB.out),by repeat (first | (with_reducible first | exact HBW.out | apply below_alloc | apply pw_below_drewN | apply below_drew1 | refine below_set ?_ GW103.out) | exact HBW.out)⟩
def spec_l20Both.f (k : Nat) (l0 : List Int) : Option (Int × Int × Int) := (spec_l1New.f k l0).bind fun bt102 => ((spec_l2Any.f k bt102.1 bt102.2.1 bt102.2.2).bind fun bt106 => ((spec_l1Once.f bt102.1 bt106.2.2.1 bt106.2.2.2 8).bind fun bt111 => (if bt111.1 = true then ((spec_l1PickInt.f bt102.1 bt111.2.1 bt111.2.2 (([(-1),5,6] : List Int))).bind fun bt117 => (some (bt106.1,bt106.2.1,bt117.1))) else ((spec_l1Below.f bt102.1 bt111.2.1 bt111.2.2 (mx 1 (mn 5 (wrap64 (bt106.1 + 1))))).bind fun bt120 => (some (bt106.1,bt106.2.1,bt120.1))))))
def spec_l20Both.T5 : Bool × List (List Nat × List Nat) := (true,[([],[]),([],[]),([],[]),([2],[2]),([3],[3]),([4],[4]),([5],[5]),([1,6],[1,6]),([0,7,0],[0]),([7,8,0,1,2,3,4,5,6,7,8],[7])])
def spec_l20Both.B5 : List Nat := [0,0,0,4,12,28,60,126,255,511]
theorem spec_l20Both.tab5 : rtab .any (opsOf Try.f68 5) = spec_l20Both.T5 := by kernel_rfl
theorem spec_l20Both.bits5 : waitsOk spec_l20Both.T5.2 spec_l20Both.B5 = true := by kernel_rfl
set_option maxHeartbeats 8000000 in
set_option maxRecDepth 100000 in
theorem spec_l20Both.calls (k : Nat) (A0 : Option Addr) (c0 : Nat) (l0 : List Int) (r1 : Int) (r2 : Int) (r3 : Int) (w : World) (hr0 : Kd.C (Kd.int .u8) w A0 l0.length l0) (hc0 : l0.length ≤ c0) (h : spec_l20Both.f k l0 = some (r1,r2,r3)) :
  Calls Try.prog 68 #[.slice A0 l0.length c0] w fun e w' => e = .returned (.tuple #[.agg #[.int .i64 r1,.int .i64 r2],.int .i64 r3]) ∧ Below w.heap.size w w' := by
 have hu25 := Try.underlying25
 have HR0 := aZ_ hr0
 have HC0 := aZ_ hc0
 clear hr0 hc0
 have HB := aZ_ (Below.refl w.heap.size w)
 have H : ((spec_l1New.f k l0).bind fun bt102 => ((spec_l2Any.f k bt102.1 bt102.2.1 bt102.2.2).bind fun bt106 => ((spec_l1Once.f bt102.1 bt106.2.2.1 bt106.2.2.2 8).bind fun bt111 => (if bt111.1 = true then ((spec_l1PickInt.f bt102.1 bt111.2.1 bt111.2.2 (([(-1),5,6] : List Int))).bind fun bt117 => (some (bt106.1,bt106.2.1,bt117.1))) else ((spec_l1Below.f bt102.1 bt111.2.1 bt111.2.2 (mx 1 (mn 5 (wrap64 (bt106.1 + 1))))).bind fun bt120 => (some (bt106.1,bt106.2.1,bt120.1))))))) = some (r1,r2,r3) := h
 clear h
 replace H := Option.bind_eq_some_iff.mp H
 obtain ⟨⟨t102,t103,t104⟩,A20,H⟩ := H
 replace H : ((spec_l2Any.f k t102 t103 t104).bind fun bt106 => ((spec_l1Once.f t102 bt106.2.2.1 bt106.2.2.2 8).bind fun bt111 => (if bt111.1 = true then ((spec_l1PickInt.f t102 bt111.2.1 bt111.2.2 (([(-1),5,6] : List Int))).bind fun bt117 => (some (bt106.1,bt106.2.1,bt117.1))) else ((spec_l1Below.f t102 bt111.2.1 bt111.2.2 (mx 1 (mn 5 (wrap64 (bt106.1 + 1))))).bind fun bt120 => (some (bt106.1,bt106.2.1,bt120.1)))))) = some (r1,r2,r3) := H
 have A2 := aZ_ A20
 clear A20
 replace H := Option.bind_eq_some_iff.mp H
 obtain ⟨⟨t106,t107,t108,t109⟩,A30,H⟩ := H
 replace H : ((spec_l1Once.f t102 t108 t109 8).bind fun bt111 => (if bt111.1 = true then ((spec_l1PickInt.f t102 bt111.2.1 bt111.2.2 (([(-1),5,6] : List Int))).bind fun bt117 => (some (t106,t107,bt117.1))) else ((spec_l1Below.f t102 bt111.2.1 bt111.2.2 (mx 1 (mn 5 (wrap64 (t106 + 1))))).bind fun bt120 => (some (t106,t107,bt120.1))))) = some (r1,r2,r3) := H
 have A3 := aZ_ A30
 clear A30
 replace H := Option.bind_eq_some_iff.mp H
 obtain ⟨⟨t111,t112,t113⟩,A40,H⟩ := H
 replace H : (if t111 = true then ((spec_l1PickInt.f t102 t112 t113 (([(-1),5,6] : List Int))).bind fun bt117 => (some (t106,t107,bt117.1))) else ((spec_l1Below.f t102 t112 t113 (mx 1 (mn 5 (wrap64 (t106 + 1))))).bind fun bt120 => (some (t106,t107,bt120.1)))) = some (r1,r2,r3) := H
 have A4 := aZ_ A40
 clear A40
 by_cases c5 : t111 = true
 ·subst c5
  have H1 : ((spec_l1PickInt.f t102 t112 t113 (([(-1),5,6] : List Int))).bind fun bt117 => (some (t106,t107,bt117.1))) = some (r1,r2,r3) := by rw [if_pos rfl] at H;exact H
  clear H
  have H := H1
  clear H1
  obtain ⟨y114,hy114⟩ : ∃ y_ : List Int,y_ = (([(-1),5,6] : List Int)) := ⟨_,rfl⟩
  replace H : ((spec_l1PickInt.f t102 t112 t113 y114).bind fun bt117 => (some (t106,t107,bt117.1))) = some (r1,r2,r3) := by first | (rw [hy114];with_reducible exact H) | (have H2_ := (Option.bind_some _ _).symm.trans H;rw [hy114];with_reducible exact H2_) | (have H2_ := (Option.bind_some _ _).symm.trans H;with_reducible exact H2_) | with_reducible exact H | (rw [hy114];exact H) | exact H
  have Ny114 := aZ_ hy114
  clear hy114
  replace H := Option.bind_eq_some_iff.mp H
  obtain ⟨⟨t117,t118,t119⟩,A60,H⟩ := H
  replace H : (some (t106,t107,t117)) = some (r1,r2,r3) := H
  have A6 := aZ_ A60
  clear A60
  simp only [Option.some.injEq,Prod.mk.injEq] at H
  obtain ⟨rfl,rfl,rfl⟩ := H
  go_enter Try.func68,Try.ntmps68
  try go_wp2_with (first | ((with_reducible refine gate_dst (N := 2) rfl ?_);refine box_event ?hg (N := 2) ?hd (cs := #[.int .i64 0,.int .i64 0]) (t := 25) ?hr ?_;(case hd => rfl);(case hg => rfl);(case hr => first | (go_simp;done) | (go_simp;rfl));intro gb101 hg w7 hbox hb;have n0_ := aZ_ (below_step T5_ hb);have n1_ := aZ_ (hbox);have n2_ := aZ_ ((T2_ : w.heap.size ≤ gb101));have n3_ := aZ_ ((T2_ : w.heap.size ≤ gb101));clear HB;have HB := n0_;have BK101 := n1_;have GW101 := n2_;have GE101 := n3_;clear n0_ n1_ n2_ n3_;clear hb hbox hg) | ((with_reducible refine gate_callee (f := 47) rfl ?_);refine goesL_ (some 7) rfl rfl Try.func47 T15_ rfl #[.slice A0 l0.length c0] rfl T4_ ?_;(with_reducible refine (spec_l1New.calls k _ _ l0 t102 t103 t104 w _ ?side1 ?side2 ?side3 A2.out).mono ?_);(case side1 => repeat (first | (with_reducible first | exact HB.out | apply below_alloc | apply pw_below_drewN | apply below_drew1 | refine below_set ?_ GE101.out) | exact HB.out));(case side2 => exact HR0.out);(case side3 => exact HC0.out);rintro e w8 ⟨g105,rfl,hi,hb,hb2⟩;refine ⟨_,rfl,?_⟩;have n0_ := aZ_ (blk_below (g := gb101) (o := .cells #[.int .i64 0,.int .i64 0] 25 (0,0)) T3_ hb2);have n1_ := aZ_ (hb);have n2_ := aZ_ (hi);have n3_ := aZ_ (IsS90.ne_blk hi (blk_below (g := gb101) (o := .cells #[.int .i64 0,.int .i64 0] 25 (0,0)) T3_ hb2) T48_);have n4_ := aZ_ (Ne.symm (IsS90.ne_blk hi (blk_below (g := gb101) (o := .cells #[.int .i64 0,.int .i64 0] 25 (0,0)) T3_ hb2) T48_));clear BK101;clear HB;have BK101 := n0_;have HB := n1_;have HI105 := n2_;have NB105_101 := n3_;have NB101_105 := n4_;clear n0_ n1_ n2_ n3_ n4_;(try clear hb);(try clear hb2);(try clear hk);(try clear hi)) | ((with_reducible refine gate_callee (f := 81) rfl ?_);refine goesL_ (some 9) rfl rfl Try.func81 T15_ rfl #[.pointer (some ⟨g105,0,none⟩)] rfl T4_ ?_;(with_reducible refine (spec_l2Any.calls k g105 t102 t103 t104 t106 t107 t108 t109 w _ ?side1 ?side2 A3.out).mono ?_);(case side1 => repeat (first | (with_reducible first | exact HI105.out | apply IsS90.alloc | apply IsS90.drewN | apply IsS90.drew | apply IsS90.set_1 | apply IsS90.set_2 | refine IsS90.far ?_ NB105_101.out _) | exact HI105.out));(case side2 => repeat (first | (with_reducible first | exact HB.out | apply below_alloc | apply pw_below_drewN | apply below_drew1 | refine below_set ?_ (IsS90.ge HI105.out) | refine below_set ?_ GE101.out) | exact HB.out));rintro e w9 ⟨rfl,hi,hb,hk⟩;refine ⟨_,rfl,?_⟩;have n0_ := aZ_ (KeepBut.blk hk (g' := gb101) (o := .cells #[.int .i64 0,.int .i64 0] 25 (0,0)) T3_ NB101_105.out T49_);have n1_ := aZ_ (hb);have n2_ := aZ_ (hi);clear BK101;clear HB;clear HI105;have BK101 := n0_;have HB := n1_;have HI105 := n2_;clear n0_ n1_ n2_;(try clear hb);(try clear hb2);(try clear hk);(try clear hi)) | ((with_reducible refine gate_dst (N := 5) rfl ?_);refine box_event ?hg (N := 5) ?hd (cs := #[.int .i64 0,.int .i64 0]) (t := 25) ?hr ?_;(case hd => rfl);(case hg => rfl);(case hr => first | (go_simp;done) | (go_simp;rfl));intro gb110 hg w10 hbox hb;have n0_ := aZ_ (blk_below (g := gb101) (o := .cells #[.int .i64 0,.int .i64 0] 25 (0,0)) T3_ hb);have n1_ := aZ_ (IsS90.below T60_ hb);have n2_ := aZ_ (below_step T61_ hb);have n3_ := aZ_ (hbox);have n4_ := aZ_ ((T36_ : w.heap.size ≤ gb110));have n5_ := aZ_ ((T36_ : w.heap.size ≤ gb110));have n6_ := aZ_ ((T19_ : gb101 ≠ gb110));have n7_ := aZ_ ((T20_ : gb110 ≠ gb101));have n8_ := aZ_ ((T53_ : g105 ≠ gb110));have n9_ := aZ_ ((T54_ : gb110 ≠ g105));clear BK101;clear HI105;clear HB;have BK101 := n0_;have HI105 := n1_;have HB := n2_;have BK110 := n3_;have GW110 := n4_;have GE110 := n5_;have NB101_110 := n6_;have NB110_101 := n7_;have NB105_110 := n8_;have NB110_105 := n9_;clear n0_ n1_ n2_ n3_ n4_ n5_ n6_ n7_ n8_ n9_;clear hb hbox hg;have hnb11 := NB110_101.out;have hnc11 := NB101_110.out;have hnb12 := NB110_105.out;have hnc12 := NB105_110.out;have hcz13_0 : w10.cell? ⟨gb110,0,none⟩ = some (.int .i64 0) := (blk_cell BK110.out 0).trans rfl;have hcz13_1 : w10.cell? ⟨gb110,1,none⟩ = some (.int .i64 0) := (blk_cell BK110.out 1).trans rfl;have hfz13_0 := blk_frozen BK110.out 0;have hfz13_1 := blk_frozen BK110.out 1) | ((with_reducible refine gate_callee (f := 63) rfl ?_);refine goesL_ (some 11) rfl rfl Try.func63 T15_ rfl #[.pointer (some ⟨g105,0,none⟩),.int .i64 8] rfl T4_ ?_;(with_reducible refine (spec_l1Once.calls g105 t102 t108 t109 8 true t112 t113 w _ ?side1 ?side2 A4.out).mono ?_);(case side1 => repeat (first | (with_reducible first | exact HI105.out | apply IsS90.alloc | apply IsS90.drewN | apply IsS90.drew | apply IsS90.set_1 | apply IsS90.set_2 | refine IsS90.far ?_ NB105_101.out _ | refine IsS90.far ?_ NB105_110.out _) | exact HI105.out));(case side2 => repeat (first | (with_reducible first | exact HB.out | apply below_alloc | apply pw_below_drewN | apply below_drew1 | refine below_set ?_ (IsS90.ge HI105.out) | refine below_set ?_ GE101.out | refine below_set ?_ GE110.out) | exact HB.out));rintro e w14 ⟨rfl,hi,hb,hk⟩;refine ⟨_,rfl,?_⟩;have n0_ := aZ_ (KeepBut.blk hk (g' := gb101) (o := .cells #[.int .i64 0,.int .i64 0] 25 (0,0)) T46_ NB101_105.out T49_);have n1_ := aZ_ (KeepBut.blk hk (g' := gb110) (o := .cells #[.int .i64 t106,.int .i64 t107] 25 (0,0)) T38_ NB110_105.out T49_);have n2_ := aZ_ (hb);have n3_ := aZ_ (hi);clear BK101;clear BK110;clear HB;clear HI105;have BK101 := n0_;have BK110 := n1_;have HB := n2_;have HI105 := n3_;clear n0_ n1_ n2_ n3_;(try clear hb);(try clear hb2);(try clear hk);(try clear hi)))
  have n0_ := aZ_ (blk_drew BK101.out)
  have n1_ := aZ_ (blk_drew BK110.out)
  have n2_ := aZ_ (IsS90.drew HI105.out)
  have n3_ := aZ_ (below_drew1 HB.out)
  clear BK101
  clear BK110
  clear HI105
  clear HB
  have BK101 := n0_
  have BK110 := n1_
  have HI105 := n2_
  have HB := n3_
  clear n0_ n1_ n2_ n3_
  refine start_ (n := 6) (S := fun w' => w'.cell? ⟨gb110,0,none⟩ = some (.int .i64 t106) ∧ w'.cell? ⟨gb110,1,none⟩ = some (.int .i64 t107)) (ds := []) #[false,false,false,false,false,false] T15_ rfl rfl ⟨(blk_cell BK110.out 0).trans rfl,(blk_cell BK110.out 1).trans rfl⟩ (fun hHeld => ?_)
  generalize w14.drew = w15 at BK101 BK110 HI105 HB hHeld ⊢
  refine pZ_ 1 (some 13) #[false,true,false,false,false,false] ?_
  refine tZ2_ 0 (some 12) #[true,true,false,false,false,false] hHeld ?_
  refine one_ (i := 2) (N := some 14) #[true,true,true,false,false,false] rfl rfl T15_ T48_ (fun K hK => ?_)
  refine Kd.R_lit_step (Kd.int .i64) _ 3 ?hg (N := 14) ?hd (xs := ([(-1),5,6] : List Int)) (inner := [.int .i64 (-1),.int .i64 5,.int .i64 6]) (ok := fun _ => True) (okp := fun _ => True) ?hr ?hp (fun _ hk => hk) trivial (Below.refl _ _) (Nat.le_refl _) T49_ ?_;(case hd => rfl);(case hg => rfl);(case hr => first | (go_simp;done) | (go_simp;rfl));(case hp => exact (Reps.one (show Kd.M (Kd.int .i64) _ _ _ (-1) [.int .i64 (-1)] from rfl) (Reps.one (show Kd.M (Kd.int .i64) _ _ _ 5 [.int .i64 5] from rfl) (Reps.one (show Kd.M (Kd.int .i64) _ _ _ 6 [.int .i64 6] from rfl) (Reps.none _ _)))))
  intro v115 w16 ho17 hb hg_ hnew_
  clear hg_ hnew_
  (first | rw [← Ny114.out] at ho17 | (simp only [Int.reduceToNat] at ho17;rw [← Ny114.out] at ho17))
  have n0_ := aZ_ (Kd.R_lower ho17 (below_size T56_))
  have n1_ := aZ_ (blk_below (g := gb101) (o := .cells #[.int .i64 0,.int .i64 0] 25 (0,0)) T3_ hb)
  have n2_ := aZ_ (IsS90.below (by repeat (first | (with_reducible first | exact HI105.out | apply IsS90.alloc | apply IsS90.drewN | apply IsS90.drew | apply IsS90.set_1 | apply IsS90.set_2 | refine IsS90.far ?_ NB105_101.out _ | refine IsS90.far ?_ NB105_110.out _) | exact HI105.out)) hb)
  have n3_ := aZ_ (blk_below (g := gb110) (o := .cells #[.int .i64 t106,.int .i64 t107] 25 (0,0)) T63_ hb)
  have n4_ := aZ_ (below_step T56_ hb)
  clear BK101
  clear HI105
  clear BK110
  clear HB
  have HO116 := n0_
  have BK101 := n1_
  have HI105 := n2_
  have BK110 := n3_
  have HB := n4_
  clear n0_ n1_ n2_ n3_ n4_
  clear hb ho17
  obtain ⟨Ao18,co18,eo18⟩ := Kd.R_slice HO116.out
  (first | subst eo18 | (injection eo18 with f1_ f2_ f3_;have f4_ := f1_.symm;have f5_ := f3_.symm;clear f1_ f2_ f3_;subst f4_;subst f5_))
  refine hK.out _ _ ⟨(blk_cell BK110.out 0).trans rfl,(blk_cell BK110.out 1).trans rfl⟩ (fun hHeld => ?_)
  clear hK K
  refine norm_ (a' := ?_) ?_ ?_
  rotate_left
  ·show Act.put _ (some 14) _ = _
   simp only [Act.put,List.setIfInBounds_toArray,List.set_cons_zero,List.set_cons_succ,i64_w,i32_w]
   rfl
  refine one_ (i := 3) (N := some 15) #[true,true,true,true,false,false] rfl rfl T15_ T48_ (fun K hK => ?_)
  refine gZ_ Try.func64 #[.pointer (some ⟨g105,0,none⟩),.slice Ao18 y114.length co18] ?_
  with_reducible refine (spec_l1PickInt.calls g105 t102 t112 t113 _ _ y114 t117 t118 t119 w _ ?side1 ?side2 ?side3 ?side4 ?side5 A6.out).mono ?_
  (case side1 => repeat (first | (with_reducible first | exact HI105.out | apply IsS90.alloc | apply IsS90.drewN | apply IsS90.drew | apply IsS90.set_1 | apply IsS90.set_2 | refine IsS90.far ?_ NB105_101.out _ | refine IsS90.far ?_ NB105_110.out _) | exact HI105.out))
  (case side2 => repeat (first | (with_reducible first | exact HB.out | apply below_alloc | apply pw_below_drewN | apply below_drew1 | refine below_set ?_ (IsS90.ge HI105.out) | refine below_set ?_ GE101.out | refine below_set ?_ GE110.out) | exact HB.out))
  (case side3 => repeat (first | exact (Kd.R_reads' HO116.out).2.2 | (with_reducible refine Kd.C_alloc ?_ _) | (with_reducible refine Kd.C_drewN ?_ _) | (with_reducible refine Kd.C_drew ?_)))
  (case side4 => exact (Kd.R_reads' HO116.out).2.1)
  (case side5 => exact far_slice (IsS90.own_ne HI105.out HO116.out T48_))
  rintro e w19 ⟨rfl,hi,hb,hk⟩
  refine ⟨_,rfl,?_⟩
  have n0_ := aZ_ (KeepBut.blk hk (g' := gb101) (o := .cells #[.int .i64 0,.int .i64 0] 25 (0,0)) T3_ NB101_105.out T49_)
  have n1_ := aZ_ (KeepBut.blk hk (g' := gb110) (o := .cells #[.int .i64 t106,.int .i64 t107] 25 (0,0)) T63_ NB110_105.out T49_)
  have n2_ := aZ_ (Kd.R_mono (Kd.R_keep (IsS90.apart (show IsS90 w _ g105 t102 t112 t113 from by repeat (first | (with_reducible first | exact HI105.out | apply IsS90.alloc | apply IsS90.drewN | apply IsS90.drew | apply IsS90.set_1 | apply IsS90.set_2 | refine IsS90.far ?_ NB105_101.out _ | refine IsS90.far ?_ NB105_110.out _) | exact HI105.out)) (by (with_reducible repeat (first | apply Kd.R_alloc | apply Kd.R_drewN | apply Kd.R_drew));exact HO116.out) T48_) hk (fun _ h => h.2)) (fun _ h => h.1))
  have n3_ := aZ_ (hb)
  have n4_ := aZ_ (hi)
  clear BK101
  clear BK110
  clear HO116
  clear HB
  clear HI105
  have BK101 := n0_
  have BK110 := n1_
  have HO116 := n2_
  have HB := n3_
  have HI105 := n4_
  clear n0_ n1_ n2_ n3_ n4_
  (try clear hb)
  (try clear hb2)
  (try clear hk)
  (try clear hi)
  refine hK.out _ _ ⟨(blk_cell BK110.out 0).trans rfl,(blk_cell BK110.out 1).trans rfl⟩ (fun hHeld => ?_)
  clear hK K
  refine norm_ (a' := ?_) ?_ ?_
  rotate_left
  ·show Act.put _ (some 15) _ = _
   simp only [Act.put,List.setIfInBounds_toArray,List.set_cons_zero,List.set_cons_succ,i64_w,i32_w]
   rfl
  refine one_ (i := 4) (N := none) #[true,true,true,true,true,false] rfl rfl T15_ T48_ (fun K hK => ?_)
  have hs20 : w19.cell? ⟨gb101,0,none⟩ = some (.int .i64 0) := (blk_cell BK101.out 0).trans rfl
  have hfs20 := blk_frozen BK101.out 0
  have hns20_1 := NB110_101.out
  have hms20_1 := NB101_110.out
  have hs21 : w19.cell? ⟨gb101,1,none⟩ = some (.int .i64 0) := (blk_cell BK101.out 1).trans rfl
  have hfs21 := blk_frozen BK101.out 1
  have hns21_1 := NB110_101.out
  have hms21_1 := NB101_110.out
  refine skip_ (w1 := ?_) (by rfl) rfl ?_ ?_
  rotate_left
  ·go_simp
   rfl
  refine hK.out _ _ ⟨((cell_far (p := ⟨gb101,_,none⟩) NB110_101.out _).trans (((cell_far (p := ⟨gb101,_,none⟩) NB110_101.out _).trans (hHeld.1)))),((cell_far (p := ⟨gb101,_,none⟩) NB110_101.out _).trans (((cell_far (p := ⟨gb101,_,none⟩) NB110_101.out _).trans (hHeld.2))))⟩ (fun hHeld => ?_)
  clear hK K
  refine pZ_ 5 (some 3) #[true,true,true,true,true,true] ?_
  refine done_ T15_ ?_
  try go_wp2
  refine bodyPost_ret (results_ct rfl _ _ gb101 25 #[.int .i64 t106,.int .i64 t107] (0,0) _ rfl T39_ Try.underlying25 rfl T15_) rfl ?_
  exact ⟨by first | rfl | (simp [errW_none,errW_some] <;> rfl) | (simp [*,errW_none,errW_some] <;> rfl),by repeat (first | (with_reducible first | exact HB.out | apply below_alloc | apply pw_below_drewN | apply below_drew1 | refine below_set ?_ (IsS90.ge HI105.out) | refine below_set ?_ GE101.out | refine below_set ?_ GE110.out) | exact HB.out)⟩
 ·replace c5 := Bool.eq_false_iff.mpr c5
  subst c5
  have H1 : ((spec_l1Below.f t102 t112 t113 (mx 1 (mn 5 (wrap64 (t106 + 1))))).bind fun bt120 => (some (t106,t107,bt120.1))) = some (r1,r2,r3) := by rw [if_neg (show ¬ (false = true) by decide)] at H;exact H
  clear H
  have H := H1
  clear H1
  obtain ⟨ji22,hji22⟩ : ∃ j_ : Int,(mn 5 (wrap64 (t106 + 1))) = j_ := ⟨_,rfl⟩
  replace H : ((spec_l1Below.f t102 t112 t113 (mx 1 (ji22))).bind fun bt120 => (some (t106,t107,bt120.1))) = some (r1,r2,r3) := by first | (rw [hji22] at H;exact H) | (simp only [hji22] at H ⊢;exact H)
  (try rw [hji22] at A2)
  (try rw [hji22] at A3)
  (try rw [hji22] at A4)
  (try (have hji22h : ji22 ≤ 5 := by (rw [← hji22];unfold mn;(repeat' split) <;> omega)))
  (try (have hji22g : ji22 ≤ 64 := by omega))
  have hji22_ : (if (wrap64 (t106 + 1)) < 5 then (wrap64 (t106 + 1)) else 5) = ji22 := hji22
  obtain ⟨ji23,hji23⟩ : ∃ j_ : Int,(mx 1 (ji22)) = j_ := ⟨_,rfl⟩
  replace H : ((spec_l1Below.f t102 t112 t113 (ji23)).bind fun bt120 => (some (t106,t107,bt120.1))) = some (r1,r2,r3) := by first | (rw [hji23] at H;exact H) | (simp only [hji23] at H ⊢;exact H)
  (try rw [hji23] at A2)
  (try rw [hji23] at A3)
  (try rw [hji23] at A4)
  have hji23_ : (if 1 < (ji22) then (ji22) else 1) = ji23 := hji23
  replace H := Option.bind_eq_some_iff.mp H
  obtain ⟨⟨t120,t121,t122⟩,A240,H⟩ := H
  replace H : (some (t106,t107,t120)) = some (r1,r2,r3) := H
  have A24 := aZ_ A240
  clear A240
  simp only [Option.some.injEq,Prod.mk.injEq] at H
  obtain ⟨rfl,rfl,rfl⟩ := H
  go_enter Try.func68,Try.ntmps68
  try go_wp2_with (first | ((with_reducible refine gate_dst (N := 2) rfl ?_);refine box_event ?hg (N := 2) ?hd (cs := #[.int .i64 0,.int .i64 0]) (t := 25) ?hr ?_;(case hd => rfl);(case hg => rfl);(case hr => first | (go_simp;done) | (go_simp;rfl));intro gb101 hg w25 hbox hb;have n0_ := aZ_ (below_step T5_ hb);have n1_ := aZ_ (hbox);have n2_ := aZ_ ((T2_ : w.heap.size ≤ gb101));have n3_ := aZ_ ((T2_ : w.heap.size ≤ gb101));clear HB;have HB := n0_;have BK101 := n1_;have GW101 := n2_;have GE101 := n3_;clear n0_ n1_ n2_ n3_;clear hb hbox hg) | ((with_reducible refine gate_callee (f := 47) rfl ?_);refine goesL_ (some 7) rfl rfl Try.func47 T15_ rfl #[.slice A0 l0.length c0] rfl T4_ ?_;(with_reducible refine (spec_l1New.calls k _ _ l0 t102 t103 t104 w _ ?side1 ?side2 ?side3 A2.out).mono ?_);(case side1 => repeat (first | (with_reducible first | exact HB.out | apply below_alloc | apply pw_below_drewN | apply below_drew1 | refine below_set ?_ GE101.out) | exact HB.out));(case side2 => exact HR0.out);(case side3 => exact HC0.out);rintro e w26 ⟨g105,rfl,hi,hb,hb2⟩;refine ⟨_,rfl,?_⟩;have n0_ := aZ_ (blk_below (g := gb101) (o := .cells #[.int .i64 0,.int .i64 0] 25 (0,0)) T3_ hb2);have n1_ := aZ_ (hb);have n2_ := aZ_ (hi);have n3_ := aZ_ (IsS90.ne_blk hi (blk_below (g := gb101) (o := .cells #[.int .i64 0,.int .i64 0] 25 (0,0)) T3_ hb2) T48_);have n4_ := aZ_ (Ne.symm (IsS90.ne_blk hi (blk_below (g := gb101) (o := .cells #[.int .i64 0,.int .i64 0] 25 (0,0)) T3_ hb2) T48_));clear BK101;clear HB;have BK101 := n0_;have HB := n1_;have HI105 := n2_;have NB105_101 := n3_;have NB101_105 := n4_;clear n0_ n1_ n2_ n3_ n4_;(try clear hb);(try clear hb2);(try clear hk);(try clear hi)) | ((with_reducible refine gate_callee (f := 81) rfl ?_);refine goesL_ (some 9) rfl rfl Try.func81 T15_ rfl #[.pointer (some ⟨g105,0,none⟩)] rfl T4_ ?_;(with_reducible refine (spec_l2Any.calls k g105 t102 t103 t104 t106 t107 t108 t109 w _ ?side1 ?side2 A3.out).mono ?_);(case side1 => repeat (first | (with_reducible first | exact HI105.out | apply IsS90.alloc | apply IsS90.drewN | apply IsS90.drew | apply IsS90.set_1 | apply IsS90.set_2 | refine IsS90.far ?_ NB105_101.out _) | exact HI105.out));(case side2 => repeat (first | (with_reducible first | exact HB.out | apply below_alloc | apply pw_below_drewN | apply below_drew1 | refine below_set ?_ (IsS90.ge HI105.out) | refine below_set ?_ GE101.out) | exact HB.out));rintro e w27 ⟨rfl,hi,hb,hk⟩;refine ⟨_,rfl,?_⟩;have n0_ := aZ_ (KeepBut.blk hk (g' := gb101) (o := .cells #[.int .i64 0,.int .i64 0] 25 (0,0)) T3_ NB101_105.out T49_);have n1_ := aZ_ (hb);have n2_ := aZ_ (hi);clear BK101;clear HB;clear HI105;have BK101 := n0_;have HB := n1_;have HI105 := n2_;clear n0_ n1_ n2_;(try clear hb);(try clear hb2);(try clear hk);(try clear hi)) | ((with_reducible refine gate_dst (N := 5) rfl ?_);refine box_event ?hg (N := 5) ?hd (cs := #[.int .i64 0,.int .i64 0]) (t := 25) ?hr ?_;(case hd => rfl);(case hg => rfl);(case hr => first | (go_simp;done) | (go_simp;rfl));intro gb110 hg w28 hbox hb;have n0_ := aZ_ (blk_below (g := gb101) (o := .cells #[.int .i64 0,.int .i64 0] 25 (0,0)) T3_ hb);have n1_ := aZ_ (IsS90.below T60_ hb);have n2_ := aZ_ (below_step T61_ hb);have n3_ := aZ_ (hbox);have n4_ := aZ_ ((T36_ : w.heap.size ≤ gb110));have n5_ := aZ_ ((T36_ : w.heap.size ≤ gb110));have n6_ := aZ_ ((T19_ : gb101 ≠ gb110));have n7_ := aZ_ ((T20_ : gb110 ≠ gb101));have n8_ := aZ_ ((T53_ : g105 ≠ gb110));have n9_ := aZ_ ((T54_ : gb110 ≠ g105));clear BK101;clear HI105;clear HB;have BK101 := n0_;have HI105 := n1_;have HB := n2_;have BK110 := n3_;have GW110 := n4_;have GE110 := n5_;have NB101_110 := n6_;have NB110_101 := n7_;have NB105_110 := n8_;have NB110_105 := n9_;clear n0_ n1_ n2_ n3_ n4_ n5_ n6_ n7_ n8_ n9_;clear hb hbox hg;have hnb29 := NB110_101.out;have hnc29 := NB101_110.out;have hnb30 := NB110_105.out;have hnc30 := NB105_110.out;have hcz31_0 : w28.cell? ⟨gb110,0,none⟩ = some (.int .i64 0) := (blk_cell BK110.out 0).trans rfl;have hcz31_1 : w28.cell? ⟨gb110,1,none⟩ = some (.int .i64 0) := (blk_cell BK110.out 1).trans rfl;have hfz31_0 := blk_frozen BK110.out 0;have hfz31_1 := blk_frozen BK110.out 1) | ((with_reducible refine gate_callee (f := 63) rfl ?_);refine goesL_ (some 11) rfl rfl Try.func63 T15_ rfl #[.pointer (some ⟨g105,0,none⟩),.int .i64 8] rfl T4_ ?_;(with_reducible refine (spec_l1Once.calls g105 t102 t108 t109 8 false t112 t113 w _ ?side1 ?side2 A4.out).mono ?_);(case side1 => repeat (first | (with_reducible first | exact HI105.out | apply IsS90.alloc | apply IsS90.drewN | apply IsS90.drew | apply IsS90.set_1 | apply IsS90.set_2 | refine IsS90.far ?_ NB105_101.out _ | refine IsS90.far ?_ NB105_110.out _) | exact HI105.out));(case side2 => repeat (first | (with_reducible first | exact HB.out | apply below_alloc | apply pw_below_drewN | apply below_drew1 | refine below_set ?_ (IsS90.ge HI105.out) | refine below_set ?_ GE101.out | refine below_set ?_ GE110.out) | exact HB.out));rintro e w32 ⟨rfl,hi,hb,hk⟩;refine ⟨_,rfl,?_⟩;have n0_ := aZ_ (KeepBut.blk hk (g' := gb101) (o := .cells #[.int .i64 0,.int .i64 0] 25 (0,0)) T46_ NB101_105.out T49_);have n1_ := aZ_ (KeepBut.blk hk (g' := gb110) (o := .cells #[.int .i64 t106,.int .i64 t107] 25 (0,0)) T38_ NB110_105.out T49_);have n2_ := aZ_ (hb);have n3_ := aZ_ (hi);clear BK101;clear BK110;clear HB;clear HI105;have BK101 := n0_;have BK110 := n1_;have HB := n2_;have HI105 := n3_;clear n0_ n1_ n2_ n3_;(try clear hb);(try clear hb2);(try clear hk);(try clear hi)))
  have n0_ := aZ_ (blk_drew BK101.out)
  have n1_ := aZ_ (blk_drew BK110.out)
  have n2_ := aZ_ (IsS90.drew HI105.out)
  have n3_ := aZ_ (below_drew1 HB.out)
  clear BK101
  clear BK110
  clear HI105
  clear HB
  have BK101 := n0_
  have BK110 := n1_
  have HI105 := n2_
  have HB := n3_
  clear n0_ n1_ n2_ n3_
  refine start_ (n := 10) (S := fun w' => w'.cell? ⟨gb110,0,none⟩ = some (.int .i64 t106) ∧ w'.cell? ⟨gb110,1,none⟩ = some (.int .i64 t107)) (ds := []) #[false,false,false,false,false,false,false,false,false,false] T15_ rfl rfl ⟨(blk_cell BK110.out 0).trans rfl,(blk_cell BK110.out 1).trans rfl⟩ (fun hHeld => ?_);refine with_tabW spec_l20Both.tab5 spec_l20Both.bits5 (fun HT_ HW_ => ?_)
  generalize w32.drew = w33 at BK101 BK110 HI105 HB hHeld ⊢
  refine pZ_ 1 (some 17) #[false,true,false,false,false,false,false,false,false,false] ?_
  refine pZ_ 2 (some 18) #[false,true,true,false,false,false,false,false,false,false] ?_
  refine tZ2_ 0 (some 16) #[true,true,true,false,false,false,false,false,false,false] hHeld ?_
  refine tZ2_ 3 (some 19) #[true,true,true,true,false,false,false,false,false,false] hHeld ?_
  refine pZ_ 4 (some 20) #[true,true,true,true,true,false,false,false,false,false] ?_
  refine pZ_ 5 (some 21) #[true,true,true,true,true,true,false,false,false,false] ?_
  refine pZ_ 6 (some 22) #[true,true,true,true,true,true,true,false,false,false] ?_
  refine one_ (i := 7) (N := some 23) #[true,true,true,true,true,true,true,true,false,false] rfl rfl (one_of HT_.out T15_) T48_ (fun K hK => ?_)
  refine goes_ Try.func62 T15_ rfl #[.pointer (some ⟨g105,0,none⟩),.int .i64 ji23] (by rfl) rfl rfl (by (try simp only [List.map_toArray,List.map_cons,List.map_nil]);first | done | (simp only [hji23];rfl) | rfl | (simp only [List.length_drop,List.length_take];rfl)) ?_
  with_reducible refine (spec_l1Below.calls g105 t102 t112 t113 ji23 t120 t121 t122 w _ ?side1 ?side2 A24.out).mono ?_
  (case side1 => repeat (first | (with_reducible first | exact HI105.out | apply IsS90.alloc | apply IsS90.drewN | apply IsS90.drew | apply IsS90.set_1 | apply IsS90.set_2 | refine IsS90.far ?_ NB105_101.out _ | refine IsS90.far ?_ NB105_110.out _) | exact HI105.out))
  (case side2 => repeat (first | (with_reducible first | exact HB.out | apply below_alloc | apply pw_below_drewN | apply below_drew1 | refine below_set ?_ (IsS90.ge HI105.out) | refine below_set ?_ GE101.out | refine below_set ?_ GE110.out) | exact HB.out))
  rintro e w34 ⟨rfl,hi,hb,hk⟩
  refine ⟨_,rfl,?_⟩
  have n0_ := aZ_ (KeepBut.blk hk (g' := gb101) (o := .cells #[.int .i64 0,.int .i64 0] 25 (0,0)) T3_ NB101_105.out T49_)
  have n1_ := aZ_ (KeepBut.blk hk (g' := gb110) (o := .cells #[.int .i64 t106,.int .i64 t107] 25 (0,0)) T63_ NB110_105.out T49_)
  have n2_ := aZ_ (hb)
  have n3_ := aZ_ (hi)
  clear BK101
  clear BK110
  clear HB
  clear HI105
  have BK101 := n0_
  have BK110 := n1_
  have HB := n2_
  have HI105 := n3_
  clear n0_ n1_ n2_ n3_
  (try clear hb)
  (try clear hb2)
  (try clear hk)
  (try clear hi)
  refine hK.out _ _ ⟨(blk_cell BK110.out 0).trans rfl,(blk_cell BK110.out 1).trans rfl⟩ (fun hHeld => ?_)
  clear hK K
  refine norm_ (a' := ?_) ?_ ?_
  rotate_left
  ·show Act.put _ (some 23) _ = _
   simp only [Act.put,List.setIfInBounds_toArray,List.set_cons_zero,List.set_cons_succ,i64_w,i32_w]
   rfl
  refine one_ (i := 8) (N := none) #[true,true,true,true,true,true,true,true,true,false] rfl rfl (one_of HT_.out T15_) T48_ (fun K hK => ?_)
  have hs35 : w34.cell? ⟨gb101,0,none⟩ = some (.int .i64 0) := (blk_cell BK101.out 0).trans rfl
  have hfs35 := blk_frozen BK101.out 0
  have hns35_1 := NB110_101.out
  have hms35_1 := NB101_110.out
  have hs36 : w34.cell? ⟨gb101,1,none⟩ = some (.int .i64 0) := (blk_cell BK101.out 1).trans rfl
  have hfs36 := blk_frozen BK101.out 1
  have hns36_1 := NB110_101.out
  have hms36_1 := NB101_110.out
  refine skip_ (w1 := ?_) (by rfl) rfl ?_ ?_
  rotate_left
  ·go_simp
   rfl
  refine hK.out _ _ ⟨((cell_far (p := ⟨gb101,_,none⟩) NB110_101.out _).trans (((cell_far (p := ⟨gb101,_,none⟩) NB110_101.out _).trans (hHeld.1)))),((cell_far (p := ⟨gb101,_,none⟩) NB110_101.out _).trans (((cell_far (p := ⟨gb101,_,none⟩) NB110_101.out _).trans (hHeld.2))))⟩ (fun hHeld => ?_)
  clear hK K
  refine pZ_ 9 (some 3) #[true,true,true,true,true,true,true,true,true,true] ?_
  refine done_ (done_of HT_.out T15_) ?_
  try go_wp2
  refine bodyPost_ret (results_ct rfl _ _ gb101 25 #[.int .i64 t106,.int .i64 t107] (0,0) _ rfl T39_ Try.underlying25 rfl T15_) rfl ?_
  exact ⟨by first | rfl | (simp [errW_none,errW_some] <;> rfl) | (simp only [← hji22,← hji23];first | rfl | (simp [errW_none,errW_some] <;> rfl)) | (simp [*,errW_none,errW_some] <;> rfl),by repeat (first | (with_reducible first | exact HB.out | apply below_alloc | apply pw_below_drewN | apply below_drew1 | refine below_set ?_ (IsS90.ge HI105.out) | refine below_set ?_ GE101.out | refine below_set ?_ GE110.out) | exact HB.out)⟩
def spec_DrawMatrixOf.f (k : Nat) (l0 : List Int) : Option (Int × Int × Int) := (spec_l20Both.f k l0).bind fun bt102 => (some (bt102.1,bt102.2.1,bt102.2.2))
set_option maxHeartbeats 8000000 in
set_option maxRecDepth 100000 in
theorem spec_DrawMatrixOf.calls (k : Nat) (A0 : Option Addr) (c0 : Nat) (l0 : List Int) (r1 : Int) (r2 : Int) (r3 : Int) (w : World) (hr0 : Kd.C (Kd.int .u8) w A0 l0.length l0) (hc0 : l0.length ≤ c0) (h : spec_DrawMatrixOf.f k l0 = some (r1,r2,r3)) :
  Calls Try.prog 25 #[.slice A0 l0.length c0] w fun e w' => e = .returned (.tuple #[.agg #[.int .i64 r1,.int .i64 r2],.int .i64 r3]) ∧ Below w.heap.size w w' := by
 have hu25 := Try.underlying25
 have HR0 := aZ_ hr0
 have HC0 := aZ_ hc0
 clear hr0 hc0
 have HB := aZ_ (Below.refl w.heap.size w)
 have H : ((spec_l20Both.f k l0).bind fun bt102 => (some (bt102.1,bt102.2.1,bt102.2.2))) = some (r1,r2,r3) := h
 clear h
 replace H := Option.bind_eq_some_iff.mp H
 obtain ⟨⟨t102,t103,t104⟩,A20,H⟩ := H
 replace H : (some (t102,t103,t104)) = some (r1,r2,r3) := H
 have A2 := aZ_ A20
 clear A20
 simp only [Option.some.injEq,Prod.mk.injEq] at H
 obtain ⟨rfl,rfl,rfl⟩ := H
 go_enter Try.func25,Try.ntmps25
 go_wp2_with (first | ((with_reducible refine gate_dst (N := 2) rfl ?_);refine box_event ?hg (N := 2) ?hd (cs := #[.int .i64 0,.int .i64 0]) (t := 25) ?hr ?_;(case hd => rfl);(case hg => rfl);(case hr => first | (go_simp;done) | (go_simp;rfl));intro gb101 hg w3 hbox hb;have n0_ := aZ_ (below_step T5_ hb);have n1_ := aZ_ (hbox);have n2_ := aZ_ ((T2_ : w.heap.size ≤ gb101));have n3_ := aZ_ ((T2_ : w.heap.size ≤ gb101));clear HB;have HB := n0_;have BK101 := n1_;have GW101 := n2_;have GE101 := n3_;clear n0_ n1_ n2_ n3_;clear hb hbox hg) | ((with_reducible refine gate_callee (f := 68) rfl ?_);refine goesL_ (some 8) rfl rfl Try.func68 T15_ rfl #[.slice A0 l0.length c0] rfl T4_ ?_;(with_reducible refine (spec_l20Both.calls k _ _ l0 t102 t103 t104 _ ?side1 ?side2 A2.out).mono ?_);(case side1 => repeat (first | exact (Kd.C_below HR0.out HB.out) | (with_reducible refine Kd.C_alloc ?_ _) | (with_reducible refine Kd.C_drewN ?_ _) | (with_reducible refine Kd.C_drew ?_)));(case side2 => exact HC0.out);rintro e w4 ⟨rfl,hb⟩;refine ⟨_,rfl,?_⟩;have n0_ := aZ_ (blk_below (g := gb101) (o := .cells #[.int .i64 0,.int .i64 0] 25 (0,0)) T3_ hb);have n1_ := aZ_ (below_step T1_ hb);clear BK101;clear HB;have BK101 := n0_;have HB := n1_;clear n0_ n1_;(try clear hb);(try clear hb2);(try clear hk);(try clear hi)) | ((with_reducible refine gate_dst (N := 4) rfl ?_);refine box_event ?hg (N := 4) ?hd (cs := #[.int .i64 0,.int .i64 0]) (t := 25) ?hr ?_;(case hd => rfl);(case hg => rfl);(case hr => first | (go_simp;done) | (go_simp;rfl));intro gb105 hg w5 hbox hb;have n0_ := aZ_ (blk_below (g := gb101) (o := .cells #[.int .i64 0,.int .i64 0] 25 (0,0)) T3_ hb);have n1_ := aZ_ (below_step T1_ hb);have n2_ := aZ_ (hbox);have n3_ := aZ_ ((T17_ : w.heap.size ≤ gb105));have n4_ := aZ_ ((T17_ : w.heap.size ≤ gb105));have n5_ := aZ_ ((T19_ : gb101 ≠ gb105));have n6_ := aZ_ ((T20_ : gb105 ≠ gb101));clear BK101;clear HB;have BK101 := n0_;have HB := n1_;have BK105 := n2_;have GW105 := n3_;have GE105 := n4_;have NB101_105 := n5_;have NB105_101 := n6_;clear n0_ n1_ n2_ n3_ n4_ n5_ n6_;clear hb hbox hg;have hnb6 := NB105_101.out;have hnc6 := NB101_105.out;have hcz7_0 : w5.cell? ⟨gb105,0,none⟩ = some (.int .i64 0) := (blk_cell BK105.out 0).trans rfl;have hcz7_1 : w5.cell? ⟨gb105,1,none⟩ = some (.int .i64 0) := (blk_cell BK105.out 1).trans rfl;have hfz7_0 := blk_frozen BK105.out 0;have hfz7_1 := blk_frozen BK105.out 1;have hcz8_0 : w5.cell? ⟨gb101,0,none⟩ = some (.int .i64 0) := (blk_cell BK101.out 0).trans rfl;have hcz8_1 : w5.cell? ⟨gb101,1,none⟩ = some (.int .i64 0) := (blk_cell BK101.out 1).trans rfl;have hfz8_0 := blk_frozen BK101.out 0;have hfz8_1 := blk_frozen BK101.out 1))
 refine bodyPost_ret (results_ct rfl _ _ gb101 25 #[.int .i64 t102,.int .i64 t103] (0,0) _ rfl (by (with_reducible repeat (first | refine blk_drewN ?_ _ | refine blk_drew ?_ | refine blk_alloc ?_ _));refine blk_put (cs := #[.int .i64 t102,.int .i64 0]) ?_ 1 _ rfl;(with_reducible repeat (first | refine blk_drewN ?_ _ | refine blk_drew ?_ | refine blk_alloc ?_ _));refine blk_put (cs := #[.int .i64 0,.int .i64 0]) ?_ 0 _ rfl;(with_reducible repeat (first | refine blk_drewN ?_ _ | refine blk_drew ?_ | refine blk_alloc ?_ _));refine blk_far ?_ NB101_105.out _;(with_reducible repeat (first | refine blk_drewN ?_ _ | refine blk_drew ?_ | refine blk_alloc ?_ _));refine blk_far ?_ NB101_105.out _;(with_reducible repeat (first | refine blk_drewN ?_ _ | refine blk_drew ?_ | refine blk_alloc ?_ _));exact BK101.out) Try.underlying25 rfl T15_) rfl ?_
 exact ⟨by first | rfl | (simp [errW_none,errW_some] <;> rfl) | (simp [*,errW_none,errW_some] <;> rfl),by repeat (first | (with_reducible first | exact HB.out | apply below_alloc | apply pw_below_drewN | apply below_drew1 | refine below_set ?_ GE101.out | refine below_set ?_ GE105.out) | exact HB.out)⟩
def impl_isSplit.f (a0_0 : Int) (a0_1 : Int) (a1 : Int) : Option (Bool) := (impl_IsTable.f a0_0 a0_1).bind fun t102 => (if t102 = true then (if a1 ≥ 0 then (some (decide (a1 ≤ a0_0))) else (some false)) else (some false))
set_option maxHeartbeats 8000000 in
set_option maxRecDepth 100000 in
theorem impl_isSplit.calls (a0_0 : Int) (a0_1 : Int) (a1 : Int) (r : Bool) (w : World) (h : impl_isSplit.f a0_0 a0_1 a1 = some r) :
  Calls Try.prog 69 #[.agg #[.int .i64 a0_0,.int .i64 a0_1],.int .i64 a1] w fun e w' => e = .returned (.bool r) ∧ Below w.heap.size w w' := by
 have hu25 := Try.underlying25
 have HB := aZ_ (Below.refl w.heap.size w)
 have H : ((impl_IsTable.f a0_0 a0_1).bind fun t102 => (if t102 = true then (if a1 ≥ 0 then (some (decide (a1 ≤ a0_0))) else (some false)) else (some false))) = some r := h
 clear h
 replace H := Option.bind_eq_some_iff.mp H
 obtain ⟨t102,A30,H⟩ := H
 replace H : (if t102 = true then (if a1 ≥ 0 then (some (decide (a1 ≤ a0_0))) else (some false)) else (some false)) = some r := H
 have A3 := aZ_ A30
 clear A30
 by_cases c4 : t102 = true
 ·subst c4
  have H1 : (if a1 ≥ 0 then (some (decide (a1 ≤ a0_0))) else (some false)) = some r := by rw [if_pos rfl] at H;exact H
  clear H
  have H := H1
  clear H1
  by_cases c5 : a1 ≥ 0
  ·rw [if_pos c5] at H
   have c5b0 : decide (0 ≤ a1) = true := decide_eq_true c5
   clear c5
   obtain rfl := Option.some.inj H
   go_enter Try.func69,Try.ntmps69
   go_wp2_with (first | ((with_reducible refine gate_dst (N := 2) rfl ?_);refine box_event ?hg (N := 2) ?hd (cs := #[.int .i64 a0_0,.int .i64 a0_1]) (t := 25) ?hr ?_;(case hd => rfl);(case hg => rfl);(case hr => first | (go_simp;done) | (go_simp;rfl));intro gb101 hg w6 hbox hb;have n0_ := aZ_ (below_step T5_ hb);have n1_ := aZ_ (hbox);have n2_ := aZ_ ((T2_ : w.heap.size ≤ gb101));have n3_ := aZ_ ((T2_ : w.heap.size ≤ gb101));clear HB;have HB := n0_;have BK101 := n1_;have GW101 := n2_;have GE101 := n3_;clear n0_ n1_ n2_ n3_;clear hb hbox hg;have hcz7_0 : w6.cell? ⟨gb101,0,none⟩ = some (.int .i64 a0_0) := (blk_cell BK101.out 0).trans rfl;have hcz7_1 : w6.cell? ⟨gb101,1,none⟩ = some (.int .i64 a0_1) := (blk_cell BK101.out 1).trans rfl;have hfz7_0 := blk_frozen BK101.out 0;have hfz7_1 := blk_frozen BK101.out 1) | ((with_reducible refine gate_callee (f := 48) rfl ?_);refine goesL_ (some 6) rfl rfl Try.func48 T15_ rfl #[.agg #[.int .i64 a0_0,.int .i64 a0_1]] rfl T4_ ?_;(with_reducible refine (impl_IsTable.calls a0_0 a0_1 true _ A3.out).mono ?_);rintro e w8 ⟨rfl,hb⟩;refine ⟨_,rfl,?_⟩;have n0_ := aZ_ (blk_below (g := gb101) (o := .cells #[.int .i64 a0_0,.int .i64 a0_1] 25 (0,0)) T3_ hb);have n1_ := aZ_ (below_step T1_ hb);clear BK101;clear HB;have BK101 := n0_;have HB := n1_;clear n0_ n1_;(try clear hb);(try clear hb2);(try clear hk);(try clear hi);have hcz9_0 : w8.cell? ⟨gb101,0,none⟩ = some (.int .i64 a0_0) := (blk_cell BK101.out 0).trans rfl;have hcz9_1 : w8.cell? ⟨gb101,1,none⟩ = some (.int .i64 a0_1) := (blk_cell BK101.out 1).trans rfl;have hfz9_0 := blk_frozen BK101.out 0;have hfz9_1 := blk_frozen BK101.out 1))
   go_ret
   exact ⟨by first | rfl | (simp [errW_none,errW_some] <;> rfl) | (simp [*,errW_none,errW_some] <;> rfl),by repeat (first | (with_reducible first | exact HB.out | apply below_alloc | apply pw_below_drewN | apply below_drew1 | refine below_set ?_ GE101.out) | exact HB.out)⟩
  ·rw [if_neg c5] at H
   have c5b0 : decide (0 ≤ a1) = false := decide_eq_false c5
   clear c5
   obtain rfl := Option.some.inj H
   go_enter Try.func69,Try.ntmps69
   go_wp2_with (first | ((with_reducible refine gate_dst (N := 2) rfl ?_);refine box_event ?hg (N := 2) ?hd (cs := #[.int .i64 a0_0,.int .i64 a0_1]) (t := 25) ?hr ?_;(case hd => rfl);(case hg => rfl);(case hr => first | (go_simp;done) | (go_simp;rfl));intro gb101 hg w10 hbox hb;have n0_ := aZ_ (below_step T5_ hb);have n1_ := aZ_ (hbox);have n2_ := aZ_ ((T2_ : w.heap.size ≤ gb101));have n3_ := aZ_ ((T2_ : w.heap.size ≤ gb101));clear HB;have HB := n0_;have BK101 := n1_;have GW101 := n2_;have GE101 := n3_;clear n0_ n1_ n2_ n3_;clear hb hbox hg;have hcz11_0 : w10.cell? ⟨gb101,0,none⟩ = some (.int .i64 a0_0) := (blk_cell BK101.out 0).trans rfl;have hcz11_1 : w10.cell? ⟨gb101,1,none⟩ = some (.int .i64 a0_1) := (blk_cell BK101.out 1).trans rfl;have hfz11_0 := blk_frozen BK101.out 0;have hfz11_1 := blk_frozen BK101.out 1) | ((with_reducible refine gate_callee (f := 48) rfl ?_);refine goesL_ (some 6) rfl rfl Try.func48 T15_ rfl #[.agg #[.int .i64 a0_0,.int .i64 a0_1]] rfl T4_ ?_;(with_reducible refine (impl_IsTable.calls a0_0 a0_1 true _ A3.out).mono ?_);rintro e w12 ⟨rfl,hb⟩;refine ⟨_,rfl,?_⟩;have n0_ := aZ_ (blk_below (g := gb101) (o := .cells #[.int .i64 a0_0,.int .i64 a0_1] 25 (0,0)) T3_ hb);have n1_ := aZ_ (below_step T1_ hb);clear BK101;clear HB;have BK101 := n0_;have HB := n1_;clear n0_ n1_;(try clear hb);(try clear hb2);(try clear hk);(try clear hi)))
   go_ret
   exact ⟨by first | rfl | (simp [errW_none,errW_some] <;> rfl) | (simp [*,errW_none,errW_some] <;> rfl),by repeat (first | (with_reducible first | exact HB.out | apply below_alloc | apply pw_below_drewN | apply below_drew1 | refine below_set ?_ GE101.out) | exact HB.out)⟩
 ·replace c4 := Bool.eq_false_iff.mpr c4
  subst c4
  have H1 : (some false) = some r := by rw [if_neg (show ¬ (false = true) by decide)] at H;exact H
  clear H
  have H := H1
  clear H1
  obtain rfl := Option.some.inj H
  go_enter Try.func69,Try.ntmps69
  go_wp2_with (first | ((with_reducible refine gate_dst (N := 2) rfl ?_);refine box_event ?hg (N := 2) ?hd (cs := #[.int .i64 a0_0,.int .i64 a0_1]) (t := 25) ?hr ?_;(case hd => rfl);(case hg => rfl);(case hr => first | (go_simp;done) | (go_simp;rfl));intro gb101 hg w13 hbox hb;have n0_ := aZ_ (below_step T5_ hb);have n1_ := aZ_ (hbox);have n2_ := aZ_ ((T2_ : w.heap.size ≤ gb101));have n3_ := aZ_ ((T2_ : w.heap.size ≤ gb101));clear HB;have HB := n0_;have BK101 := n1_;have GW101 := n2_;have GE101 := n3_;clear n0_ n1_ n2_ n3_;clear hb hbox hg;have hcz14_0 : w13.cell? ⟨gb101,0,none⟩ = some (.int .i64 a0_0) := (blk_cell BK101.out 0).trans rfl;have hcz14_1 : w13.cell? ⟨gb101,1,none⟩ = some (.int .i64 a0_1) := (blk_cell BK101.out 1).trans rfl;have hfz14_0 := blk_frozen BK101.out 0;have hfz14_1 := blk_frozen BK101.out 1) | ((with_reducible refine gate_callee (f := 48) rfl ?_);refine goesL_ (some 6) rfl rfl Try.func48 T15_ rfl #[.agg #[.int .i64 a0_0,.int .i64 a0_1]] rfl T4_ ?_;(with_reducible refine (impl_IsTable.calls a0_0 a0_1 false _ A3.out).mono ?_);rintro e w15 ⟨rfl,hb⟩;refine ⟨_,rfl,?_⟩;have n0_ := aZ_ (blk_below (g := gb101) (o := .cells #[.int .i64 a0_0,.int .i64 a0_1] 25 (0,0)) T3_ hb);have n1_ := aZ_ (below_step T1_ hb);clear BK101;clear HB;have BK101 := n0_;have HB := n1_;clear n0_ n1_;(try clear hb);(try clear hb2);(try clear hk);(try clear hi)))
  go_ret
  exact ⟨by first | rfl | (simp [errW_none,errW_some] <;> rfl) | (simp [*,errW_none,errW_some] <;> rfl),by repeat (first | (with_reducible first | exact HB.out | apply below_alloc | apply pw_below_drewN | apply below_drew1 | refine below_set ?_ GE101.out) | exact HB.out)⟩
end Go.Proofs.Ythlajlhjofjmcaa.F
