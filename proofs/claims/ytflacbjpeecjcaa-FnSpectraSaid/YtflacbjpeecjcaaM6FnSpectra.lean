/- Walks of Go functions and lemmas on what they compute, for the row of FnSpectra (a part of several): each call ends as the Lean function of its name tells; the conditions are those of each theorem. -/
import Derived.Test.YtflacbjpeecjcaaM1FnSpectra
import Derived.Test.YtflacbjpeecjcaaM2FnSpectra
import Derived.Test.YtflacbjpeecjcaaM3FnSpectra
import Derived.Test.YtflacbjpeecjcaaM4FnSpectra
import Derived.Test.YtflacbjpeecjcaaM5FnSpectra
namespace Go.Proofs.Ytflacbjpeecjcaa.F
open Go.RowKit Go.Proofs.YtflacbjpeecjcaaW.PrintWords Go.Proofs.YtflacbjpeecjcaaW.PrintLast Go.Proofs.YtflacbjpeecjcaaW.PrintMore
attribute [local go_sem] max2_int min2_int max_two min_two max_three min_three max_four min_four 
set_option linter.unusedVariables false
set_option linter.unusedSimpArgs false
def spec_l2Any.f (k : Nat) (s0_0 : List Int) (s0_1 : Int) (s0_2 : Int) : Option (Int × Int × Int × Int) := (spec_l1Below.f s0_0 s0_1 s0_2 5).bind fun bt102 => ((spec_l2Draw.f k s0_0 bt102.2.1 bt102.2.2 bt102.1).bind fun bt105 => ((spec_l1Below.f s0_0 bt105.2.2.1 bt105.2.2.2 14).bind fun bt110 => (if bt110.1 = 0 then ((spec_l1PickInt.f s0_0 bt110.2.1 bt110.2.2 (([(-1),6,5,0,9223372036854775807] : List Int))).bind fun bt116 => (some (bt116.1,bt105.2.1,bt116.2.1,bt116.2.2))) else (if bt110.1 = 1 then ((spec_l1PickInt.f s0_0 bt110.2.1 bt110.2.2 (([(-1),0,1,65536,9223372036854775807] : List Int))).bind fun bt122 => (some (bt105.1,bt122.1,bt122.2.1,bt122.2.2))) else (some (bt105.1,bt105.2.1,bt110.2.1,bt110.2.2))))))
set_option maxHeartbeats 8000000 in
set_option maxRecDepth 100000 in
theorem spec_l2Any.calls (k : Nat) (g : Nat) (s0_0 : List Int) (s0_1 : Int) (s0_2 : Int) (r1 : Int) (r2 : Int) (r3 : Int) (r4 : Int) (w0 w : World) (hI : IsS58 w0 w g s0_0 s0_1 s0_2) (hB : Below w0.heap.size w0 w) (h : spec_l2Any.f k s0_0 s0_1 s0_2 = some (r1,r2,r3,r4)) :
  Calls Try.prog 30 #[.pointer (some ⟨g,0,none⟩)] w fun e w' => e = .returned (.agg #[.int .i64 r1,.int .i64 r2]) ∧ IsS58 w0 w' g s0_0 r3 r4 ∧ Below w0.heap.size w0 w' ∧ KeepBut w w' g none := by
 have hu25 := Try.underlying25
 have HI0 := aZ_ hI
 have HK := aZ_ (KeepBut.refl w g none)
 have HL := aZ_ hB.size
 clear hI
 have HW0 := aZ_ hB.size
 have HB := aZ_ hB
 clear hB
 have H : ((spec_l1Below.f s0_0 s0_1 s0_2 5).bind fun bt102 => ((spec_l2Draw.f k s0_0 bt102.2.1 bt102.2.2 bt102.1).bind fun bt105 => ((spec_l1Below.f s0_0 bt105.2.2.1 bt105.2.2.2 14).bind fun bt110 => (if bt110.1 = 0 then ((spec_l1PickInt.f s0_0 bt110.2.1 bt110.2.2 (([(-1),6,5,0,9223372036854775807] : List Int))).bind fun bt116 => (some (bt116.1,bt105.2.1,bt116.2.1,bt116.2.2))) else (if bt110.1 = 1 then ((spec_l1PickInt.f s0_0 bt110.2.1 bt110.2.2 (([(-1),0,1,65536,9223372036854775807] : List Int))).bind fun bt122 => (some (bt105.1,bt122.1,bt122.2.1,bt122.2.2))) else (some (bt105.1,bt105.2.1,bt110.2.1,bt110.2.2))))))) = some (r1,r2,r3,r4) := h
 clear h
 replace H := Option.bind_eq_some_iff.mp H
 obtain ⟨⟨t102,t103,t104⟩,A20,H⟩ := H
 replace H : ((spec_l2Draw.f k s0_0 t103 t104 t102).bind fun bt105 => ((spec_l1Below.f s0_0 bt105.2.2.1 bt105.2.2.2 14).bind fun bt110 => (if bt110.1 = 0 then ((spec_l1PickInt.f s0_0 bt110.2.1 bt110.2.2 (([(-1),6,5,0,9223372036854775807] : List Int))).bind fun bt116 => (some (bt116.1,bt105.2.1,bt116.2.1,bt116.2.2))) else (if bt110.1 = 1 then ((spec_l1PickInt.f s0_0 bt110.2.1 bt110.2.2 (([(-1),0,1,65536,9223372036854775807] : List Int))).bind fun bt122 => (some (bt105.1,bt122.1,bt122.2.1,bt122.2.2))) else (some (bt105.1,bt105.2.1,bt110.2.1,bt110.2.2)))))) = some (r1,r2,r3,r4) := H
 have A2 := aZ_ A20
 clear A20
 replace H := Option.bind_eq_some_iff.mp H
 obtain ⟨⟨t105,t106,t107,t108⟩,A30,H⟩ := H
 replace H : ((spec_l1Below.f s0_0 t107 t108 14).bind fun bt110 => (if bt110.1 = 0 then ((spec_l1PickInt.f s0_0 bt110.2.1 bt110.2.2 (([(-1),6,5,0,9223372036854775807] : List Int))).bind fun bt116 => (some (bt116.1,t106,bt116.2.1,bt116.2.2))) else (if bt110.1 = 1 then ((spec_l1PickInt.f s0_0 bt110.2.1 bt110.2.2 (([(-1),0,1,65536,9223372036854775807] : List Int))).bind fun bt122 => (some (t105,bt122.1,bt122.2.1,bt122.2.2))) else (some (t105,t106,bt110.2.1,bt110.2.2))))) = some (r1,r2,r3,r4) := H
 have A3 := aZ_ A30
 clear A30
 replace H := Option.bind_eq_some_iff.mp H
 obtain ⟨⟨t110,t111,t112⟩,A40,H⟩ := H
 replace H : (if t110 = 0 then ((spec_l1PickInt.f s0_0 t111 t112 (([(-1),6,5,0,9223372036854775807] : List Int))).bind fun bt116 => (some (bt116.1,t106,bt116.2.1,bt116.2.2))) else (if t110 = 1 then ((spec_l1PickInt.f s0_0 t111 t112 (([(-1),0,1,65536,9223372036854775807] : List Int))).bind fun bt122 => (some (t105,bt122.1,bt122.2.1,bt122.2.2))) else (some (t105,t106,t111,t112)))) = some (r1,r2,r3,r4) := H
 have A4 := aZ_ A40
 clear A40
 by_cases c5 : t110 = 0
 ·rw [if_pos c5] at H
  have c5b0 : (t110 == 0) = true := beq_iff_eq.mpr c5
  have c5b1 : (t110 != 0) = false := bne_eq_false_iff_eq.mpr c5
  clear c5
  obtain ⟨y113,hy113⟩ : ∃ y_ : List Int,y_ = (([(-1),6,5,0,9223372036854775807] : List Int)) := ⟨_,rfl⟩
  replace H : ((spec_l1PickInt.f s0_0 t111 t112 y113).bind fun bt116 => (some (bt116.1,t106,bt116.2.1,bt116.2.2))) = some (r1,r2,r3,r4) := by first | (rw [hy113];with_reducible exact H) | (have H2_ := (Option.bind_some _ _).symm.trans H;rw [hy113];with_reducible exact H2_) | (have H2_ := (Option.bind_some _ _).symm.trans H;with_reducible exact H2_) | with_reducible exact H | (rw [hy113];exact H) | exact H
  have Ny113 := aZ_ hy113
  clear hy113
  replace H := Option.bind_eq_some_iff.mp H
  obtain ⟨⟨t116,t117,t118⟩,A60,H⟩ := H
  replace H : (some (t116,t106,t117,t118)) = some (r1,r2,r3,r4) := H
  have A6 := aZ_ A60
  clear A60
  simp only [Option.some.injEq,Prod.mk.injEq] at H
  obtain ⟨rfl,rfl,rfl,rfl⟩ := H
  go_enter Try.func30,Try.ntmps30
  go_wp2_with (first | ((with_reducible refine gate_dst (N := 2) rfl ?_);refine box_event ?hg (N := 2) ?hd (cs := #[.int .i64 0,.int .i64 0]) (t := 25) ?hr ?_;(case hd => rfl);(case hg => rfl);(case hr => first | (go_simp;done) | (go_simp;rfl));intro gb101 hg w7 hbox hb;have n0_ := aZ_ (IsS58.below T19_ hb);have n1_ := aZ_ (KeepBut.trans T15_ (KeepBut.of_below hb g none) (.inl rfl));have n2_ := aZ_ (below_step T18_ hb);have n3_ := aZ_ (hbox);have n4_ := aZ_ ((T8_ : w.heap.size ≤ gb101));have n5_ := aZ_ ((Nat.le_trans HW0.out (T8_ : w.heap.size ≤ gb101) : w0.heap.size ≤ gb101));have n6_ := aZ_ ((T13_ : g ≠ gb101));have n7_ := aZ_ ((T14_ : gb101 ≠ g));clear HI0;clear HK;clear HB;have HI0 := n0_;have HK := n1_;have HB := n2_;have BK101 := n3_;have GW101 := n4_;have GE101 := n5_;have NB0_101 := n6_;have NB101_0 := n7_;clear n0_ n1_ n2_ n3_ n4_ n5_ n6_ n7_;clear hb hbox hg) | ((with_reducible refine gate_callee (f := 47) rfl ?_);refine goesL_ (some 6) rfl rfl Try.func47 T16_ rfl #[.pointer (some ⟨g,0,none⟩),.int .i64 5] rfl T3_ ?_;(with_reducible refine (spec_l1Below.calls g s0_0 s0_1 s0_2 5 t102 t103 t104 w0 _ ?side1 ?side2 A2.out).mono ?_);(case side1 => repeat (first | (with_reducible first | exact HI0.out | apply IsS58.alloc | apply IsS58.drewN | apply IsS58.drew | apply IsS58.set_1 | apply IsS58.set_2 | refine IsS58.far ?_ NB0_101.out _) | exact HI0.out));(case side2 => repeat (first | (with_reducible first | exact HB.out | apply below_alloc | apply pw_below_drewN | apply below_drew1 | refine below_set ?_ (IsS58.ge HI0.out) | refine below_set ?_ GE101.out) | exact HB.out));rintro e w8 ⟨rfl,hi,hb,hk⟩;refine ⟨_,rfl,?_⟩;have n0_ := aZ_ (KeepBut.blk hk (g' := gb101) (o := .cells #[.int .i64 0,.int .i64 0] 25 (0,0)) T2_ NB101_0.out T42_);have n1_ := aZ_ (KeepBut.trans T5_ hk (.inl rfl));have n2_ := aZ_ (hb);have n3_ := aZ_ (hi);clear BK101;clear HK;clear HB;clear HI0;have BK101 := n0_;have HK := n1_;have HB := n2_;have HI0 := n3_;clear n0_ n1_ n2_ n3_;(try clear hb);(try clear hb2);(try clear hk);(try clear hi)) | ((with_reducible refine gate_callee (f := 56) rfl ?_);refine goesL_ (some 7) rfl rfl Try.func56 T16_ rfl #[.pointer (some ⟨g,0,none⟩),.int .i64 t102] rfl T3_ ?_;(with_reducible refine (spec_l2Draw.calls k g s0_0 t103 t104 t102 t105 t106 t107 t108 w0 _ ?side1 ?side2 A3.out).mono ?_);(case side1 => repeat (first | (with_reducible first | exact HI0.out | apply IsS58.alloc | apply IsS58.drewN | apply IsS58.drew | apply IsS58.set_1 | apply IsS58.set_2 | refine IsS58.far ?_ NB0_101.out _) | exact HI0.out));(case side2 => repeat (first | (with_reducible first | exact HB.out | apply below_alloc | apply pw_below_drewN | apply below_drew1 | refine below_set ?_ (IsS58.ge HI0.out) | refine below_set ?_ GE101.out) | exact HB.out));rintro e w9 ⟨rfl,hi,hb,hk⟩;refine ⟨_,rfl,?_⟩;have n0_ := aZ_ (KeepBut.blk hk (g' := gb101) (o := .cells #[.int .i64 0,.int .i64 0] 25 (0,0)) T2_ NB101_0.out T42_);have n1_ := aZ_ (KeepBut.trans T5_ hk (.inl rfl));have n2_ := aZ_ (hb);have n3_ := aZ_ (hi);clear BK101;clear HK;clear HB;clear HI0;have BK101 := n0_;have HK := n1_;have HB := n2_;have HI0 := n3_;clear n0_ n1_ n2_ n3_;(try clear hb);(try clear hb2);(try clear hk);(try clear hi)) | ((with_reducible refine gate_dst (N := 3) rfl ?_);refine box_event ?hg (N := 3) ?hd (cs := #[.int .i64 0,.int .i64 0]) (t := 25) ?hr ?_;(case hd => rfl);(case hg => rfl);(case hr => first | (go_simp;done) | (go_simp;rfl));intro gb109 hg w10 hbox hb;have n0_ := aZ_ (IsS58.below T11_ hb);have n1_ := aZ_ (blk_below (g := gb101) (o := .cells #[.int .i64 0,.int .i64 0] 25 (0,0)) T2_ hb);have n2_ := aZ_ (KeepBut.trans T5_ (KeepBut.of_below hb g none) (.inl rfl));have n3_ := aZ_ (below_step T12_ hb);have n4_ := aZ_ (hbox);have n5_ := aZ_ ((T22_ : w.heap.size ≤ gb109));have n6_ := aZ_ ((Nat.le_trans HW0.out (T22_ : w.heap.size ≤ gb109) : w0.heap.size ≤ gb109));have n7_ := aZ_ ((T29_ : gb101 ≠ gb109));have n8_ := aZ_ ((T30_ : gb109 ≠ gb101));have n9_ := aZ_ ((T31_ : g ≠ gb109));have n10_ := aZ_ ((T32_ : gb109 ≠ g));clear HI0;clear BK101;clear HK;clear HB;have HI0 := n0_;have BK101 := n1_;have HK := n2_;have HB := n3_;have BK109 := n4_;have GW109 := n5_;have GE109 := n6_;have NB101_109 := n7_;have NB109_101 := n8_;have NB0_109 := n9_;have NB109_0 := n10_;clear n0_ n1_ n2_ n3_ n4_ n5_ n6_ n7_ n8_ n9_ n10_;clear hb hbox hg;have hnb11 := NB109_101.out;have hnc11 := NB101_109.out;have hnb12 := NB109_0.out;have hnc12 := NB0_109.out;have hcz13_0 : w10.cell? ⟨gb109,0,none⟩ = some (.int .i64 0) := (blk_cell BK109.out 0).trans rfl;have hcz13_1 : w10.cell? ⟨gb109,1,none⟩ = some (.int .i64 0) := (blk_cell BK109.out 1).trans rfl;have hfz13_0 := blk_frozen BK109.out 0;have hfz13_1 := blk_frozen BK109.out 1) | ((with_reducible refine gate_callee (f := 47) rfl ?_);refine goesL_ (some 9) rfl rfl Try.func47 T16_ rfl #[.pointer (some ⟨g,0,none⟩),.int .i64 14] rfl T3_ ?_;(with_reducible refine (spec_l1Below.calls g s0_0 t107 t108 14 t110 t111 t112 w0 _ ?side1 ?side2 A4.out).mono ?_);(case side1 => repeat (first | (with_reducible first | exact HI0.out | apply IsS58.alloc | apply IsS58.drewN | apply IsS58.drew | apply IsS58.set_1 | apply IsS58.set_2 | refine IsS58.far ?_ NB0_101.out _ | refine IsS58.far ?_ NB0_109.out _) | exact HI0.out));(case side2 => repeat (first | (with_reducible first | exact HB.out | apply below_alloc | apply pw_below_drewN | apply below_drew1 | refine below_set ?_ (IsS58.ge HI0.out) | refine below_set ?_ GE101.out | refine below_set ?_ GE109.out) | exact HB.out));rintro e w14 ⟨rfl,hi,hb,hk⟩;refine ⟨_,rfl,?_⟩;have n0_ := aZ_ (KeepBut.blk hk (g' := gb101) (o := .cells #[.int .i64 0,.int .i64 0] 25 (0,0)) T26_ NB101_0.out T42_);have n1_ := aZ_ (KeepBut.blk hk (g' := gb109) (o := .cells #[.int .i64 t105,.int .i64 t106] 25 (0,0)) T24_ NB109_0.out T42_);have n2_ := aZ_ (KeepBut.trans T20_ hk (.inl rfl));have n3_ := aZ_ (hb);have n4_ := aZ_ (hi);clear BK101;clear BK109;clear HK;clear HB;clear HI0;have BK101 := n0_;have BK109 := n1_;have HK := n2_;have HB := n3_;have HI0 := n4_;clear n0_ n1_ n2_ n3_ n4_;(try clear hb);(try clear hb2);(try clear hk);(try clear hi)) | ((with_reducible refine gate_dst (N := 13) rfl ?_);refine Kd.R_lit (Kd.int .i64) _ 3 ?hg (N := 13) ?hd (xs := ([(-1),6,5,0,9223372036854775807] : List Int)) (inner := [.int .i64 (-1),.int .i64 6,.int .i64 5,.int .i64 0,.int .i64 9223372036854775807]) (ok := fun _ => True) (okp := fun _ => True) ?hr ?hp (fun _ hk => hk) trivial (Below.refl _ _) (Nat.le_refl _) T42_ ?_;(case hd => rfl);(case hg => rfl);(case hr => first | (go_simp;done) | (go_simp;rfl));(case hp => exact (Reps.one (show Kd.M (Kd.int .i64) _ _ _ (-1) [.int .i64 (-1)] from rfl) (Reps.one (show Kd.M (Kd.int .i64) _ _ _ 6 [.int .i64 6] from rfl) (Reps.one (show Kd.M (Kd.int .i64) _ _ _ 5 [.int .i64 5] from rfl) (Reps.one (show Kd.M (Kd.int .i64) _ _ _ 0 [.int .i64 0] from rfl) (Reps.one (show Kd.M (Kd.int .i64) _ _ _ 9223372036854775807 [.int .i64 9223372036854775807] from rfl) (Reps.none _ _)))))));intro v114 w15 ho16 hb hg_ hnew_;clear hg_ hnew_;(first | rw [← Ny113.out] at ho16 | (simp only [Int.reduceToNat] at ho16;rw [← Ny113.out] at ho16));have n0_ := aZ_ (Kd.R_lower ho16 (keep_size (w := w) (g := g) (row := none) T20_));have n1_ := aZ_ (IsS58.below T39_ hb);have n2_ := aZ_ (blk_below (g := gb101) (o := .cells #[.int .i64 0,.int .i64 0] 25 (0,0)) T2_ hb);have n3_ := aZ_ (blk_below (g := gb109) (o := .cells #[.int .i64 t105,.int .i64 t106] 25 (0,0)) T41_ hb);have n4_ := aZ_ (KeepBut.trans T20_ (KeepBut.of_below hb g none) (.inl rfl));have n5_ := aZ_ (below_step T40_ hb);clear HI0;clear BK101;clear BK109;clear HK;clear HB;have HO115 := n0_;have HI0 := n1_;have BK101 := n2_;have BK109 := n3_;have HK := n4_;have HB := n5_;clear n0_ n1_ n2_ n3_ n4_ n5_;clear hb ho16;obtain ⟨Ao17,co17,eo17⟩ := Kd.R_slice HO115.out;subst eo17) | ((with_reducible refine gate_callee (f := 46) rfl ?_);refine goesL_ (some 14) rfl rfl Try.func46 T16_ rfl #[.pointer (some ⟨g,0,none⟩),.slice Ao17 y113.length co17] rfl T3_ ?_;(with_reducible refine (spec_l1PickInt.calls g s0_0 t111 t112 _ _ y113 t116 t117 t118 w0 _ ?side1 ?side2 ?side3 ?side4 ?side5 A6.out).mono ?_);(case side1 => repeat (first | (with_reducible first | exact HI0.out | apply IsS58.alloc | apply IsS58.drewN | apply IsS58.drew | apply IsS58.set_1 | apply IsS58.set_2 | refine IsS58.far ?_ NB0_101.out _ | refine IsS58.far ?_ NB0_109.out _) | exact HI0.out));(case side2 => repeat (first | (with_reducible first | exact HB.out | apply below_alloc | apply pw_below_drewN | apply below_drew1 | refine below_set ?_ (IsS58.ge HI0.out) | refine below_set ?_ GE101.out | refine below_set ?_ GE109.out) | exact HB.out));(case side3 => repeat (first | exact (Kd.R_reads' HO115.out).2.2 | (with_reducible refine Kd.C_alloc ?_ _) | (with_reducible refine Kd.C_drewN ?_ _) | (with_reducible refine Kd.C_drew ?_)));(case side4 => exact (Kd.R_reads' HO115.out).2.1);(case side5 => exact far_slice (IsS58.own_ne HI0.out HO115.out T43_));rintro e w18 ⟨rfl,hi,hb,hk⟩;refine ⟨_,rfl,?_⟩;have n0_ := aZ_ (KeepBut.blk hk (g' := gb101) (o := .cells #[.int .i64 0,.int .i64 0] 25 (0,0)) T2_ NB101_0.out T42_);have n1_ := aZ_ (KeepBut.blk hk (g' := gb109) (o := .cells #[.int .i64 t105,.int .i64 t106] 25 (0,0)) T41_ NB109_0.out T42_);have n2_ := aZ_ (Kd.R_mono (Kd.R_keep (IsS58.apart (show IsS58 w0 _ g s0_0 t111 t112 from by repeat (first | (with_reducible first | exact HI0.out | apply IsS58.alloc | apply IsS58.drewN | apply IsS58.drew | apply IsS58.set_1 | apply IsS58.set_2 | refine IsS58.far ?_ NB0_101.out _ | refine IsS58.far ?_ NB0_109.out _) | exact HI0.out)) (by (with_reducible repeat (first | apply Kd.R_alloc | apply Kd.R_drewN | apply Kd.R_drew));exact HO115.out) T43_) hk (fun _ h => h.2)) (fun _ h => h.1));have n3_ := aZ_ (KeepBut.trans T20_ hk (.inl rfl));have n4_ := aZ_ (hb);have n5_ := aZ_ (hi);clear BK101;clear BK109;clear HO115;clear HK;clear HB;clear HI0;have BK101 := n0_;have BK109 := n1_;have HO115 := n2_;have HK := n3_;have HB := n4_;have HI0 := n5_;clear n0_ n1_ n2_ n3_ n4_ n5_;(try clear hb);(try clear hb2);(try clear hk);(try clear hi);have hcz19_0 : w18.cell? ⟨gb109,0,none⟩ = some (.int .i64 t105) := (blk_cell BK109.out 0).trans rfl;have hcz19_1 : w18.cell? ⟨gb109,1,none⟩ = some (.int .i64 t106) := (blk_cell BK109.out 1).trans rfl;have hfz19_0 := blk_frozen BK109.out 0;have hfz19_1 := blk_frozen BK109.out 1;have hnb20 := NB101_0.out;have hnc20 := NB0_101.out;have hcz21_0 : w18.cell? ⟨gb101,0,none⟩ = some (.int .i64 0) := (blk_cell BK101.out 0).trans rfl;have hcz21_1 : w18.cell? ⟨gb101,1,none⟩ = some (.int .i64 0) := (blk_cell BK101.out 1).trans rfl;have hfz21_0 := blk_frozen BK101.out 0;have hfz21_1 := blk_frozen BK101.out 1))
  refine bodyPost_ret (results_cell_row rfl _ _ gb101 25 #[.int .i64 t116,.int .i64 t106] (0,0) _ rfl (by (with_reducible repeat (first | refine blk_drewN ?_ _ | refine blk_drew ?_ | refine blk_alloc ?_ _));refine blk_put (cs := #[.int .i64 t116,.int .i64 0]) ?_ 1 _ rfl;(with_reducible repeat (first | refine blk_drewN ?_ _ | refine blk_drew ?_ | refine blk_alloc ?_ _));refine blk_put (cs := #[.int .i64 0,.int .i64 0]) ?_ 0 _ rfl;(with_reducible repeat (first | refine blk_drewN ?_ _ | refine blk_drew ?_ | refine blk_alloc ?_ _));refine blk_far ?_ NB101_109.out _;(with_reducible repeat (first | refine blk_drewN ?_ _ | refine blk_drew ?_ | refine blk_alloc ?_ _));exact BK101.out) Try.underlying25 rfl T16_) rfl ?_
  exact ⟨by first | rfl | (simp [errW_none,errW_some] <;> rfl) | (simp [*,errW_none,errW_some] <;> rfl),by repeat (first | (with_reducible first | exact HI0.out | apply IsS58.alloc | apply IsS58.drewN | apply IsS58.drew | apply IsS58.set_1 | apply IsS58.set_2 | refine IsS58.far ?_ NB0_101.out _ | refine IsS58.far ?_ NB0_109.out _) | exact HI0.out),by repeat (first | (with_reducible first | exact HB.out | apply below_alloc | apply pw_below_drewN | apply below_drew1 | refine below_set ?_ (IsS58.ge HI0.out) | refine below_set ?_ GE101.out | refine below_set ?_ GE109.out) | exact HB.out),by repeat (first | (with_reducible first | exact HK.out | apply KeepBut.set_ | apply keep_drewN | apply keep_drew | apply keep_alloc | refine keep_far ?_ GW101.out _ | refine keep_far ?_ GW109.out _) | exact HK.out)⟩
 ·rw [if_neg c5] at H
  have c5b0 : (t110 == 0) = false := beq_eq_false_iff_ne.mpr c5
  have c5b1 : (t110 != 0) = true := bne_iff_ne.mpr c5
  by_cases c22 : t110 = 1
  ·rw [if_pos c22] at H
   have c22b0 : (t110 == 1) = true := beq_iff_eq.mpr c22
   have c22b1 : (t110 != 1) = false := bne_eq_false_iff_eq.mpr c22
   clear c22
   obtain ⟨y119,hy119⟩ : ∃ y_ : List Int,y_ = (([(-1),0,1,65536,9223372036854775807] : List Int)) := ⟨_,rfl⟩
   replace H : ((spec_l1PickInt.f s0_0 t111 t112 y119).bind fun bt122 => (some (t105,bt122.1,bt122.2.1,bt122.2.2))) = some (r1,r2,r3,r4) := by first | (rw [hy119];with_reducible exact H) | (have H2_ := (Option.bind_some _ _).symm.trans H;rw [hy119];with_reducible exact H2_) | (have H2_ := (Option.bind_some _ _).symm.trans H;with_reducible exact H2_) | with_reducible exact H | (rw [hy119];exact H) | exact H
   have Ny119 := aZ_ hy119
   clear hy119
   replace H := Option.bind_eq_some_iff.mp H
   obtain ⟨⟨t122,t123,t124⟩,A230,H⟩ := H
   replace H : (some (t105,t122,t123,t124)) = some (r1,r2,r3,r4) := H
   have A23 := aZ_ A230
   clear A230
   simp only [Option.some.injEq,Prod.mk.injEq] at H
   obtain ⟨rfl,rfl,rfl,rfl⟩ := H
   go_enter Try.func30,Try.ntmps30
   go_wp2_with (first | ((with_reducible refine gate_dst (N := 2) rfl ?_);refine box_event ?hg (N := 2) ?hd (cs := #[.int .i64 0,.int .i64 0]) (t := 25) ?hr ?_;(case hd => rfl);(case hg => rfl);(case hr => first | (go_simp;done) | (go_simp;rfl));intro gb101 hg w24 hbox hb;have n0_ := aZ_ (IsS58.below T19_ hb);have n1_ := aZ_ (KeepBut.trans T15_ (KeepBut.of_below hb g none) (.inl rfl));have n2_ := aZ_ (below_step T18_ hb);have n3_ := aZ_ (hbox);have n4_ := aZ_ ((T8_ : w.heap.size ≤ gb101));have n5_ := aZ_ ((Nat.le_trans HW0.out (T8_ : w.heap.size ≤ gb101) : w0.heap.size ≤ gb101));have n6_ := aZ_ ((T13_ : g ≠ gb101));have n7_ := aZ_ ((T14_ : gb101 ≠ g));clear HI0;clear HK;clear HB;have HI0 := n0_;have HK := n1_;have HB := n2_;have BK101 := n3_;have GW101 := n4_;have GE101 := n5_;have NB0_101 := n6_;have NB101_0 := n7_;clear n0_ n1_ n2_ n3_ n4_ n5_ n6_ n7_;clear hb hbox hg) | ((with_reducible refine gate_callee (f := 47) rfl ?_);refine goesL_ (some 6) rfl rfl Try.func47 T16_ rfl #[.pointer (some ⟨g,0,none⟩),.int .i64 5] rfl T3_ ?_;(with_reducible refine (spec_l1Below.calls g s0_0 s0_1 s0_2 5 t102 t103 t104 w0 _ ?side1 ?side2 A2.out).mono ?_);(case side1 => repeat (first | (with_reducible first | exact HI0.out | apply IsS58.alloc | apply IsS58.drewN | apply IsS58.drew | apply IsS58.set_1 | apply IsS58.set_2 | refine IsS58.far ?_ NB0_101.out _) | exact HI0.out));(case side2 => repeat (first | (with_reducible first | exact HB.out | apply below_alloc | apply pw_below_drewN | apply below_drew1 | refine below_set ?_ (IsS58.ge HI0.out) | refine below_set ?_ GE101.out) | exact HB.out));rintro e w25 ⟨rfl,hi,hb,hk⟩;refine ⟨_,rfl,?_⟩;have n0_ := aZ_ (KeepBut.blk hk (g' := gb101) (o := .cells #[.int .i64 0,.int .i64 0] 25 (0,0)) T2_ NB101_0.out T42_);have n1_ := aZ_ (KeepBut.trans T5_ hk (.inl rfl));have n2_ := aZ_ (hb);have n3_ := aZ_ (hi);clear BK101;clear HK;clear HB;clear HI0;have BK101 := n0_;have HK := n1_;have HB := n2_;have HI0 := n3_;clear n0_ n1_ n2_ n3_;(try clear hb);(try clear hb2);(try clear hk);(try clear hi)) | ((with_reducible refine gate_callee (f := 56) rfl ?_);refine goesL_ (some 7) rfl rfl Try.func56 T16_ rfl #[.pointer (some ⟨g,0,none⟩),.int .i64 t102] rfl T3_ ?_;(with_reducible refine (spec_l2Draw.calls k g s0_0 t103 t104 t102 t105 t106 t107 t108 w0 _ ?side1 ?side2 A3.out).mono ?_);(case side1 => repeat (first | (with_reducible first | exact HI0.out | apply IsS58.alloc | apply IsS58.drewN | apply IsS58.drew | apply IsS58.set_1 | apply IsS58.set_2 | refine IsS58.far ?_ NB0_101.out _) | exact HI0.out));(case side2 => repeat (first | (with_reducible first | exact HB.out | apply below_alloc | apply pw_below_drewN | apply below_drew1 | refine below_set ?_ (IsS58.ge HI0.out) | refine below_set ?_ GE101.out) | exact HB.out));rintro e w26 ⟨rfl,hi,hb,hk⟩;refine ⟨_,rfl,?_⟩;have n0_ := aZ_ (KeepBut.blk hk (g' := gb101) (o := .cells #[.int .i64 0,.int .i64 0] 25 (0,0)) T2_ NB101_0.out T42_);have n1_ := aZ_ (KeepBut.trans T5_ hk (.inl rfl));have n2_ := aZ_ (hb);have n3_ := aZ_ (hi);clear BK101;clear HK;clear HB;clear HI0;have BK101 := n0_;have HK := n1_;have HB := n2_;have HI0 := n3_;clear n0_ n1_ n2_ n3_;(try clear hb);(try clear hb2);(try clear hk);(try clear hi)) | ((with_reducible refine gate_dst (N := 3) rfl ?_);refine box_event ?hg (N := 3) ?hd (cs := #[.int .i64 0,.int .i64 0]) (t := 25) ?hr ?_;(case hd => rfl);(case hg => rfl);(case hr => first | (go_simp;done) | (go_simp;rfl));intro gb109 hg w27 hbox hb;have n0_ := aZ_ (IsS58.below T11_ hb);have n1_ := aZ_ (blk_below (g := gb101) (o := .cells #[.int .i64 0,.int .i64 0] 25 (0,0)) T2_ hb);have n2_ := aZ_ (KeepBut.trans T5_ (KeepBut.of_below hb g none) (.inl rfl));have n3_ := aZ_ (below_step T12_ hb);have n4_ := aZ_ (hbox);have n5_ := aZ_ ((T22_ : w.heap.size ≤ gb109));have n6_ := aZ_ ((Nat.le_trans HW0.out (T22_ : w.heap.size ≤ gb109) : w0.heap.size ≤ gb109));have n7_ := aZ_ ((T29_ : gb101 ≠ gb109));have n8_ := aZ_ ((T30_ : gb109 ≠ gb101));have n9_ := aZ_ ((T31_ : g ≠ gb109));have n10_ := aZ_ ((T32_ : gb109 ≠ g));clear HI0;clear BK101;clear HK;clear HB;have HI0 := n0_;have BK101 := n1_;have HK := n2_;have HB := n3_;have BK109 := n4_;have GW109 := n5_;have GE109 := n6_;have NB101_109 := n7_;have NB109_101 := n8_;have NB0_109 := n9_;have NB109_0 := n10_;clear n0_ n1_ n2_ n3_ n4_ n5_ n6_ n7_ n8_ n9_ n10_;clear hb hbox hg;have hnb28 := NB109_101.out;have hnc28 := NB101_109.out;have hnb29 := NB109_0.out;have hnc29 := NB0_109.out;have hcz30_0 : w27.cell? ⟨gb109,0,none⟩ = some (.int .i64 0) := (blk_cell BK109.out 0).trans rfl;have hcz30_1 : w27.cell? ⟨gb109,1,none⟩ = some (.int .i64 0) := (blk_cell BK109.out 1).trans rfl;have hfz30_0 := blk_frozen BK109.out 0;have hfz30_1 := blk_frozen BK109.out 1) | ((with_reducible refine gate_callee (f := 47) rfl ?_);refine goesL_ (some 9) rfl rfl Try.func47 T16_ rfl #[.pointer (some ⟨g,0,none⟩),.int .i64 14] rfl T3_ ?_;(with_reducible refine (spec_l1Below.calls g s0_0 t107 t108 14 t110 t111 t112 w0 _ ?side1 ?side2 A4.out).mono ?_);(case side1 => repeat (first | (with_reducible first | exact HI0.out | apply IsS58.alloc | apply IsS58.drewN | apply IsS58.drew | apply IsS58.set_1 | apply IsS58.set_2 | refine IsS58.far ?_ NB0_101.out _ | refine IsS58.far ?_ NB0_109.out _) | exact HI0.out));(case side2 => repeat (first | (with_reducible first | exact HB.out | apply below_alloc | apply pw_below_drewN | apply below_drew1 | refine below_set ?_ (IsS58.ge HI0.out) | refine below_set ?_ GE101.out | refine below_set ?_ GE109.out) | exact HB.out));rintro e w31 ⟨rfl,hi,hb,hk⟩;refine ⟨_,rfl,?_⟩;have n0_ := aZ_ (KeepBut.blk hk (g' := gb101) (o := .cells #[.int .i64 0,.int .i64 0] 25 (0,0)) T26_ NB101_0.out T42_);have n1_ := aZ_ (KeepBut.blk hk (g' := gb109) (o := .cells #[.int .i64 t105,.int .i64 t106] 25 (0,0)) T24_ NB109_0.out T42_);have n2_ := aZ_ (KeepBut.trans T20_ hk (.inl rfl));have n3_ := aZ_ (hb);have n4_ := aZ_ (hi);clear BK101;clear BK109;clear HK;clear HB;clear HI0;have BK101 := n0_;have BK109 := n1_;have HK := n2_;have HB := n3_;have HI0 := n4_;clear n0_ n1_ n2_ n3_ n4_;(try clear hb);(try clear hb2);(try clear hk);(try clear hi)) | ((with_reducible refine gate_dst (N := 19) rfl ?_);refine Kd.R_lit (Kd.int .i64) _ 3 ?hg (N := 19) ?hd (xs := ([(-1),0,1,65536,9223372036854775807] : List Int)) (inner := [.int .i64 (-1),.int .i64 0,.int .i64 1,.int .i64 65536,.int .i64 9223372036854775807]) (ok := fun _ => True) (okp := fun _ => True) ?hr ?hp (fun _ hk => hk) trivial (Below.refl _ _) (Nat.le_refl _) T42_ ?_;(case hd => rfl);(case hg => rfl);(case hr => first | (go_simp;done) | (go_simp;rfl));(case hp => exact (Reps.one (show Kd.M (Kd.int .i64) _ _ _ (-1) [.int .i64 (-1)] from rfl) (Reps.one (show Kd.M (Kd.int .i64) _ _ _ 0 [.int .i64 0] from rfl) (Reps.one (show Kd.M (Kd.int .i64) _ _ _ 1 [.int .i64 1] from rfl) (Reps.one (show Kd.M (Kd.int .i64) _ _ _ 65536 [.int .i64 65536] from rfl) (Reps.one (show Kd.M (Kd.int .i64) _ _ _ 9223372036854775807 [.int .i64 9223372036854775807] from rfl) (Reps.none _ _)))))));intro v120 w32 ho33 hb hg_ hnew_;clear hg_ hnew_;(first | rw [← Ny119.out] at ho33 | (simp only [Int.reduceToNat] at ho33;rw [← Ny119.out] at ho33));have n0_ := aZ_ (Kd.R_lower ho33 (keep_size (w := w) (g := g) (row := none) T20_));have n1_ := aZ_ (IsS58.below T39_ hb);have n2_ := aZ_ (blk_below (g := gb101) (o := .cells #[.int .i64 0,.int .i64 0] 25 (0,0)) T2_ hb);have n3_ := aZ_ (blk_below (g := gb109) (o := .cells #[.int .i64 t105,.int .i64 t106] 25 (0,0)) T41_ hb);have n4_ := aZ_ (KeepBut.trans T20_ (KeepBut.of_below hb g none) (.inl rfl));have n5_ := aZ_ (below_step T40_ hb);clear HI0;clear BK101;clear BK109;clear HK;clear HB;have HO121 := n0_;have HI0 := n1_;have BK101 := n2_;have BK109 := n3_;have HK := n4_;have HB := n5_;clear n0_ n1_ n2_ n3_ n4_ n5_;clear hb ho33;obtain ⟨Ao34,co34,eo34⟩ := Kd.R_slice HO121.out;subst eo34) | ((with_reducible refine gate_callee (f := 46) rfl ?_);refine goesL_ (some 20) rfl rfl Try.func46 T16_ rfl #[.pointer (some ⟨g,0,none⟩),.slice Ao34 y119.length co34] rfl T3_ ?_;(with_reducible refine (spec_l1PickInt.calls g s0_0 t111 t112 _ _ y119 t122 t123 t124 w0 _ ?side1 ?side2 ?side3 ?side4 ?side5 A23.out).mono ?_);(case side1 => repeat (first | (with_reducible first | exact HI0.out | apply IsS58.alloc | apply IsS58.drewN | apply IsS58.drew | apply IsS58.set_1 | apply IsS58.set_2 | refine IsS58.far ?_ NB0_101.out _ | refine IsS58.far ?_ NB0_109.out _) | exact HI0.out));(case side2 => repeat (first | (with_reducible first | exact HB.out | apply below_alloc | apply pw_below_drewN | apply below_drew1 | refine below_set ?_ (IsS58.ge HI0.out) | refine below_set ?_ GE101.out | refine below_set ?_ GE109.out) | exact HB.out));(case side3 => repeat (first | exact (Kd.R_reads' HO121.out).2.2 | (with_reducible refine Kd.C_alloc ?_ _) | (with_reducible refine Kd.C_drewN ?_ _) | (with_reducible refine Kd.C_drew ?_)));(case side4 => exact (Kd.R_reads' HO121.out).2.1);(case side5 => exact far_slice (IsS58.own_ne HI0.out HO121.out T43_));rintro e w35 ⟨rfl,hi,hb,hk⟩;refine ⟨_,rfl,?_⟩;have n0_ := aZ_ (KeepBut.blk hk (g' := gb101) (o := .cells #[.int .i64 0,.int .i64 0] 25 (0,0)) T2_ NB101_0.out T42_);have n1_ := aZ_ (KeepBut.blk hk (g' := gb109) (o := .cells #[.int .i64 t105,.int .i64 t106] 25 (0,0)) T41_ NB109_0.out T42_);have n2_ := aZ_ (Kd.R_mono (Kd.R_keep (IsS58.apart (show IsS58 w0 _ g s0_0 t111 t112 from by repeat (first | (with_reducible first | exact HI0.out | apply IsS58.alloc | apply IsS58.drewN | apply IsS58.drew | apply IsS58.set_1 | apply IsS58.set_2 | refine IsS58.far ?_ NB0_101.out _ | refine IsS58.far ?_ NB0_109.out _) | exact HI0.out)) (by (with_reducible repeat (first | apply Kd.R_alloc | apply Kd.R_drewN | apply Kd.R_drew));exact HO121.out) T43_) hk (fun _ h => h.2)) (fun _ h => h.1));have n3_ := aZ_ (KeepBut.trans T20_ hk (.inl rfl));have n4_ := aZ_ (hb);have n5_ := aZ_ (hi);clear BK101;clear BK109;clear HO121;clear HK;clear HB;clear HI0;have BK101 := n0_;have BK109 := n1_;have HO121 := n2_;have HK := n3_;have HB := n4_;have HI0 := n5_;clear n0_ n1_ n2_ n3_ n4_ n5_;(try clear hb);(try clear hb2);(try clear hk);(try clear hi);have hcz36_0 : w35.cell? ⟨gb109,0,none⟩ = some (.int .i64 t105) := (blk_cell BK109.out 0).trans rfl;have hcz36_1 : w35.cell? ⟨gb109,1,none⟩ = some (.int .i64 t106) := (blk_cell BK109.out 1).trans rfl;have hfz36_0 := blk_frozen BK109.out 0;have hfz36_1 := blk_frozen BK109.out 1;have hnb37 := NB101_0.out;have hnc37 := NB0_101.out;have hcz38_0 : w35.cell? ⟨gb101,0,none⟩ = some (.int .i64 0) := (blk_cell BK101.out 0).trans rfl;have hcz38_1 : w35.cell? ⟨gb101,1,none⟩ = some (.int .i64 0) := (blk_cell BK101.out 1).trans rfl;have hfz38_0 := blk_frozen BK101.out 0;have hfz38_1 := blk_frozen BK101.out 1))
   refine bodyPost_ret (results_cell_row rfl _ _ gb101 25 #[.int .i64 t105,.int .i64 t122] (0,0) _ rfl (by (with_reducible repeat (first | refine blk_drewN ?_ _ | refine blk_drew ?_ | refine blk_alloc ?_ _));refine blk_put (cs := #[.int .i64 t105,.int .i64 0]) ?_ 1 _ rfl;(with_reducible repeat (first | refine blk_drewN ?_ _ | refine blk_drew ?_ | refine blk_alloc ?_ _));refine blk_put (cs := #[.int .i64 0,.int .i64 0]) ?_ 0 _ rfl;(with_reducible repeat (first | refine blk_drewN ?_ _ | refine blk_drew ?_ | refine blk_alloc ?_ _));refine blk_far ?_ NB101_109.out _;(with_reducible repeat (first | refine blk_drewN ?_ _ | refine blk_drew ?_ | refine blk_alloc ?_ _));exact BK101.out) Try.underlying25 rfl T16_) rfl ?_
   exact ⟨by first | rfl | (simp [errW_none,errW_some] <;> rfl) | (simp [*,errW_none,errW_some] <;> rfl),by repeat (first | (with_reducible first | exact HI0.out | apply IsS58.alloc | apply IsS58.drewN | apply IsS58.drew | apply IsS58.set_1 | apply IsS58.set_2 | refine IsS58.far ?_ NB0_101.out _ | refine IsS58.far ?_ NB0_109.out _) | exact HI0.out),by repeat (first | (with_reducible first | exact HB.out | apply below_alloc | apply pw_below_drewN | apply below_drew1 | refine below_set ?_ (IsS58.ge HI0.out) | refine below_set ?_ GE101.out | refine below_set ?_ GE109.out) | exact HB.out),by repeat (first | (with_reducible first | exact HK.out | apply KeepBut.set_ | apply keep_drewN | apply keep_drew | apply keep_alloc | refine keep_far ?_ GW101.out _ | refine keep_far ?_ GW109.out _) | exact HK.out)⟩
  ·rw [if_neg c22] at H
   have c22b0 : (t110 == 1) = false := beq_eq_false_iff_ne.mpr c22
   have c22b1 : (t110 != 1) = true := bne_iff_ne.mpr c22
   simp only [Option.some.injEq,Prod.mk.injEq] at H
   obtain ⟨rfl,rfl,rfl,rfl⟩ := H
   go_enter Try.func30,Try.ntmps30
   go_wp2_with (first | ((with_reducible refine gate_dst (N := 2) rfl ?_);refine box_event ?hg (N := 2) ?hd (cs := #[.int .i64 0,.int .i64 0]) (t := 25) ?hr ?_;(case hd => rfl);(case hg => rfl);(case hr => first | (go_simp;done) | (go_simp;rfl));intro gb101 hg w39 hbox hb;have n0_ := aZ_ (IsS58.below T19_ hb);have n1_ := aZ_ (KeepBut.trans T15_ (KeepBut.of_below hb g none) (.inl rfl));have n2_ := aZ_ (below_step T18_ hb);have n3_ := aZ_ (hbox);have n4_ := aZ_ ((T8_ : w.heap.size ≤ gb101));have n5_ := aZ_ ((Nat.le_trans HW0.out (T8_ : w.heap.size ≤ gb101) : w0.heap.size ≤ gb101));have n6_ := aZ_ ((T13_ : g ≠ gb101));have n7_ := aZ_ ((T14_ : gb101 ≠ g));clear HI0;clear HK;clear HB;have HI0 := n0_;have HK := n1_;have HB := n2_;have BK101 := n3_;have GW101 := n4_;have GE101 := n5_;have NB0_101 := n6_;have NB101_0 := n7_;clear n0_ n1_ n2_ n3_ n4_ n5_ n6_ n7_;clear hb hbox hg) | ((with_reducible refine gate_callee (f := 47) rfl ?_);refine goesL_ (some 6) rfl rfl Try.func47 T16_ rfl #[.pointer (some ⟨g,0,none⟩),.int .i64 5] rfl T3_ ?_;(with_reducible refine (spec_l1Below.calls g s0_0 s0_1 s0_2 5 t102 t103 t104 w0 _ ?side1 ?side2 A2.out).mono ?_);(case side1 => repeat (first | (with_reducible first | exact HI0.out | apply IsS58.alloc | apply IsS58.drewN | apply IsS58.drew | apply IsS58.set_1 | apply IsS58.set_2 | refine IsS58.far ?_ NB0_101.out _) | exact HI0.out));(case side2 => repeat (first | (with_reducible first | exact HB.out | apply below_alloc | apply pw_below_drewN | apply below_drew1 | refine below_set ?_ (IsS58.ge HI0.out) | refine below_set ?_ GE101.out) | exact HB.out));rintro e w40 ⟨rfl,hi,hb,hk⟩;refine ⟨_,rfl,?_⟩;have n0_ := aZ_ (KeepBut.blk hk (g' := gb101) (o := .cells #[.int .i64 0,.int .i64 0] 25 (0,0)) T2_ NB101_0.out T42_);have n1_ := aZ_ (KeepBut.trans T5_ hk (.inl rfl));have n2_ := aZ_ (hb);have n3_ := aZ_ (hi);clear BK101;clear HK;clear HB;clear HI0;have BK101 := n0_;have HK := n1_;have HB := n2_;have HI0 := n3_;clear n0_ n1_ n2_ n3_;(try clear hb);(try clear hb2);(try clear hk);(try clear hi)) | ((with_reducible refine gate_callee (f := 56) rfl ?_);refine goesL_ (some 7) rfl rfl Try.func56 T16_ rfl #[.pointer (some ⟨g,0,none⟩),.int .i64 t102] rfl T3_ ?_;(with_reducible refine (spec_l2Draw.calls k g s0_0 t103 t104 t102 t105 t106 t107 t108 w0 _ ?side1 ?side2 A3.out).mono ?_);(case side1 => repeat (first | (with_reducible first | exact HI0.out | apply IsS58.alloc | apply IsS58.drewN | apply IsS58.drew | apply IsS58.set_1 | apply IsS58.set_2 | refine IsS58.far ?_ NB0_101.out _) | exact HI0.out));(case side2 => repeat (first | (with_reducible first | exact HB.out | apply below_alloc | apply pw_below_drewN | apply below_drew1 | refine below_set ?_ (IsS58.ge HI0.out) | refine below_set ?_ GE101.out) | exact HB.out));rintro e w41 ⟨rfl,hi,hb,hk⟩;refine ⟨_,rfl,?_⟩;have n0_ := aZ_ (KeepBut.blk hk (g' := gb101) (o := .cells #[.int .i64 0,.int .i64 0] 25 (0,0)) T2_ NB101_0.out T42_);have n1_ := aZ_ (KeepBut.trans T5_ hk (.inl rfl));have n2_ := aZ_ (hb);have n3_ := aZ_ (hi);clear BK101;clear HK;clear HB;clear HI0;have BK101 := n0_;have HK := n1_;have HB := n2_;have HI0 := n3_;clear n0_ n1_ n2_ n3_;(try clear hb);(try clear hb2);(try clear hk);(try clear hi)) | ((with_reducible refine gate_dst (N := 3) rfl ?_);refine box_event ?hg (N := 3) ?hd (cs := #[.int .i64 0,.int .i64 0]) (t := 25) ?hr ?_;(case hd => rfl);(case hg => rfl);(case hr => first | (go_simp;done) | (go_simp;rfl));intro gb109 hg w42 hbox hb;have n0_ := aZ_ (IsS58.below T11_ hb);have n1_ := aZ_ (blk_below (g := gb101) (o := .cells #[.int .i64 0,.int .i64 0] 25 (0,0)) T2_ hb);have n2_ := aZ_ (KeepBut.trans T5_ (KeepBut.of_below hb g none) (.inl rfl));have n3_ := aZ_ (below_step T12_ hb);have n4_ := aZ_ (hbox);have n5_ := aZ_ ((T22_ : w.heap.size ≤ gb109));have n6_ := aZ_ ((Nat.le_trans HW0.out (T22_ : w.heap.size ≤ gb109) : w0.heap.size ≤ gb109));have n7_ := aZ_ ((T29_ : gb101 ≠ gb109));have n8_ := aZ_ ((T30_ : gb109 ≠ gb101));have n9_ := aZ_ ((T31_ : g ≠ gb109));have n10_ := aZ_ ((T32_ : gb109 ≠ g));clear HI0;clear BK101;clear HK;clear HB;have HI0 := n0_;have BK101 := n1_;have HK := n2_;have HB := n3_;have BK109 := n4_;have GW109 := n5_;have GE109 := n6_;have NB101_109 := n7_;have NB109_101 := n8_;have NB0_109 := n9_;have NB109_0 := n10_;clear n0_ n1_ n2_ n3_ n4_ n5_ n6_ n7_ n8_ n9_ n10_;clear hb hbox hg;have hnb43 := NB109_101.out;have hnc43 := NB101_109.out;have hnb44 := NB109_0.out;have hnc44 := NB0_109.out;have hcz45_0 : w42.cell? ⟨gb109,0,none⟩ = some (.int .i64 0) := (blk_cell BK109.out 0).trans rfl;have hcz45_1 : w42.cell? ⟨gb109,1,none⟩ = some (.int .i64 0) := (blk_cell BK109.out 1).trans rfl;have hfz45_0 := blk_frozen BK109.out 0;have hfz45_1 := blk_frozen BK109.out 1) | ((with_reducible refine gate_callee (f := 47) rfl ?_);refine goesL_ (some 9) rfl rfl Try.func47 T16_ rfl #[.pointer (some ⟨g,0,none⟩),.int .i64 14] rfl T3_ ?_;(with_reducible refine (spec_l1Below.calls g s0_0 t107 t108 14 t110 t111 t112 w0 _ ?side1 ?side2 A4.out).mono ?_);(case side1 => repeat (first | (with_reducible first | exact HI0.out | apply IsS58.alloc | apply IsS58.drewN | apply IsS58.drew | apply IsS58.set_1 | apply IsS58.set_2 | refine IsS58.far ?_ NB0_101.out _ | refine IsS58.far ?_ NB0_109.out _) | exact HI0.out));(case side2 => repeat (first | (with_reducible first | exact HB.out | apply below_alloc | apply pw_below_drewN | apply below_drew1 | refine below_set ?_ (IsS58.ge HI0.out) | refine below_set ?_ GE101.out | refine below_set ?_ GE109.out) | exact HB.out));rintro e w46 ⟨rfl,hi,hb,hk⟩;refine ⟨_,rfl,?_⟩;have n0_ := aZ_ (KeepBut.blk hk (g' := gb101) (o := .cells #[.int .i64 0,.int .i64 0] 25 (0,0)) T26_ NB101_0.out T42_);have n1_ := aZ_ (KeepBut.blk hk (g' := gb109) (o := .cells #[.int .i64 t105,.int .i64 t106] 25 (0,0)) T24_ NB109_0.out T42_);have n2_ := aZ_ (KeepBut.trans T20_ hk (.inl rfl));have n3_ := aZ_ (hb);have n4_ := aZ_ (hi);clear BK101;clear BK109;clear HK;clear HB;clear HI0;have BK101 := n0_;have BK109 := n1_;have HK := n2_;have HB := n3_;have HI0 := n4_;clear n0_ n1_ n2_ n3_ n4_;(try clear hb);(try clear hb2);(try clear hk);(try clear hi);have hcz47_0 : w46.cell? ⟨gb109,0,none⟩ = some (.int .i64 t105) := (blk_cell BK109.out 0).trans rfl;have hcz47_1 : w46.cell? ⟨gb109,1,none⟩ = some (.int .i64 t106) := (blk_cell BK109.out 1).trans rfl;have hfz47_0 := blk_frozen BK109.out 0;have hfz47_1 := blk_frozen BK109.out 1;have hnb48 := NB101_0.out;have hnc48 := NB0_101.out;have hcz49_0 : w46.cell? ⟨gb101,0,none⟩ = some (.int .i64 0) := (blk_cell BK101.out 0).trans rfl;have hcz49_1 : w46.cell? ⟨gb101,1,none⟩ = some (.int .i64 0) := (blk_cell BK101.out 1).trans rfl;have hfz49_0 := blk_frozen BK101.out 0;have hfz49_1 := blk_frozen BK101.out 1))
   refine bodyPost_ret (results_cell_row rfl _ _ gb101 25 #[.int .i64 t105,.int .i64 t106] (0,0) _ rfl T28_ Try.underlying25 rfl T16_) rfl ?_
   exact ⟨by first | rfl | (simp [errW_none,errW_some] <;> rfl) | (simp [*,errW_none,errW_some] <;> rfl),by repeat (first | (with_reducible first | exact HI0.out | apply IsS58.alloc | apply IsS58.drewN | apply IsS58.drew | apply IsS58.set_1 | apply IsS58.set_2 | refine IsS58.far ?_ NB0_101.out _ | refine IsS58.far ?_ NB0_109.out _) | exact HI0.out),by repeat (first | (with_reducible first | exact HB.out | apply below_alloc | apply pw_below_drewN | apply below_drew1 | refine below_set ?_ (IsS58.ge HI0.out) | refine below_set ?_ GE101.out | refine below_set ?_ GE109.out) | exact HB.out),by repeat (first | (with_reducible first | exact HK.out | apply KeepBut.set_ | apply keep_drewN | apply keep_drew | apply keep_alloc | refine keep_far ?_ GW101.out _ | refine keep_far ?_ GW109.out _) | exact HK.out)⟩
def spec_l1New.l0 : Nat → List Int → Int → Int → Option (List Int × Int × Int)
 | 0,_,_,_ => none
 | k + 1,x0,x3,x4 => if x4 < (x0.length : Int) then (if x4 < 4000 then (if 0 ≤ x4 then (spec_l1New.l0 k x0 (Go.bits .and .i64 (wrap64 ((wrap64 ((wrap64 (x3 * 131)) + (wrap64 (rd x0 x4)))) + 7)) 1073741823) (wrap64 (x4 + 1))) else (none)) else (some (x0,0,x3))) else (some (x0,0,x3))
def spec_l1New.f (k : Nat) (l0 : List Int) : Option (List Int × Int × Int) := spec_l1New.l0 k l0 (wrap64 (10101 + (l0.length : Int))) 0
set_option maxHeartbeats 8000000 in
set_option maxRecDepth 100000 in
theorem spec_l1New.calls (k : Nat) (A0 : Option Addr) (c0 : Nat) (l0 : List Int) (r1 : List Int) (r2 : Int) (r3 : Int) (w0 w : World) (hB : Below w0.heap.size w0 w) (hr0 : Kd.C (Kd.int .u8) w0 A0 l0.length l0) (hc0 : l0.length ≤ c0) (h : spec_l1New.f k l0 = some (r1,r2,r3)) :
  Calls Try.prog 31 #[.slice A0 l0.length c0] w fun e w' => ∃ g_ : Nat,e = .returned (.pointer (some ⟨g_,0,none⟩)) ∧ IsS58 w0 w' g_ r1 r2 r3 ∧ Below w0.heap.size w0 w' ∧ Below w.heap.size w w' := by
 have hu58 := Try.underlying58
 have HR0 := aZ_ hr0
 have HC0 := aZ_ hc0
 clear hr0 hc0
 have HBW := aZ_ (Below.refl w.heap.size w)
 have HW0 := aZ_ hB.size
 have HB := aZ_ hB
 clear hB
 have H : (spec_l1New.l0 k l0 (wrap64 (10101 + (l0.length : Int))) 0) = some (r1,r2,r3) := h
 clear h
 have H' := aZ_ H
 clear H
 go_enter Try.func31,Try.ntmps31
 go_wp2
 go_loopg [3,4] k (fun kq v3 v4 w' => ∃ (x3_1 : Int) (x4_1 : Int),v3 = .int .i64 x3_1 ∧ v4 = .int .i64 x4_1 ∧ Aside0 (spec_l1New.l0 kq l0 x3_1 x4_1 = some (r1,r2,r3)) ∧ Aside0 (kq ≤ k) ∧ Aside0 (Below w0.heap.size w0 w') ∧ Aside0 (Below w.heap.size w w'))
 case atStart => exact ⟨(wrap64 (10101 + (l0.length : Int))),(0),T6_,T6_,H',⟨Nat.le_refl _⟩,⟨by repeat (first | (with_reducible first | exact HB.out | apply below_alloc | apply pw_below_drewN | apply below_drew1) | exact HB.out)⟩,HBW⟩
 case round =>
  clear H'
  obtain ⟨x3_1,x4_1,rfl,rfl,HA,HK1,HB,HBW⟩ := hrel
  cases gk with
  | zero => exact absurd HA.out (by simp [spec_l1New.l0])
  | succ k1 =>
   have H := HA.out
   clear HA
   simp only [spec_l1New.l0] at H
   by_cases c2 : x4_1 < (l0.length : Int)
   ·rw [if_pos c2] at H
    have c2b0 : decide (x4_1 < (l0.length : Int)) = true := decide_eq_true c2
    clear c2
    by_cases c3 : x4_1 < 4000
    ·rw [if_pos c3] at H
     have c3b0 : decide (x4_1 < 4000) = true := decide_eq_true c3
     clear c3
     by_cases c4 : 0 ≤ x4_1
     ·rw [if_pos c4] at H
      have c4b0 : decide (0 ≤ x4_1) = true := decide_eq_true c4
      clear c4
      have H' := aZ_ H
      clear H
      have p101 : 0 ≤ (x4_1 : Int) := of_decide_eq_true T10_
      have q101 : x4_1 < (l0.length : Int) := of_decide_eq_true T10_
      obtain ⟨ad101,e101,hx101_0⟩ := Kd.at_int HR0.out x4_1 p101 q101
      cases e101
      replace hx101_0 := pw_cell_below HB.out hx101_0
      replace p101 := eq_true p101
      replace q101 := eq_true q101
      go_wp2
      go_roundg k1
      case measure => have := HK1.out;omega
      case rel => exact ⟨(Go.bits .and .i64 (wrap64 ((wrap64 ((wrap64 (x3_1 * 131)) + (wrap64 (rd l0 x4_1)))) + 7)) 1073741823),(wrap64 (x4_1 + 1)),T6_,T6_,H',⟨by have := HK1.out;omega⟩,⟨by repeat (first | (with_reducible first | exact HB.out | apply below_alloc | apply pw_below_drewN | apply below_drew1) | exact HB.out)⟩,HBW⟩
     ·rw [if_neg c4] at H
      exact absurd H T42_
    ·rw [if_neg c3] at H
     have c3b0 : decide (x4_1 < 4000) = false := decide_eq_false c3
     clear c3
     simp only [Option.some.injEq,Prod.mk.injEq] at H
     obtain ⟨rfl,rfl,rfl⟩ := H
     go_wp2_with (first | ((with_reducible refine gate_dst (N := 31) rfl ?_);refine box_event ?hg (N := 31) ?hd (cs := #[.slice A0 l0.length c0,.int .i64 0,.int .i64 x3_1]) (t := 58) ?hr ?_;(case hd => rfl);(case hg => rfl);(case hr => first | (go_simp;done) | (go_simp;rfl));intro gb102 hg w5 hbox hb;have n0_ := aZ_ (below_step HBW.out hb);have n1_ := aZ_ (below_step T7_ hb);have n2_ := aZ_ (hbox);have n3_ := aZ_ ((T37_ : w.heap.size ≤ gb102));have n4_ := aZ_ ((Nat.le_trans HW0.out (T37_ : w.heap.size ≤ gb102) : w0.heap.size ≤ gb102));clear HBW;clear HB;have HBW := n0_;have HB := n1_;have BK102 := n2_;have GW102 := n3_;have GE102 := n4_;clear n0_ n1_ n2_ n3_ n4_;clear hb hbox hg))
     go_ret
     exact ⟨_,rfl,(show IsS58 w0 _ gb102 l0 0 x3_1 from ⟨_,_,by (with_reducible repeat (first | refine blk_drewN ?_ _ | refine blk_drew ?_ | refine blk_alloc ?_ _));exact BK102.out,GE102.out,HR0.out⟩),by repeat (first | (with_reducible first | exact HB.out | apply below_alloc | apply pw_below_drewN | apply below_drew1 | refine below_set ?_ GE102.out) | exact HB.out),by repeat (first | (with_reducible first | exact HBW.out | apply below_alloc | apply pw_below_drewN | apply below_drew1 | refine below_set ?_ GW102.out) | exact HBW.out)⟩
   ·rw [if_neg c2] at H
    have c2b0 : decide (x4_1 < (l0.length : Int)) = false := decide_eq_false c2
    clear c2
    simp only [Option.some.injEq,Prod.mk.injEq] at H
    obtain ⟨rfl,rfl,rfl⟩ := H
    go_wp2_with (first | ((with_reducible refine gate_dst (N := 31) rfl ?_);refine box_event ?hg (N := 31) ?hd (cs := #[.slice A0 l0.length c0,.int .i64 0,.int .i64 x3_1]) (t := 58) ?hr ?_;(case hd => rfl);(case hg => rfl);(case hr => first | (go_simp;done) | (go_simp;rfl));intro gb103 hg w6 hbox hb;have n0_ := aZ_ (below_step HBW.out hb);have n1_ := aZ_ (below_step T7_ hb);have n2_ := aZ_ (hbox);have n3_ := aZ_ ((T37_ : w.heap.size ≤ gb103));have n4_ := aZ_ ((Nat.le_trans HW0.out (T37_ : w.heap.size ≤ gb103) : w0.heap.size ≤ gb103));clear HBW;clear HB;have HBW := n0_;have HB := n1_;have BK103 := n2_;have GW103 := n3_;have GE103 := n4_;clear n0_ n1_ n2_ n3_ n4_;clear hb hbox hg))
    go_ret
    exact ⟨_,rfl,(show IsS58 w0 _ gb103 l0 0 x3_1 from ⟨_,_,by (with_reducible repeat (first | refine blk_drewN ?_ _ | refine blk_drew ?_ | refine blk_alloc ?_ _));exact BK103.out,GE103.out,HR0.out⟩),by repeat (first | (with_reducible first | exact HB.out | apply below_alloc | apply pw_below_drewN | apply below_drew1 | refine below_set ?_ GE103.out) | exact HB.out),by repeat (first | (with_reducible first | exact HBW.out | apply below_alloc | apply pw_below_drewN | apply below_drew1 | refine below_set ?_ GW103.out) | exact HBW.out)⟩
def spec_DrawSpectrumOf.f (k : Nat) (l0 : List Int) : Option (Int × Int) := (spec_l1New.f k l0).bind fun bt102 => ((spec_l2Any.f k bt102.1 bt102.2.1 bt102.2.2).bind fun bt106 => (some (bt106.1,bt106.2.1)))
set_option maxHeartbeats 8000000 in
set_option maxRecDepth 100000 in
theorem spec_DrawSpectrumOf.calls (k : Nat) (A0 : Option Addr) (c0 : Nat) (l0 : List Int) (r1 : Int) (r2 : Int) (w : World) (hr0 : Kd.C (Kd.int .u8) w A0 l0.length l0) (hc0 : l0.length ≤ c0) (h : spec_DrawSpectrumOf.f k l0 = some (r1,r2)) :
  Calls Try.prog 5 #[.slice A0 l0.length c0] w fun e w' => e = .returned (.agg #[.int .i64 r1,.int .i64 r2]) ∧ Below w.heap.size w w' := by
 have hu25 := Try.underlying25
 have HR0 := aZ_ hr0
 have HC0 := aZ_ hc0
 clear hr0 hc0
 have HB := aZ_ (Below.refl w.heap.size w)
 have H : ((spec_l1New.f k l0).bind fun bt102 => ((spec_l2Any.f k bt102.1 bt102.2.1 bt102.2.2).bind fun bt106 => (some (bt106.1,bt106.2.1)))) = some (r1,r2) := h
 clear h
 replace H := Option.bind_eq_some_iff.mp H
 obtain ⟨⟨t102,t103,t104⟩,A20,H⟩ := H
 replace H : ((spec_l2Any.f k t102 t103 t104).bind fun bt106 => (some (bt106.1,bt106.2.1))) = some (r1,r2) := H
 have A2 := aZ_ A20
 clear A20
 replace H := Option.bind_eq_some_iff.mp H
 obtain ⟨⟨t106,t107,t108,t109⟩,A30,H⟩ := H
 replace H : (some (t106,t107)) = some (r1,r2) := H
 have A3 := aZ_ A30
 clear A30
 simp only [Option.some.injEq,Prod.mk.injEq] at H
 obtain ⟨rfl,rfl⟩ := H
 go_enter Try.func5,Try.ntmps5
 go_wp2_with (first | ((with_reducible refine gate_dst (N := 2) rfl ?_);refine box_event ?hg (N := 2) ?hd (cs := #[.int .i64 0,.int .i64 0]) (t := 25) ?hr ?_;(case hd => rfl);(case hg => rfl);(case hr => first | (go_simp;done) | (go_simp;rfl));intro gb101 hg w4 hbox hb;have n0_ := aZ_ (below_step T7_ hb);have n1_ := aZ_ (hbox);have n2_ := aZ_ ((T4_ : w.heap.size ≤ gb101));have n3_ := aZ_ ((T4_ : w.heap.size ≤ gb101));clear HB;have HB := n0_;have BK101 := n1_;have GW101 := n2_;have GE101 := n3_;clear n0_ n1_ n2_ n3_;clear hb hbox hg) | ((with_reducible refine gate_callee (f := 31) rfl ?_);refine goesL_ (some 4) rfl rfl Try.func31 T16_ rfl #[.slice A0 l0.length c0] rfl T3_ ?_;(with_reducible refine (spec_l1New.calls k _ _ l0 t102 t103 t104 w _ ?side1 ?side2 ?side3 A2.out).mono ?_);(case side1 => repeat (first | (with_reducible first | exact HB.out | apply below_alloc | apply pw_below_drewN | apply below_drew1 | refine below_set ?_ GE101.out) | exact HB.out));(case side2 => exact HR0.out);(case side3 => exact HC0.out);rintro e w5 ⟨g105,rfl,hi,hb,hb2⟩;refine ⟨_,rfl,?_⟩;have n0_ := aZ_ (blk_below (g := gb101) (o := .cells #[.int .i64 0,.int .i64 0] 25 (0,0)) T2_ hb2);have n1_ := aZ_ (hb);have n2_ := aZ_ (hi);have n3_ := aZ_ (IsS58.ne_blk hi (blk_below (g := gb101) (o := .cells #[.int .i64 0,.int .i64 0] 25 (0,0)) T2_ hb2) T43_);have n4_ := aZ_ (Ne.symm (IsS58.ne_blk hi (blk_below (g := gb101) (o := .cells #[.int .i64 0,.int .i64 0] 25 (0,0)) T2_ hb2) T43_));clear BK101;clear HB;have BK101 := n0_;have HB := n1_;have HI105 := n2_;have NB105_101 := n3_;have NB101_105 := n4_;clear n0_ n1_ n2_ n3_ n4_;(try clear hb);(try clear hb2);(try clear hk);(try clear hi)) | ((with_reducible refine gate_callee (f := 30) rfl ?_);refine goesL_ (some 5) rfl rfl Try.func30 T16_ rfl #[.pointer (some ⟨g105,0,none⟩)] rfl T3_ ?_;(with_reducible refine (spec_l2Any.calls k g105 t102 t103 t104 t106 t107 t108 t109 w _ ?side1 ?side2 A3.out).mono ?_);(case side1 => repeat (first | (with_reducible first | exact HI105.out | apply IsS58.alloc | apply IsS58.drewN | apply IsS58.drew | apply IsS58.set_1 | apply IsS58.set_2 | refine IsS58.far ?_ NB105_101.out _) | exact HI105.out));(case side2 => repeat (first | (with_reducible first | exact HB.out | apply below_alloc | apply pw_below_drewN | apply below_drew1 | refine below_set ?_ (IsS58.ge HI105.out) | refine below_set ?_ GE101.out) | exact HB.out));rintro e w6 ⟨rfl,hi,hb,hk⟩;refine ⟨_,rfl,?_⟩;have n0_ := aZ_ (KeepBut.blk hk (g' := gb101) (o := .cells #[.int .i64 0,.int .i64 0] 25 (0,0)) T2_ NB101_105.out T42_);have n1_ := aZ_ (hb);have n2_ := aZ_ (hi);clear BK101;clear HB;clear HI105;have BK101 := n0_;have HB := n1_;have HI105 := n2_;clear n0_ n1_ n2_;(try clear hb);(try clear hb2);(try clear hk);(try clear hi);have hnb7 := NB101_105.out;have hnc7 := NB105_101.out;have hcz8_0 : w6.cell? ⟨gb101,0,none⟩ = some (.int .i64 0) := (blk_cell BK101.out 0).trans rfl;have hcz8_1 : w6.cell? ⟨gb101,1,none⟩ = some (.int .i64 0) := (blk_cell BK101.out 1).trans rfl;have hfz8_0 := blk_frozen BK101.out 0;have hfz8_1 := blk_frozen BK101.out 1))
 refine bodyPost_ret (results_cell_row rfl _ _ gb101 25 #[.int .i64 t106,.int .i64 t107] (0,0) _ rfl T25_ Try.underlying25 rfl T16_) rfl ?_
 exact ⟨by first | rfl | (simp [errW_none,errW_some] <;> rfl) | (simp [*,errW_none,errW_some] <;> rfl),by repeat (first | (with_reducible first | exact HB.out | apply below_alloc | apply pw_below_drewN | apply below_drew1 | refine below_set ?_ (IsS58.ge HI105.out) | refine below_set ?_ GE101.out) | exact HB.out)⟩
def impl_sign.f (a0 : Int) : Option (Int) := some (wrap64 (1 - (wrap64 (2 * (Go.bits .and .i64 a0 1)))))
set_option maxHeartbeats 8000000 in
set_option maxRecDepth 100000 in
theorem impl_sign.calls (a0 : Int) (r : Int) (w : World) (h : impl_sign.f a0 = some r) :
  Calls Try.prog 41 #[.int .i64 a0] w fun e w' => e = .returned (.int .i64 r) ∧ Drawn0 w w' := by
 have H : (some (wrap64 (1 - (wrap64 (2 * (Go.bits .and .i64 a0 1)))))) = some r := h
 clear h
 obtain rfl := Option.some.inj H
 go_enter Try.func41,Try.ntmps41
 go_wp2
 go_ret
 exact ⟨by first | rfl | (simp;done) | (simp [*];done),by repeat (first | exact Drawn0.refl _ | apply Drawn0.step)⟩
mutual
def impl_Table_spectrum.l0 : Nat → List Int → Int → Int → Int → Int → Option (List Int)
 | 0,_,_,_,_,_ => none
 | k + 1,x3,x10,x11,x102000,x102001 => if x11 < x10 then ((impl_Table_size.f x102000 x102001).bind fun t106 => (impl_Table_spectrum.l1 k x3 x11 x10 x11 t106 0 x102000 x102001)) else (some x3)
def impl_Table_spectrum.l1 : Nat → List Int → Int → Int → Int → Int → Int → Int → Int → Option (List Int)
 | 0,_,_,_,_,_,_,_,_ => none
 | k + 1,x3,x4,x10,x11,x15,x16,x102000,x102001 => if x16 < x15 then (if 0 ≤ x4 then (if x4 < (x3.length : Int) then ((impl_Table_at.f x102000 x102001 x16).bind fun t108 => ((impl_ones.f (Go.bits .and .i64 x4 x16)).bind fun t109 => ((impl_sign.f (wrap64 (t108 + t109))).bind fun t110 => (impl_Table_spectrum.l1 k (x3.set (x4 : Int).toNat (wrap64 ((rd x3 x4) + t110))) x4 x10 x11 x15 (wrap64 (x16 + 1)) x102000 x102001)))) else (none)) else (none)) else (impl_Table_spectrum.l0 k x3 x10 (wrap64 (x11 + 1)) x102000 x102001)
end
def impl_Table_spectrum.f (k : Nat) (a0_0 : Int) (a0_1 : Int) : Option (List Int) := (impl_Table_size.f a0_0 a0_1).bind fun t102 => (if 0 ≤ t102 then (if (t102 : Int).toNat ≤ 35184372088832 then ((some (List.replicate (t102 : Int).toNat 0 : List Int)).bind fun y103 => (impl_Table_spectrum.l0 k y103 (y103.length : Int) 0 a0_0 a0_1)) else (none)) else (none))
def impl_Table_spectrum.T8 : Bool × List (List Nat × List Nat) := (true,[([],[]),([],[]),([0,1],[0,1]),([2],[2]),([],[]),([],[]),([4,5],[4,5]),([],[]),([],[]),([7,8],[7,8]),([9,6],[9]),([6,10],[6,10]),([11,10],[11]),([3,12],[3,12]),([0,1,0,1,2,3,4,5,6,7,8,9,10,11,12,13],[0,1]),([14,13,12,0,1,2,3,4,5,6,7,8,9,10,11,12,13],[13,14])])
def impl_Table_spectrum.B8 : List Nat := [0,0,3,7,0,0,48,0,0,384,1008,2032,4080,8191,16383,32767]
theorem impl_Table_spectrum.tab8 : rtab .any (opsOf Try.f33 8) = impl_Table_spectrum.T8 := by kernel_rfl
theorem impl_Table_spectrum.bits8 : waitsOk impl_Table_spectrum.T8.2 impl_Table_spectrum.B8 = true := by kernel_rfl
set_option maxHeartbeats 8000000 in
set_option maxRecDepth 100000 in
theorem impl_Table_spectrum.calls (k : Nat) (a0_0 : Int) (a0_1 : Int) (r : List Int) (w : World) (h : impl_Table_spectrum.f k a0_0 a0_1 = some r) :
  Calls Try.prog 33 #[.agg #[.int .i64 a0_0,.int .i64 a0_1]] w fun e w' => ∃ v0_ : Value,e = .returned (v0_) ∧ Kd.R (Kd.int .i64) 3 w' w.heap.size (fun _ => True) v0_ r ∧ Below w.heap.size w w' := by
 have hu25 := Try.underlying25
 have HB := aZ_ (Below.refl w.heap.size w)
 have H : ((impl_Table_size.f a0_0 a0_1).bind fun t102 => (if 0 ≤ t102 then (if (t102 : Int).toNat ≤ 35184372088832 then ((some (List.replicate (t102 : Int).toNat 0 : List Int)).bind fun y103 => (impl_Table_spectrum.l0 k y103 (y103.length : Int) 0 a0_0 a0_1)) else (none)) else (none))) = some r := h
 clear h
 replace H := Option.bind_eq_some_iff.mp H
 obtain ⟨t102,A20,H⟩ := H
 replace H : (if 0 ≤ t102 then (if (t102 : Int).toNat ≤ 35184372088832 then ((some (List.replicate (t102 : Int).toNat 0 : List Int)).bind fun y103 => (impl_Table_spectrum.l0 k y103 (y103.length : Int) 0 a0_0 a0_1)) else (none)) else (none)) = some r := H
 have A2 := aZ_ A20
 clear A20
 by_cases c3 : 0 ≤ t102
 ·rw [if_pos c3] at H
  have c3b0 := eq_true c3
  have c3b1 : decide (0 ≤ t102) = true := decide_eq_true c3
  clear c3
  by_cases c4 : (t102 : Int).toNat ≤ 35184372088832
  ·rw [if_pos c4] at H
   have c4b0 := eq_true c4
   have c4b1 : decide ((t102 : Int).toNat ≤ 35184372088832) = true := decide_eq_true c4
   clear c4
   obtain ⟨y103,hy103⟩ : ∃ y_ : List Int,y_ = (List.replicate (t102 : Int).toNat 0) := ⟨_,rfl⟩
   replace H : (impl_Table_spectrum.l0 k y103 (y103.length : Int) 0 a0_0 a0_1) = some r := by first | (rw [hy103];with_reducible exact H) | (have H2_ := (Option.bind_some _ _).symm.trans H;rw [hy103];with_reducible exact H2_) | (have H2_ := (Option.bind_some _ _).symm.trans H;with_reducible exact H2_) | with_reducible exact H | (rw [hy103];exact H) | exact H
   have Ny103 := aZ_ hy103
   clear hy103
   have H' := aZ_ H
   clear H
   go_enter Try.func33,Try.ntmps33
   go_wp2_with (first | ((with_reducible refine gate_dst (N := 1) rfl ?_);refine box_event ?hg (N := 1) ?hd (cs := #[.int .i64 a0_0,.int .i64 a0_1]) (t := 25) ?hr ?_;(case hd => rfl);(case hg => rfl);(case hr => first | (go_simp;done) | (go_simp;rfl));intro gb101 hg w5 hbox hb;have n0_ := aZ_ (below_step T7_ hb);have n1_ := aZ_ (hbox);have n2_ := aZ_ ((T4_ : w.heap.size ≤ gb101));have n3_ := aZ_ ((T4_ : w.heap.size ≤ gb101));clear HB;have HB := n0_;have BK101 := n1_;have GW101 := n2_;have GE101 := n3_;clear n0_ n1_ n2_ n3_;clear hb hbox hg;have hcz6_0 : w5.cell? ⟨gb101,0,none⟩ = some (.int .i64 a0_0) := (blk_cell BK101.out 0).trans rfl;have hcz6_1 : w5.cell? ⟨gb101,1,none⟩ = some (.int .i64 a0_1) := (blk_cell BK101.out 1).trans rfl;have hfz6_0 := blk_frozen BK101.out 0;have hfz6_1 := blk_frozen BK101.out 1) | ((with_reducible refine gate_callee (f := 36) rfl ?_);refine goesL_ (some 7) rfl rfl Try.func36 T16_ rfl #[.agg #[.int .i64 a0_0,.int .i64 a0_1]] rfl T3_ ?_;(with_reducible refine (impl_Table_size.calls a0_0 a0_1 t102 _ A2.out).mono ?_);rintro e w7 ⟨rfl,hb⟩;refine ⟨_,rfl,?_⟩;have n0_ := aZ_ (blk_below (g := gb101) (o := .cells #[.int .i64 a0_0,.int .i64 a0_1] 25 (0,0)) T2_ hb);have n1_ := aZ_ (below_step T1_ hb);clear BK101;clear HB;have BK101 := n0_;have HB := n1_;clear n0_ n1_;(try clear hb);(try clear hb2);(try clear hk);(try clear hi)) | ((with_reducible refine gate_dst (N := 8) rfl ?_);refine Kd.R_make (Kd.int .i64) _ 3 rfl (N := 8) rfl 27 _ _ rfl t102 rfl rfl Try.underlying27 (.int .i64 0) 8 info3 rfl T43_ T48_ 0 (ok := fun _ => True) (okp := fun _ => True) rfl (fun _ hk => hk) trivial (of_decide_eq_true T10_) (Nat.le_trans (Nat.mul_le_mul_right _ (of_decide_eq_true T10_ : t102.toNat ≤ 35184372088832)) T48_) (Below.refl _ _) (Nat.le_refl _) ?_;intro v104 w8 ho9 hb hg_ hnew_;clear hg_ hnew_;(first | rw [← Ny103.out] at ho9 | (simp only [Int.reduceToNat] at ho9;rw [← Ny103.out] at ho9));have n0_ := aZ_ (Kd.R_lower ho9 (below_size T1_));have n1_ := aZ_ (blk_below (g := gb101) (o := .cells #[.int .i64 a0_0,.int .i64 a0_1] 25 (0,0)) T2_ hb);have n2_ := aZ_ (below_step T1_ hb);clear BK101;clear HB;have HO105 := n0_;have BK101 := n1_;have HB := n2_;clear n0_ n1_ n2_;clear hb ho9;obtain ⟨Ao10,co10,eo10⟩ := Kd.R_slice HO105.out;subst eo10))
   go_loopg [11] k (fun kq v11 w' => ∃ (x3_1 : List Int) (x11_1 : Int),v11 = .int .i64 x11_1 ∧ Aside0 (impl_Table_spectrum.l0 kq x3_1 (y103.length : Int) x11_1 a0_0 a0_1 = some r) ∧ Aside0 (kq ≤ k) ∧ Aside0 (Kd.R (Kd.int .i64) 3 w' w.heap.size (fun _ => True) (.slice Ao10 y103.length co10) x3_1) ∧ Aside0 (w'.heap[gb101]? = some (.cells #[.int .i64 a0_0,.int .i64 a0_1] 25 (0,0))) ∧ Aside0 (Below w.heap.size w w'))
   case atStart => exact ⟨(y103),(0),T6_,H',⟨Nat.le_refl _⟩,⟨by (with_reducible repeat (first | apply Kd.R_alloc | apply Kd.R_drewN | apply Kd.R_drew));exact HO105.out⟩,⟨by (with_reducible repeat (first | refine blk_drewN ?_ _ | refine blk_drew ?_ | refine blk_alloc ?_ _));exact BK101.out⟩,⟨by repeat (first | (with_reducible first | exact HB.out | apply below_alloc | apply pw_below_drewN | apply below_drew1 | refine below_set ?_ GE101.out) | exact HB.out)⟩⟩
   case round =>
    clear H'
    try clear p2
    try clear c3
    try clear c3b0
    try clear c3b1
    try clear c4
    try clear c4b0
    try clear c4b1
    try clear hcz6_0
    try clear hcz6_1
    try clear hfz6_0
    try clear hfz6_1
    obtain ⟨x3_1,x11_1,rfl,HA,HK1,HO_3,BK101,HB⟩ := hrel
    have hl3_1 := (Kd.R_reads' HO_3.out).1
    rw [hl3_1] at HO_3
    (try simp only [hl3_1])
    (try simp only [hl3_1] at BK101)
    cases gk with
    | zero => exact absurd HA.out (by simp [impl_Table_spectrum.l0])
    | succ k1 =>
     have H := HA.out
     clear HA
     simp only [impl_Table_spectrum.l0] at H
     by_cases c11 : x11_1 < (y103.length : Int)
     ·rw [if_pos c11] at H
      have c11b0 : decide (x11_1 < (y103.length : Int)) = true := decide_eq_true c11
      (try rw [hl3_1] at c11b0)
      (try rw [hl3_2] at c11b0)
      clear c11
      replace H := Option.bind_eq_some_iff.mp H
      obtain ⟨t106,A120,H⟩ := H
      replace H : (impl_Table_spectrum.l1 k1 x3_1 x11_1 (y103.length : Int) x11_1 t106 0 a0_0 a0_1) = some r := H
      have A12 := aZ_ A120
      clear A120
      have H' := aZ_ H
      clear H
      have hcz13_0 : wr.cell? ⟨gb101,0,none⟩ = some (.int .i64 a0_0) := (blk_cell BK101.out 0).trans rfl
      have hcz13_1 : wr.cell? ⟨gb101,1,none⟩ = some (.int .i64 a0_1) := (blk_cell BK101.out 1).trans rfl
      have hfz13_0 := blk_frozen BK101.out 0
      have hfz13_1 := blk_frozen BK101.out 1
      go_wp2_with (first | ((with_reducible refine gate_callee (f := 36) rfl ?_);refine goesL_ (some 15) rfl rfl Try.func36 T16_ rfl #[.agg #[.int .i64 a0_0,.int .i64 a0_1]] rfl T3_ ?_;(with_reducible refine (impl_Table_size.calls a0_0 a0_1 t106 _ A12.out).mono ?_);rintro e w14 ⟨rfl,hb⟩;refine ⟨_,rfl,?_⟩;have n0_ := aZ_ (Kd.R_below T17_ hb);have n1_ := aZ_ (blk_below (g := gb101) (o := .cells #[.int .i64 a0_0,.int .i64 a0_1] 25 (0,0)) T2_ hb);have n2_ := aZ_ (below_step T1_ hb);clear HO_3;clear BK101;clear HB;have HO_3 := n0_;have BK101 := n1_;have HB := n2_;clear n0_ n1_ n2_;(try clear hb);(try clear hb2);(try clear hk);(try clear hi)))
      go_loopg [16] k1 (fun kq v16 w' => ∃ (x3_2 : List Int) (x16_2 : Int),v16 = .int .i64 x16_2 ∧ Aside0 (impl_Table_spectrum.l1 kq x3_2 x11_1 (y103.length : Int) x11_1 t106 x16_2 a0_0 a0_1 = some r) ∧ Aside0 (kq ≤ k1) ∧ Aside0 (Kd.R (Kd.int .i64) 3 w' w.heap.size (fun _ => True) (.slice Ao10 x3_1.length co10) x3_2) ∧ Aside0 (w'.heap[gb101]? = some (.cells #[.int .i64 a0_0,.int .i64 a0_1] 25 (0,0))) ∧ Aside0 (Below w.heap.size w w'))
      case atStart => exact ⟨(x3_1),(0),T6_,H',⟨Nat.le_refl _⟩,⟨by (try simp only [hl3_1]);(with_reducible repeat (first | apply Kd.R_alloc | apply Kd.R_drewN | apply Kd.R_drew));exact HO_3.out⟩,⟨by (try simp only [hl3_1]);(with_reducible repeat (first | refine blk_drewN ?_ _ | refine blk_drew ?_ | refine blk_alloc ?_ _));exact BK101.out⟩,⟨by repeat (first | (with_reducible first | exact HB.out | apply below_alloc | apply pw_below_drewN | apply below_drew1 | refine below_set ?_ GE101.out) | exact HB.out)⟩⟩
      case round =>
       clear H'
       try clear c1
       try clear p2
       try clear c3
       try clear c3b0
       try clear c3b1
       try clear c4
       try clear c4b0
       try clear c4b1
       try clear c11
       try clear c11b0
       try clear hcz13_0
       try clear hcz13_1
       try clear hcz6_0
       try clear hcz6_1
       try clear hfz13_0
       try clear hfz13_1
       try clear hfz6_0
       try clear hfz6_1
       try clear p2
       obtain ⟨x3_2,x16_2,rfl,HA,HK2,HO_3,BK101,HB⟩ := hrel
       have hl3_2 := (Kd.R_reads' HO_3.out).1
       rw [hl3_2] at HO_3
       (try simp only [hl3_2])
       (try simp only [hl3_2] at BK101)
       cases gk with
       | zero => exact absurd HA.out (by simp [impl_Table_spectrum.l1])
       | succ k2 =>
        have H := HA.out
        clear HA
        simp only [impl_Table_spectrum.l1] at H
        by_cases c15 : x16_2 < t106
        ·rw [if_pos c15] at H
         have c15b0 : decide (x16_2 < t106) = true := decide_eq_true c15
         clear c15
         by_cases c16 : 0 ≤ x11_1
         ·rw [if_pos c16] at H
          have c16b0 : decide (0 ≤ x11_1) = true := decide_eq_true c16
          clear c16
          by_cases c17 : x11_1 < (x3_2.length : Int)
          ·rw [if_pos c17] at H
           have c17b0 : decide (x11_1 < (x3_2.length : Int)) = true := decide_eq_true c17
           (try rw [hl3_1] at c17b0)
           (try rw [hl3_2] at c17b0)
           clear c17
           replace H := Option.bind_eq_some_iff.mp H
           obtain ⟨t108,A180,H⟩ := H
           replace H : ((impl_ones.f (Go.bits .and .i64 x11_1 x16_2)).bind fun t109 => ((impl_sign.f (wrap64 (t108 + t109))).bind fun t110 => (impl_Table_spectrum.l1 k2 (x3_2.set (x11_1 : Int).toNat (wrap64 ((rd x3_2 x11_1) + t110))) x11_1 (y103.length : Int) x11_1 t106 (wrap64 (x16_2 + 1)) a0_0 a0_1))) = some r := H
           have A18 := aZ_ A180
           clear A180
           replace H := Option.bind_eq_some_iff.mp H
           obtain ⟨t109,A190,H⟩ := H
           replace H : ((impl_sign.f (wrap64 (t108 + t109))).bind fun t110 => (impl_Table_spectrum.l1 k2 (x3_2.set (x11_1 : Int).toNat (wrap64 ((rd x3_2 x11_1) + t110))) x11_1 (y103.length : Int) x11_1 t106 (wrap64 (x16_2 + 1)) a0_0 a0_1)) = some r := H
           have A19 := aZ_ A190
           clear A190
           replace H := Option.bind_eq_some_iff.mp H
           obtain ⟨t110,A200,H⟩ := H
           replace H : (impl_Table_spectrum.l1 k2 (x3_2.set (x11_1 : Int).toNat (wrap64 ((rd x3_2 x11_1) + t110))) x11_1 (y103.length : Int) x11_1 t106 (wrap64 (x16_2 + 1)) a0_0 a0_1) = some r := H
           have A20 := aZ_ A200
           clear A200
           obtain ⟨y111,hy111⟩ : ∃ y_ : List Int,y_ = (x3_2.set (x11_1 : Int).toNat (wrap64 ((rd x3_2 x11_1) + t110))) := ⟨_,rfl⟩
           replace H : (impl_Table_spectrum.l1 k2 y111 x11_1 (y103.length : Int) x11_1 t106 (wrap64 (x16_2 + 1)) a0_0 a0_1) = some r := by first | (rw [hy111];with_reducible exact H) | (have H2_ := (Option.bind_some _ _).symm.trans H;rw [hy111];with_reducible exact H2_) | (have H2_ := (Option.bind_some _ _).symm.trans H;with_reducible exact H2_) | with_reducible exact H | (rw [hy111];exact H) | exact H
           have Ny111 := aZ_ hy111
           clear hy111
           have H' := aZ_ H
           clear H
           try go_wp2
           have n0_ := aZ_ (Kd.R_drew HO_3.out)
           have n1_ := aZ_ (blk_drew BK101.out)
           have n2_ := aZ_ (below_drew1 HB.out)
           clear HO_3
           clear BK101
           clear HB
           have HO_3 := n0_
           have BK101 := n1_
           have HB := n2_
           clear n0_ n1_ n2_
           have p107 : 0 ≤ (x11_1 : Int) := of_decide_eq_true T10_
           have q107 : x11_1 < (x3_2.length : Int) := of_decide_eq_true T10_
           obtain ⟨ad107,e107,hx107_0⟩ := Kd.at_int (Kd.R_reads' HO_3.out).2.2 x11_1 p107 q107
           cases e107
           replace p107 := eq_true p107
           replace q107 := eq_true q107
           refine start_ (n := 16) (S := fun w' => w'.cell? ⟨gb101,0,none⟩ = some (.int .i64 a0_0) ∧ w'.cell? ⟨gb101,1,none⟩ = some (.int .i64 a0_1) ∧ w'.cell? (ad107.add (x11_1).toNat) = some (.int .i64 (rd x3_2 x11_1))) (ds := [15]) #[false,false,false,false,false,false,false,false,false,false,false,false,false,false,false,false] T16_ rfl rfl ⟨(blk_cell BK101.out 0).trans rfl,(blk_cell BK101.out 1).trans rfl,hx107_0⟩ (fun hHeld => ?_);refine with_tabW impl_Table_spectrum.tab8 impl_Table_spectrum.bits8 (fun HT_ HW_ => ?_)
           generalize wr.drew = w22 at HO_3 BK101 HB hx107_0 hHeld ⊢
           refine pZ_ 0 (some 19) #[true,false,false,false,false,false,false,false,false,false,false,false,false,false,false,false] ?_
           refine pZ_ 1 (some 20) #[true,true,false,false,false,false,false,false,false,false,false,false,false,false,false,false] ?_
           refine pZ_ 2 (some 21) #[true,true,true,false,false,false,false,false,false,false,false,false,false,false,false,false] ?_
           refine pZ_ 5 (some 24) #[true,true,true,false,false,true,false,false,false,false,false,false,false,false,false,false] ?_
           refine pZ_ 7 (some 26) #[true,true,true,false,false,true,false,true,false,false,false,false,false,false,false,false] ?_
           refine pZ_ 8 (some 27) #[true,true,true,false,false,true,false,true,true,false,false,false,false,false,false,false] ?_
           refine pZ_ 9 (some 28) #[true,true,true,false,false,true,false,true,true,true,false,false,false,false,false,false] ?_
           refine tZ3_ 3 (some 22) #[true,true,true,true,false,true,false,true,true,true,false,false,false,false,false,false] hHeld ?_
           refine tZ3_ 4 (some 23) #[true,true,true,true,true,true,false,true,true,true,false,false,false,false,false,false] hHeld ?_
           refine one_ (i := 6) (N := some 25) #[true,true,true,true,true,true,true,true,true,true,false,false,false,false,false,false] rfl rfl (one_of HT_.out T16_) T43_ (fun K hK => ?_)
           refine gZ_ Try.func44 #[.agg #[.int .i64 a0_0,.int .i64 a0_1],.int .i64 x16_2] ?_
           with_reducible refine (impl_Table_at.calls a0_0 a0_1 x16_2 t108 _ A18.out).mono ?_
           rintro e w23 ⟨rfl,hb⟩
           have HS2_ := (hb.cell (World.block_lt_of_cell? _ _ (hHeld.2.2))).trans (hHeld.2.2)
           refine ⟨_,rfl,?_⟩
           have n0_ := aZ_ (Kd.R_below T17_ hb)
           have n1_ := aZ_ (blk_below (g := gb101) (o := .cells #[.int .i64 a0_0,.int .i64 a0_1] 25 (0,0)) T2_ hb)
           have n2_ := aZ_ (below_step T1_ hb)
           clear HO_3
           clear BK101
           clear HB
           have HO_3 := n0_
           have BK101 := n1_
           have HB := n2_
           clear n0_ n1_ n2_
           (try clear hb)
           (try clear hb2)
           (try clear hk)
           (try clear hi)
           refine hK.out _ _ ⟨(blk_cell BK101.out 0).trans rfl,(blk_cell BK101.out 1).trans rfl,HS2_⟩ (fun hHeld => ?_)
           clear hK K
           refine norm_ (a' := ?_) ?_ ?_
           rotate_left
           ·show Act.put _ (some 25) _ = _
            simp only [Act.put,List.setIfInBounds_toArray,List.set_cons_zero,List.set_cons_succ,i64_w,i32_w]
            rfl
           refine one_ (i := 10) (N := some 29) #[true,true,true,true,true,true,true,true,true,true,true,false,false,false,false,false] rfl rfl (one_of HT_.out T16_) T43_ (fun K hK => ?_)
           refine gZ_ Try.func38 #[.int .i64 (Go.bits .and .i64 x11_1 x16_2)] ?_
           with_reducible refine (impl_ones.calls (Go.bits .and .i64 x11_1 x16_2) t109 _ A19.out).mono ?_
           rintro e w' ⟨rfl,⟨nd,rfl⟩⟩
           refine ⟨_,rfl,?_⟩
           refine hK.out _ _ ⟨(blk_cell BK101.out 0).trans rfl,(blk_cell BK101.out 1).trans rfl,hHeld.2.2⟩ (fun hHeld => ?_)
           clear hK K
           refine norm_ (a' := ?_) ?_ ?_
           rotate_left
           ·show Act.put _ (some 29) _ = _
            simp only [Act.put,List.setIfInBounds_toArray,List.set_cons_zero,List.set_cons_succ,i64_w,i32_w]
            rfl
           refine pZ_ 11 (some 30) #[true,true,true,true,true,true,true,true,true,true,true,true,false,false,false,false] ?_
           refine one_ (i := 12) (N := some 31) #[true,true,true,true,true,true,true,true,true,true,true,true,true,false,false,false] rfl rfl (one_of HT_.out T16_) T43_ (fun K hK => ?_)
           refine gZ_ Try.func41 #[.int .i64 (wrap64 (t108 + t109))] ?_
           with_reducible refine (impl_sign.calls (wrap64 (t108 + t109)) t110 _ A20.out).mono ?_
           rintro e w' ⟨rfl,⟨nd,rfl⟩⟩
           refine ⟨_,rfl,?_⟩
           have p21 : 0 ≤ (x11_1 : Int) := of_decide_eq_true T10_
           have q21 : (x11_1 : Int) < ((x3_2.length : Int) : Int) := of_decide_eq_true T10_
           obtain ⟨go21,co21,eo21,gb21,gl21,cl21,HG21⟩ := Kd.R_form HO_3.out T48_
           (first | cases eo21 | (injection eo21 with ea_ en_ ec_;(first | subst ea_ | (injection ea_ with ea_;subst ea_));subst ec_;clear en_))
           have GB21 := aZ_ gb21
           have GG21 := aZ_ HG21
           clear gb21 gl21 HG21
           (first | simp only [add_plain] at hx107_0 | skip)
           obtain ⟨hx21_0,hf21_0⟩ := Kd.R_celln 0 HO_3.out (x11_1 : Int) p21 q21
           replace p21 := eq_true p21
           replace q21 := eq_true q21
           have HP24 := Kd.R_putn HO_3.out (x11_1 : Int) (wrap64 ((rd x3_2 x11_1) + t110))
           rw [← Ny111.out] at HP24
           have HQ24 := aZ_ HP24
           clear HP24
           refine hK.out _ _ ⟨(blk_cell BK101.out 0).trans rfl,(blk_cell BK101.out 1).trans rfl,hHeld.2.2⟩ (fun hHeld => ?_)
           clear hK K
           refine norm_ (a' := ?_) ?_ ?_
           rotate_left
           ·show Act.put _ (some 31) _ = _
            simp only [Act.put,List.setIfInBounds_toArray,List.set_cons_zero,List.set_cons_succ,i64_w,i32_w]
            rfl
           refine pZ_ 13 (some 32) #[true,true,true,true,true,true,true,true,true,true,true,true,true,true,false,false] ?_
           refine pZ_ 14 (some 33) #[true,true,true,true,true,true,true,true,true,true,true,true,true,true,true,false] ?_
           refine last_ (i := 15) (N := none) #[true,true,true,true,true,true,true,true,true,true,true,true,true,true,true,true] rfl rfl (one_of HT_.out T16_) T43_ (fun K hK => ?_)
           refine skip_ (w1 := ?_) (by rfl) rfl ?_ ?_
           rotate_left
           ·go_simp
            rfl
           refine hK.out _ _ ?_
           clear hK K
           refine done_ (done_of HT_.out T16_) ?_
           try go_wp2
           (try simp only [← hl3_2])
           go_roundg k2
           case measure => have := HK1.out;have := HK2.out;omega
           case rel => exact ⟨(y111),(wrap64 (x16_2 + 1)),T6_,H',⟨by have := HK1.out;have := HK2.out;omega⟩,⟨by (try simp only [hl3_1]);(try simp only [hl3_2]);(with_reducible repeat (first | apply Kd.R_alloc | apply Kd.R_drewN | apply Kd.R_drew));exact HQ24.out⟩,⟨by (try simp only [hl3_1]);(try simp only [hl3_2]);(with_reducible repeat (first | refine blk_drewN ?_ _ | refine blk_drew ?_ | refine blk_alloc ?_ _));refine blk_far ?_ (by have h_ := Kd.R_ne HO_3.out BK101.out T43_;intro e_;exact h_ (by rw [e_];rfl)) _;(with_reducible repeat (first | refine blk_drewN ?_ _ | refine blk_drew ?_ | refine blk_alloc ?_ _));exact BK101.out⟩,⟨by repeat (first | (with_reducible first | exact HB.out | apply below_alloc | apply pw_below_drewN | apply below_drew1 | refine below_set ?_ GB21.out | refine below_set ?_ GE101.out) | exact HB.out)⟩⟩
          ·rw [if_neg c17] at H
           exact absurd H T42_
         ·rw [if_neg c16] at H
          exact absurd H T42_
        ·rw [if_neg c15] at H
         have c15b0 : decide (x16_2 < t106) = false := decide_eq_false c15
         clear c15
         have H' := aZ_ H
         clear H
         go_wp2
         (try simp only [← hl3_1,← hl3_2])
         go_roundg k2
         case measure => have := HK1.out;have := HK2.out;omega
         case rel => exact ⟨(x3_2),(wrap64 (x11_1 + 1)),T6_,H',⟨by have := HK1.out;have := HK2.out;omega⟩,⟨by (try simp only [hl3_1]);(try simp only [hl3_2]);(with_reducible repeat (first | apply Kd.R_alloc | apply Kd.R_drewN | apply Kd.R_drew));exact HO_3.out⟩,⟨by (try simp only [hl3_1]);(try simp only [hl3_2]);(with_reducible repeat (first | refine blk_drewN ?_ _ | refine blk_drew ?_ | refine blk_alloc ?_ _));exact BK101.out⟩,⟨by repeat (first | (with_reducible first | exact HB.out | apply below_alloc | apply pw_below_drewN | apply below_drew1 | refine below_set ?_ GE101.out) | exact HB.out)⟩⟩
     ·rw [if_neg c11] at H
      have c11b0 : decide (x11_1 < (y103.length : Int)) = false := decide_eq_false c11
      (try rw [hl3_1] at c11b0)
      (try rw [hl3_2] at c11b0)
      clear c11
      obtain rfl := Option.some.inj H
      go_wp2
      go_ret
      exact ⟨_,by first | rfl | (simp [errW_none,errW_some] <;> rfl) | (simp [*,errW_none,errW_some] <;> rfl),by (with_reducible repeat (first | apply Kd.R_alloc | apply Kd.R_drewN | apply Kd.R_drew));exact HO_3.out,by repeat (first | (with_reducible first | exact HB.out | apply below_alloc | apply pw_below_drewN | apply below_drew1 | refine below_set ?_ GE101.out) | exact HB.out)⟩
  ·rw [if_neg c4] at H
   exact absurd H T42_
 ·rw [if_neg c3] at H
  exact absurd H T42_
def impl_SpectrumOf.f (k : Nat) (a0_0 : Int) (a0_1 : Int) : Option (List Int) := (impl_IsTable.f a0_0 a0_1).bind fun t102 => (if t102 = true then ((impl_Table_spectrum.f k a0_0 a0_1).bind fun t103 => (some t103)) else (some ([] : List Int)))
set_option maxHeartbeats 8000000 in
set_option maxRecDepth 100000 in
theorem impl_SpectrumOf.calls (k : Nat) (a0_0 : Int) (a0_1 : Int) (r : List Int) (w : World) (h : impl_SpectrumOf.f k a0_0 a0_1 = some r) :
  Calls Try.prog 6 #[.agg #[.int .i64 a0_0,.int .i64 a0_1]] w fun e w' => ∃ v0_ : Value,e = .returned (v0_) ∧ Kd.R (Kd.int .i64) 3 w' w.heap.size (fun _ => True) v0_ r ∧ Below w.heap.size w w' := by
 have hu25 := Try.underlying25
 have HB := aZ_ (Below.refl w.heap.size w)
 have H : ((impl_IsTable.f a0_0 a0_1).bind fun t102 => (if t102 = true then ((impl_Table_spectrum.f k a0_0 a0_1).bind fun t103 => (some t103)) else (some ([] : List Int)))) = some r := h
 clear h
 replace H := Option.bind_eq_some_iff.mp H
 obtain ⟨t102,A20,H⟩ := H
 replace H : (if t102 = true then ((impl_Table_spectrum.f k a0_0 a0_1).bind fun t103 => (some t103)) else (some ([] : List Int))) = some r := H
 have A2 := aZ_ A20
 clear A20
 by_cases c3 : t102 = true
 ·subst c3
  have H1 : ((impl_Table_spectrum.f k a0_0 a0_1).bind fun t103 => (some t103)) = some r := by rw [if_pos rfl] at H;exact H
  clear H
  have H := H1
  clear H1
  replace H := Option.bind_eq_some_iff.mp H
  obtain ⟨t103,A40,H⟩ := H
  replace H : (some t103) = some r := H
  have A4 := aZ_ A40
  clear A40
  obtain rfl := Option.some.inj H
  go_enter Try.func6,Try.ntmps6
  go_wp2_with (first | ((with_reducible refine gate_dst (N := 1) rfl ?_);refine box_event ?hg (N := 1) ?hd (cs := #[.int .i64 a0_0,.int .i64 a0_1]) (t := 25) ?hr ?_;(case hd => rfl);(case hg => rfl);(case hr => first | (go_simp;done) | (go_simp;rfl));intro gb101 hg w5 hbox hb;have n0_ := aZ_ (below_step T7_ hb);have n1_ := aZ_ (hbox);have n2_ := aZ_ ((T4_ : w.heap.size ≤ gb101));have n3_ := aZ_ ((T4_ : w.heap.size ≤ gb101));clear HB;have HB := n0_;have BK101 := n1_;have GW101 := n2_;have GE101 := n3_;clear n0_ n1_ n2_ n3_;clear hb hbox hg;have hcz6_0 : w5.cell? ⟨gb101,0,none⟩ = some (.int .i64 a0_0) := (blk_cell BK101.out 0).trans rfl;have hcz6_1 : w5.cell? ⟨gb101,1,none⟩ = some (.int .i64 a0_1) := (blk_cell BK101.out 1).trans rfl;have hfz6_0 := blk_frozen BK101.out 0;have hfz6_1 := blk_frozen BK101.out 1) | ((with_reducible refine gate_callee (f := 32) rfl ?_);refine goesL_ (some 4) rfl rfl Try.func32 T16_ rfl #[.agg #[.int .i64 a0_0,.int .i64 a0_1]] rfl T3_ ?_;(with_reducible refine (impl_IsTable.calls a0_0 a0_1 true _ A2.out).mono ?_);rintro e w7 ⟨rfl,hb⟩;refine ⟨_,rfl,?_⟩;have n0_ := aZ_ (blk_below (g := gb101) (o := .cells #[.int .i64 a0_0,.int .i64 a0_1] 25 (0,0)) T2_ hb);have n1_ := aZ_ (below_step T1_ hb);clear BK101;clear HB;have BK101 := n0_;have HB := n1_;clear n0_ n1_;(try clear hb);(try clear hb2);(try clear hk);(try clear hi);have hcz8_0 : w7.cell? ⟨gb101,0,none⟩ = some (.int .i64 a0_0) := (blk_cell BK101.out 0).trans rfl;have hcz8_1 : w7.cell? ⟨gb101,1,none⟩ = some (.int .i64 a0_1) := (blk_cell BK101.out 1).trans rfl;have hfz8_0 := blk_frozen BK101.out 0;have hfz8_1 := blk_frozen BK101.out 1) | ((with_reducible refine gate_callee (f := 33) rfl ?_);refine goesL_ (some 7) rfl rfl Try.func33 T16_ rfl #[.agg #[.int .i64 a0_0,.int .i64 a0_1]] rfl T3_ ?_;(with_reducible refine (impl_Table_spectrum.calls k a0_0 a0_1 t103 _ A4.out).mono ?_);rintro e w9 ⟨v104,rfl,ho0,hb⟩;refine ⟨_,rfl,?_⟩;have n0_ := aZ_ (Kd.R_lower ho0 (below_size T1_));have n1_ := aZ_ (blk_below (g := gb101) (o := .cells #[.int .i64 a0_0,.int .i64 a0_1] 25 (0,0)) T2_ hb);have n2_ := aZ_ (below_step T1_ hb);clear BK101;clear HB;have HO105 := n0_;have BK101 := n1_;have HB := n2_;clear n0_ n1_ n2_;(try clear hb);(try clear hb2);(try clear hk);(try clear hi);(try clear ho0)))
  go_ret
  exact ⟨_,by first | rfl | (simp [errW_none,errW_some] <;> rfl) | (simp [*,errW_none,errW_some] <;> rfl),by (with_reducible repeat (first | apply Kd.R_alloc | apply Kd.R_drewN | apply Kd.R_drew));exact HO105.out,by repeat (first | (with_reducible first | exact HB.out | apply below_alloc | apply pw_below_drewN | apply below_drew1 | refine below_set ?_ GE101.out) | exact HB.out)⟩
 ·replace c3 := Bool.eq_false_iff.mpr c3
  subst c3
  have H1 : (some ([] : List Int)) = some r := by rw [if_neg (show ¬ (false = true) by decide)] at H;exact H
  clear H
  have H := H1
  clear H1
  obtain rfl := Option.some.inj H
  go_enter Try.func6,Try.ntmps6
  go_wp2_with (first | ((with_reducible refine gate_dst (N := 1) rfl ?_);refine box_event ?hg (N := 1) ?hd (cs := #[.int .i64 a0_0,.int .i64 a0_1]) (t := 25) ?hr ?_;(case hd => rfl);(case hg => rfl);(case hr => first | (go_simp;done) | (go_simp;rfl));intro gb101 hg w10 hbox hb;have n0_ := aZ_ (below_step T7_ hb);have n1_ := aZ_ (hbox);have n2_ := aZ_ ((T4_ : w.heap.size ≤ gb101));have n3_ := aZ_ ((T4_ : w.heap.size ≤ gb101));clear HB;have HB := n0_;have BK101 := n1_;have GW101 := n2_;have GE101 := n3_;clear n0_ n1_ n2_ n3_;clear hb hbox hg;have hcz11_0 : w10.cell? ⟨gb101,0,none⟩ = some (.int .i64 a0_0) := (blk_cell BK101.out 0).trans rfl;have hcz11_1 : w10.cell? ⟨gb101,1,none⟩ = some (.int .i64 a0_1) := (blk_cell BK101.out 1).trans rfl;have hfz11_0 := blk_frozen BK101.out 0;have hfz11_1 := blk_frozen BK101.out 1) | ((with_reducible refine gate_callee (f := 32) rfl ?_);refine goesL_ (some 4) rfl rfl Try.func32 T16_ rfl #[.agg #[.int .i64 a0_0,.int .i64 a0_1]] rfl T3_ ?_;(with_reducible refine (impl_IsTable.calls a0_0 a0_1 false _ A2.out).mono ?_);rintro e w12 ⟨rfl,hb⟩;refine ⟨_,rfl,?_⟩;have n0_ := aZ_ (blk_below (g := gb101) (o := .cells #[.int .i64 a0_0,.int .i64 a0_1] 25 (0,0)) T2_ hb);have n1_ := aZ_ (below_step T1_ hb);clear BK101;clear HB;have BK101 := n0_;have HB := n1_;clear n0_ n1_;(try clear hb);(try clear hb2);(try clear hk);(try clear hi)))
  go_ret
  exact ⟨_,by first | rfl | (simp [errW_none,errW_some] <;> rfl) | (simp [*,errW_none,errW_some] <;> rfl),by first | exact Kd.R_nil _ _ _ _ _ | exact Kd.N_nil _ _ _ _ _ | exact Kd.V_nil _ _ _ _ _ | exact Kd.Q_nil _ _ _ _ _ | exact Kd.S_nil _ _ _ _ _,by repeat (first | (with_reducible first | exact HB.out | apply below_alloc | apply pw_below_drewN | apply below_drew1 | refine below_set ?_ GE101.out) | exact HB.out)⟩
def spec_l12Sign.f (k : Nat) (a0 : Int) : Option (Int) := (spec_l2Count.f k a0).bind fun t101 => (if (Int.tmod t101 2) = 1 then (some (-1)) else (some 1))
set_option maxHeartbeats 8000000 in
set_option maxRecDepth 100000 in
theorem spec_l12Sign.calls (k : Nat) (a0 : Int) (r : Int) (w : World) (h : spec_l12Sign.f k a0 = some r) :
  Calls Try.prog 35 #[.int .i64 a0] w fun e w' => e = .returned (.int .i64 r) ∧ Drawn0 w w' := by
 have H : ((spec_l2Count.f k a0).bind fun t101 => (if (Int.tmod t101 2) = 1 then (some (-1)) else (some 1))) = some r := h
 clear h
 replace H := Option.bind_eq_some_iff.mp H
 obtain ⟨t101,A20,H⟩ := H
 replace H : (if (Int.tmod t101 2) = 1 then (some (-1)) else (some 1)) = some r := H
 have A2 := aZ_ A20
 clear A20
 by_cases c3 : (Int.tmod t101 2) = 1
 ·rw [if_pos c3] at H
  have c3b0 : ((Int.tmod t101 2) == 1) = true := beq_iff_eq.mpr c3
  have c3b1 : ((Int.tmod t101 2) != 1) = false := bne_eq_false_iff_eq.mpr c3
  clear c3
  obtain rfl := Option.some.inj H
  go_enter Try.func35,Try.ntmps35
  go_wp2_with (first | ((with_reducible refine gate_callee (f := 39) rfl ?_);refine goesL_ (some 4) rfl rfl Try.func39 T16_ rfl #[.int .i64 a0] rfl T3_ ?_;(with_reducible refine (spec_l2Count.calls k a0 t101 _ A2.out).mono ?_);rintro e w' ⟨rfl,⟨nd,rfl⟩⟩;refine ⟨_,rfl,?_⟩))
  go_ret
  exact ⟨by first | rfl | (simp;done) | (simp [*];done),by repeat (first | exact Drawn0.refl _ | apply Drawn0.step)⟩
 ·rw [if_neg c3] at H
  have c3b0 : ((Int.tmod t101 2) == 1) = false := beq_eq_false_iff_ne.mpr c3
  have c3b1 : ((Int.tmod t101 2) != 1) = true := bne_iff_ne.mpr c3
  obtain rfl := Option.some.inj H
  go_enter Try.func35,Try.ntmps35
  go_wp2_with (first | ((with_reducible refine gate_callee (f := 39) rfl ?_);refine goesL_ (some 4) rfl rfl Try.func39 T16_ rfl #[.int .i64 a0] rfl T3_ ?_;(with_reducible refine (spec_l2Count.calls k a0 t101 _ A2.out).mono ?_);rintro e w' ⟨rfl,⟨nd,rfl⟩⟩;refine ⟨_,rfl,?_⟩))
  go_ret
  exact ⟨by first | rfl | (simp;done) | (simp [*];done),by repeat (first | exact Drawn0.refl _ | apply Drawn0.step)⟩
mutual
def spec_SpectrumOf.l0 : Nat → List Int → Int → Int → Int → Option (List Int)
 | 0,_,_,_,_ => none
 | k + 1,x3,x4,x102000,x102001 => (spec_IsTable.f x102000 x102001).bind fun t105 => (if t105 = true then (if 0 ≤ x102000 then (spec_SpectrumOf.j1 k x3 x4 (decide (x4 < (shl .i64 1 x102000))) x102000 x102001) else (none)) else (spec_SpectrumOf.j1 k x3 x4 false x102000 x102001))
def spec_SpectrumOf.j1 : Nat → List Int → Int → Bool → Int → Int → Option (List Int)
 | 0,_,_,_,_,_ => none
 | k + 1,x3,x4,x16,x102000,x102001 => if x16 = true then (spec_SpectrumOf.l1 k x3 x4 0 0 x102000 x102001) else (some x3)
def spec_SpectrumOf.l1 : Nat → List Int → Int → Int → Int → Int → Int → Option (List Int)
 | 0,_,_,_,_,_,_ => none
 | k + 1,x3,x4,x5,x6,x102000,x102001 => if 0 ≤ x102000 then (if x6 < (shl .i64 1 x102000) then (if 0 ≤ x6 then ((spec_l12Sign.f k (Go.bits .and .i64 (shr .i64 x102001 x6) 1)).bind fun t106 => ((spec_l12Sign.f k (Go.bits .and .i64 x4 x6)).bind fun t107 => (spec_SpectrumOf.l1 k x3 x4 (wrap64 (x5 + (wrap64 (t106 * t107)))) (wrap64 (x6 + 1)) x102000 x102001))) else (none)) else (if x3.length < 17592186044416 then (spec_SpectrumOf.l0 k (x3 ++ [x5]) (wrap64 (x4 + 1)) x102000 x102001) else (none))) else (none)
end
def spec_SpectrumOf.f (k : Nat) (a0_0 : Int) (a0_1 : Int) : Option (List Int) := spec_SpectrumOf.l0 k (([] : List Int)) 0 a0_0 a0_1
set_option maxHeartbeats 8000000 in
set_option maxRecDepth 100000 in
theorem spec_SpectrumOf.calls (k : Nat) (a0_0 : Int) (a0_1 : Int) (r : List Int) (w : World) (h : spec_SpectrumOf.f k a0_0 a0_1 = some r) :
  Calls Try.prog 8 #[.agg #[.int .i64 a0_0,.int .i64 a0_1]] w fun e w' => ∃ v0_ : Value,e = .returned (v0_) ∧ Kd.R (Kd.int .i64) 3 w' w.heap.size (fun _ => True) v0_ r ∧ Below w.heap.size w w' := by
 have hu25 := Try.underlying25
 have HB := aZ_ (Below.refl w.heap.size w)
 have H : (spec_SpectrumOf.l0 k (([] : List Int)) 0 a0_0 a0_1) = some r := h
 clear h
 obtain ⟨y102,hy102⟩ : ∃ y_ : List Int,y_ = (([] : List Int)) := ⟨_,rfl⟩
 replace H : (spec_SpectrumOf.l0 k y102 0 a0_0 a0_1) = some r := by first | (rw [hy102];with_reducible exact H) | (have H2_ := (Option.bind_some _ _).symm.trans H;rw [hy102];with_reducible exact H2_) | (have H2_ := (Option.bind_some _ _).symm.trans H;with_reducible exact H2_) | with_reducible exact H | (rw [hy102];exact H) | exact H
 have Ny102 := aZ_ hy102
 clear hy102
 have H' := aZ_ H
 clear H
 go_enter Try.func8,Try.ntmps8
 go_wp2_with (first | ((with_reducible refine gate_dst (N := 1) rfl ?_);refine box_event ?hg (N := 1) ?hd (cs := #[.int .i64 a0_0,.int .i64 a0_1]) (t := 25) ?hr ?_;(case hd => rfl);(case hg => rfl);(case hr => first | (go_simp;done) | (go_simp;rfl));intro gb101 hg w2 hbox hb;have n0_ := aZ_ (below_step T7_ hb);have n1_ := aZ_ (hbox);have n2_ := aZ_ ((T4_ : w.heap.size ≤ gb101));have n3_ := aZ_ ((T4_ : w.heap.size ≤ gb101));clear HB;have HB := n0_;have BK101 := n1_;have GW101 := n2_;have GE101 := n3_;clear n0_ n1_ n2_ n3_;clear hb hbox hg) | ((with_reducible refine gate_dst (N := 7) rfl ?_);refine Kd.R_lit (Kd.int .i64) _ 3 ?hg (N := 7) ?hd (xs := ([] : List Int)) (inner := []) (ok := fun _ => True) (okp := fun _ => True) ?hr ?hp (fun _ hk => hk) trivial (Below.refl _ _) (Nat.le_refl _) T42_ ?_;(case hd => rfl);(case hg => rfl);(case hr => first | (go_simp;done) | (go_simp;rfl));(case hp => exact (Reps.none _ _));intro v103 w3 ho4 hb hg_ hnew_;clear hg_ hnew_;(first | rw [← Ny102.out] at ho4 | (simp only [Int.reduceToNat] at ho4;rw [← Ny102.out] at ho4));have n0_ := aZ_ (Kd.R_lower ho4 (below_size T1_));have n1_ := aZ_ (blk_below (g := gb101) (o := .cells #[.int .i64 a0_0,.int .i64 a0_1] 25 (0,0)) T2_ hb);have n2_ := aZ_ (below_step T1_ hb);clear BK101;clear HB;have HO104 := n0_;have BK101 := n1_;have HB := n2_;clear n0_ n1_ n2_;clear hb ho4))
 go_loopg [3,4] k (fun kq v3 v4 w' => ∃ (x3_1 : List Int) (x4_1 : Int),v4 = .int .i64 x4_1 ∧ Aside0 (spec_SpectrumOf.l0 kq x3_1 x4_1 a0_0 a0_1 = some r) ∧ Aside0 (kq ≤ k) ∧ Aside0 (Kd.R (Kd.int .i64) 3 w' w.heap.size (fun _ => True) v3 x3_1) ∧ Aside0 (w'.heap[gb101]? = some (.cells #[.int .i64 a0_0,.int .i64 a0_1] 25 (0,0))) ∧ Aside0 (Below w.heap.size w w'))
 case atStart => exact ⟨(y102),(0),T6_,H',⟨Nat.le_refl _⟩,⟨by (with_reducible repeat (first | apply Kd.R_alloc | apply Kd.R_drewN | apply Kd.R_drew));exact HO104.out⟩,⟨by (with_reducible repeat (first | refine blk_drewN ?_ _ | refine blk_drew ?_ | refine blk_alloc ?_ _));exact BK101.out⟩,⟨by repeat (first | (with_reducible first | exact HB.out | apply below_alloc | apply pw_below_drewN | apply below_drew1 | refine below_set ?_ GE101.out) | exact HB.out)⟩⟩
 case round =>
  clear H'
  try clear p2
  obtain ⟨x3_1,x4_1,rfl,HA,HK1,HO_3,BK101,HB⟩ := hrel
  cases gk with
  | zero => exact absurd HA.out (by simp [spec_SpectrumOf.l0])
  | succ k1 =>
   have H := HA.out
   clear HA
   simp only [spec_SpectrumOf.l0] at H
   have HC5 := aZ_ H
   clear H
   go_upto_region 3 with (fail)
   go_cut [16] (fun v16 wc => ∃ (kq : Nat) (x16_4 : Bool),v16 = .bool x16_4 ∧ Aside0 (spec_SpectrumOf.j1 kq x3_1 x4_1 x16_4 a0_0 a0_1 = some r) ∧ Aside0 (kq ≤ k1) ∧ Aside0 (Kd.R (Kd.int .i64) 3 wc w.heap.size (fun _ => True) u3 x3_1) ∧ Aside0 (wc.heap[gb101]? = some (.cells #[.int .i64 a0_0,.int .i64 a0_1] 25 (0,0))) ∧ Aside0 (Below w.heap.size w wc))
   case first =>
    have H := HC5.out
    clear HC5
    replace H := Option.bind_eq_some_iff.mp H
    obtain ⟨t105,A60,H⟩ := H
    replace H : (if t105 = true then (if 0 ≤ a0_0 then (spec_SpectrumOf.j1 k1 x3_1 x4_1 (decide (x4_1 < (shl .i64 1 a0_0))) a0_0 a0_1) else (none)) else (spec_SpectrumOf.j1 k1 x3_1 x4_1 false a0_0 a0_1)) = some r := H
    have A6 := aZ_ A60
    clear A60
    by_cases c7 : t105 = true
    ·subst c7
     have H1 : (if 0 ≤ a0_0 then (spec_SpectrumOf.j1 k1 x3_1 x4_1 (decide (x4_1 < (shl .i64 1 a0_0))) a0_0 a0_1) else (none)) = some r := by rw [if_pos rfl] at H;exact H
     clear H
     have H := H1
     clear H1
     by_cases c8 : 0 ≤ a0_0
     ·rw [if_pos c8] at H
      have c8b0 := eq_true c8
      have c8b1 : decide (0 ≤ a0_0) = true := decide_eq_true c8
      clear c8
      obtain ⟨ji9,hji9⟩ : ∃ j_ : Int,(shl .i64 1 a0_0) = j_ := ⟨_,rfl⟩
      replace H : (spec_SpectrumOf.j1 k1 x3_1 x4_1 (decide (x4_1 < (ji9))) a0_0 a0_1) = some r := by first | (rw [hji9] at H;exact H) | (simp only [hji9] at H ⊢;exact H)
      (try rw [hji9] at A6)
      have hji9_ : (IntKind.i64.wrap (1 * 2 ^ min a0_0.toNat 64)) = ji9 := hji9
      have hji9z : a0_0 ≤ 64 → (IntKind.i64.wrap (1 * 2 ^ a0_0.toNat)) = ji9 := shl_small hji9
      have hji9u : (IntKind.i64.wrap (2 ^ min a0_0.toNat 64)) = ji9 := by have h_ := hji9_;rw [Int.one_mul] at h_;exact h_
      have hji9v : a0_0 ≤ 64 → (IntKind.i64.wrap (2 ^ a0_0.toNat)) = ji9 := fun hle_ => by have h_ := hji9z hle_;rw [Int.one_mul] at h_;exact h_
      have hji9y : (wrap64 (1 * 2 ^ min a0_0.toNat 64)) = ji9 := (i64_w _).symm.trans hji9_
      have hji9x : a0_0 ≤ 64 → (wrap64 (1 * 2 ^ a0_0.toNat)) = ji9 := fun h_ => (i64_w _).symm.trans (hji9z h_)
      have H' := aZ_ H
      clear H
      have hcz10_0 : wr.cell? ⟨gb101,0,none⟩ = some (.int .i64 a0_0) := (blk_cell BK101.out 0).trans rfl
      have hcz10_1 : wr.cell? ⟨gb101,1,none⟩ = some (.int .i64 a0_1) := (blk_cell BK101.out 1).trans rfl
      have hfz10_0 := blk_frozen BK101.out 0
      have hfz10_1 := blk_frozen BK101.out 1
      go_wp2_with (first | ((with_reducible refine gate_callee (f := 34) rfl ?_);refine goesL_ (some 9) rfl rfl Try.func34 T16_ rfl #[.agg #[.int .i64 a0_0,.int .i64 a0_1]] rfl T3_ ?_;(with_reducible refine (spec_IsTable.calls a0_0 a0_1 true _ A6.out).mono ?_);rintro e w11 ⟨rfl,hb⟩;refine ⟨_,rfl,?_⟩;have n0_ := aZ_ (Kd.R_below T17_ hb);have n1_ := aZ_ (blk_below (g := gb101) (o := .cells #[.int .i64 a0_0,.int .i64 a0_1] 25 (0,0)) T2_ hb);have n2_ := aZ_ (below_step T1_ hb);clear HO_3;clear BK101;clear HB;have HO_3 := n0_;have BK101 := n1_;have HB := n2_;clear n0_ n1_ n2_;(try clear hb);(try clear hb2);(try clear hk);(try clear hi);have hcz12_0 : w11.cell? ⟨gb101,0,none⟩ = some (.int .i64 a0_0) := (blk_cell BK101.out 0).trans rfl;have hcz12_1 : w11.cell? ⟨gb101,1,none⟩ = some (.int .i64 a0_1) := (blk_cell BK101.out 1).trans rfl;have hfz12_0 := blk_frozen BK101.out 0;have hfz12_1 := blk_frozen BK101.out 1))
      go_meet
      case rel => exact ⟨_,(decide (x4_1 < (ji9))),(by first | rfl | (simp;done) | (simp only [← hji9] <;> (first | rfl | simp)) | (simp [*];done)),H',⟨by have := HK1.out;first | omega | exact Nat.le_refl _⟩,⟨by (with_reducible repeat (first | apply Kd.R_alloc | apply Kd.R_drewN | apply Kd.R_drew));exact HO_3.out⟩,⟨by (with_reducible repeat (first | refine blk_drewN ?_ _ | refine blk_drew ?_ | refine blk_alloc ?_ _));exact BK101.out⟩,⟨by repeat (first | (with_reducible first | exact HB.out | apply below_alloc | apply pw_below_drewN | apply below_drew1 | refine below_set ?_ GE101.out) | exact HB.out)⟩⟩
     ·rw [if_neg c8] at H
      exact absurd H T42_
    ·replace c7 := Bool.eq_false_iff.mpr c7
     subst c7
     have H1 : (spec_SpectrumOf.j1 k1 x3_1 x4_1 false a0_0 a0_1) = some r := by rw [if_neg (show ¬ (false = true) by decide)] at H;exact H
     clear H
     have H := H1
     clear H1
     have H' := aZ_ H
     clear H
     have hcz13_0 : wr.cell? ⟨gb101,0,none⟩ = some (.int .i64 a0_0) := (blk_cell BK101.out 0).trans rfl
     have hcz13_1 : wr.cell? ⟨gb101,1,none⟩ = some (.int .i64 a0_1) := (blk_cell BK101.out 1).trans rfl
     have hfz13_0 := blk_frozen BK101.out 0
     have hfz13_1 := blk_frozen BK101.out 1
     go_wp2_with (first | ((with_reducible refine gate_callee (f := 34) rfl ?_);refine goesL_ (some 9) rfl rfl Try.func34 T16_ rfl #[.agg #[.int .i64 a0_0,.int .i64 a0_1]] rfl T3_ ?_;(with_reducible refine (spec_IsTable.calls a0_0 a0_1 false _ A6.out).mono ?_);rintro e w14 ⟨rfl,hb⟩;refine ⟨_,rfl,?_⟩;have n0_ := aZ_ (Kd.R_below T17_ hb);have n1_ := aZ_ (blk_below (g := gb101) (o := .cells #[.int .i64 a0_0,.int .i64 a0_1] 25 (0,0)) T2_ hb);have n2_ := aZ_ (below_step T1_ hb);clear HO_3;clear BK101;clear HB;have HO_3 := n0_;have BK101 := n1_;have HB := n2_;clear n0_ n1_ n2_;(try clear hb);(try clear hb2);(try clear hk);(try clear hi)))
     go_meet
     case rel => exact ⟨_,(false),T6_,H',⟨by have := HK1.out;first | omega | exact Nat.le_refl _⟩,⟨by (with_reducible repeat (first | apply Kd.R_alloc | apply Kd.R_drewN | apply Kd.R_drew));exact HO_3.out⟩,⟨by (with_reducible repeat (first | refine blk_drewN ?_ _ | refine blk_drew ?_ | refine blk_alloc ?_ _));exact BK101.out⟩,⟨by repeat (first | (with_reducible first | exact HB.out | apply below_alloc | apply pw_below_drewN | apply below_drew1 | refine below_set ?_ GE101.out) | exact HB.out)⟩⟩
   case rest =>
    clear HC5
    try clear p2
    try clear c3
    try clear p6
    try clear c7
    try clear c8
    try clear c8b0
    try clear c8b1
    try clear hcz10_0
    try clear hcz10_1
    try clear hcz12_0
    try clear hcz12_1
    try clear hcz13_0
    try clear hcz13_1
    try clear hfz10_0
    try clear hfz10_1
    try clear hfz12_0
    try clear hfz12_1
    try clear hfz13_0
    try clear hfz13_1
    try clear p2
    obtain ⟨kq,x16_4,rfl,HA,HJ4,HO_3,BK101,HB⟩ := hcut
    cases kq with
    | zero => exact absurd HA.out (by simp [spec_SpectrumOf.j1])
    | succ kj4 =>
     have H := HA.out
     clear HA
     simp only [spec_SpectrumOf.j1] at H
     by_cases c15 : x16_4 = true
     ·subst c15
      have H1 : (spec_SpectrumOf.l1 kj4 x3_1 x4_1 0 0 a0_0 a0_1) = some r := by rw [if_pos rfl] at H;exact H
      clear H
      have H := H1
      clear H1
      have H' := aZ_ H
      clear H
      go_wp2
      go_loopg [5,6] kj4 (fun kq v5 v6 w' => ∃ (x5_3 : Int) (x6_3 : Int),v5 = .int .i64 x5_3 ∧ v6 = .int .i64 x6_3 ∧ Aside0 (spec_SpectrumOf.l1 kq x3_1 x4_1 x5_3 x6_3 a0_0 a0_1 = some r) ∧ Aside0 (kq ≤ kj4) ∧ Aside0 (Kd.R (Kd.int .i64) 3 w' w.heap.size (fun _ => True) u3 x3_1) ∧ Aside0 (w'.heap[gb101]? = some (.cells #[.int .i64 a0_0,.int .i64 a0_1] 25 (0,0))) ∧ Aside0 (Below w.heap.size w w'))
      case atStart => exact ⟨(0),(0),T6_,T6_,H',⟨Nat.le_refl _⟩,⟨by (with_reducible repeat (first | apply Kd.R_alloc | apply Kd.R_drewN | apply Kd.R_drew));exact HO_3.out⟩,⟨by (with_reducible repeat (first | refine blk_drewN ?_ _ | refine blk_drew ?_ | refine blk_alloc ?_ _));exact BK101.out⟩,⟨by repeat (first | (with_reducible first | exact HB.out | apply below_alloc | apply pw_below_drewN | apply below_drew1 | refine below_set ?_ GE101.out) | exact HB.out)⟩⟩
      case round =>
       clear H'
       try clear c1
       try clear p2
       try clear c3
       try clear p6
       try clear c7
       try clear c8
       try clear c8b0
       try clear c8b1
       try clear c15
       try clear hcz10_0
       try clear hcz10_1
       try clear hcz12_0
       try clear hcz12_1
       try clear hcz13_0
       try clear hcz13_1
       try clear hfz10_0
       try clear hfz10_1
       try clear hfz12_0
       try clear hfz12_1
       try clear hfz13_0
       try clear hfz13_1
       try clear p2
       try clear p6
       obtain ⟨x5_3,x6_3,rfl,rfl,HA,HK3,HO_3,BK101,HB⟩ := hrel
       cases gk with
       | zero => exact absurd HA.out (by simp [spec_SpectrumOf.l1])
       | succ k3 =>
        have H := HA.out
        clear HA
        simp only [spec_SpectrumOf.l1] at H
        by_cases c16 : 0 ≤ a0_0
        ·rw [if_pos c16] at H
         have c16b0 := eq_true c16
         have c16b1 : decide (0 ≤ a0_0) = true := decide_eq_true c16
         clear c16
         obtain ⟨ji17,hji17⟩ : ∃ j_ : Int,(shl .i64 1 a0_0) = j_ := ⟨_,rfl⟩
         replace H : (if x6_3 < (ji17) then (if 0 ≤ x6_3 then ((spec_l12Sign.f k3 (Go.bits .and .i64 (shr .i64 a0_1 x6_3) 1)).bind fun t106 => ((spec_l12Sign.f k3 (Go.bits .and .i64 x4_1 x6_3)).bind fun t107 => (spec_SpectrumOf.l1 k3 x3_1 x4_1 (wrap64 (x5_3 + (wrap64 (t106 * t107)))) (wrap64 (x6_3 + 1)) a0_0 a0_1))) else (none)) else (if x3_1.length < 17592186044416 then (spec_SpectrumOf.l0 k3 (x3_1 ++ [x5_3]) (wrap64 (x4_1 + 1)) a0_0 a0_1) else (none))) = some r := by first | (rw [hji17] at H;exact H) | (simp only [hji17] at H ⊢;exact H)
         have hji17_ : (IntKind.i64.wrap (1 * 2 ^ min a0_0.toNat 64)) = ji17 := hji17
         have hji17z : a0_0 ≤ 64 → (IntKind.i64.wrap (1 * 2 ^ a0_0.toNat)) = ji17 := shl_small hji17
         have hji17u : (IntKind.i64.wrap (2 ^ min a0_0.toNat 64)) = ji17 := by have h_ := hji17_;rw [Int.one_mul] at h_;exact h_
         have hji17v : a0_0 ≤ 64 → (IntKind.i64.wrap (2 ^ a0_0.toNat)) = ji17 := fun hle_ => by have h_ := hji17z hle_;rw [Int.one_mul] at h_;exact h_
         have hji17y : (wrap64 (1 * 2 ^ min a0_0.toNat 64)) = ji17 := (i64_w _).symm.trans hji17_
         have hji17x : a0_0 ≤ 64 → (wrap64 (1 * 2 ^ a0_0.toNat)) = ji17 := fun h_ => (i64_w _).symm.trans (hji17z h_)
         by_cases c18 : x6_3 < (ji17)
         ·rw [if_pos c18] at H
          have c18b0 : decide (x6_3 < (ji17)) = true := decide_eq_true c18
          clear c18
          by_cases c19 : 0 ≤ x6_3
          ·rw [if_pos c19] at H
           have c19b0 := eq_true c19
           have c19b1 : decide (0 ≤ x6_3) = true := decide_eq_true c19
           clear c19
           obtain ⟨ji20,hji20⟩ : ∃ j_ : Int,(shr .i64 a0_1 x6_3) = j_ := ⟨_,rfl⟩
           replace H : ((spec_l12Sign.f k3 (Go.bits .and .i64 (ji20) 1)).bind fun t106 => ((spec_l12Sign.f k3 (Go.bits .and .i64 x4_1 x6_3)).bind fun t107 => (spec_SpectrumOf.l1 k3 x3_1 x4_1 (wrap64 (x5_3 + (wrap64 (t106 * t107)))) (wrap64 (x6_3 + 1)) a0_0 a0_1))) = some r := by first | (rw [hji20] at H;exact H) | (simp only [hji20] at H ⊢;exact H)
           have hji20_ : (a0_1 / 2 ^ min x6_3.toNat 64) = ji20 := hji20
           have hji20z : x6_3 ≤ 64 → (a0_1 / 2 ^ x6_3.toNat) = ji20 := shr_small hji20
           replace H := Option.bind_eq_some_iff.mp H
           obtain ⟨t106,A210,H⟩ := H
           replace H : ((spec_l12Sign.f k3 (Go.bits .and .i64 x4_1 x6_3)).bind fun t107 => (spec_SpectrumOf.l1 k3 x3_1 x4_1 (wrap64 (x5_3 + (wrap64 (t106 * t107)))) (wrap64 (x6_3 + 1)) a0_0 a0_1)) = some r := H
           have A21 := aZ_ A210
           clear A210
           replace H := Option.bind_eq_some_iff.mp H
           obtain ⟨t107,A220,H⟩ := H
           replace H : (spec_SpectrumOf.l1 k3 x3_1 x4_1 (wrap64 (x5_3 + (wrap64 (t106 * t107)))) (wrap64 (x6_3 + 1)) a0_0 a0_1) = some r := H
           have A22 := aZ_ A220
           clear A220
           have H' := aZ_ H
           clear H
           have hcz23_0 : wr.cell? ⟨gb101,0,none⟩ = some (.int .i64 a0_0) := (blk_cell BK101.out 0).trans rfl
           have hcz23_1 : wr.cell? ⟨gb101,1,none⟩ = some (.int .i64 a0_1) := (blk_cell BK101.out 1).trans rfl
           have hfz23_0 := blk_frozen BK101.out 0
           have hfz23_1 := blk_frozen BK101.out 1
           go_wp2_with (first | ((with_reducible refine gate_callee (f := 35) rfl ?_);refine goesL_ (some 32) rfl rfl Try.func35 T16_ rfl #[.int .i64 (Go.bits .and .i64 (ji20) 1)] rfl T46_ ?_;(with_reducible refine (spec_l12Sign.calls k3 (Go.bits .and .i64 (ji20) 1) t106 _ A21.out).mono ?_);rintro e w' ⟨rfl,⟨nd,rfl⟩⟩;refine ⟨_,rfl,?_⟩) | ((with_reducible refine gate_callee (f := 35) rfl ?_);refine goesL_ (some 36) rfl rfl Try.func35 T16_ rfl #[.int .i64 (Go.bits .and .i64 x4_1 x6_3)] rfl T3_ ?_;(with_reducible refine (spec_l12Sign.calls k3 (Go.bits .and .i64 x4_1 x6_3) t107 _ A22.out).mono ?_);rintro e w' ⟨rfl,⟨nd,rfl⟩⟩;refine ⟨_,rfl,?_⟩))
           go_roundg k3
           case measure => have := HK1.out;have := HJ4.out;have := HK3.out;omega
           case rel => exact ⟨(wrap64 (x5_3 + (wrap64 (t106 * t107)))),(wrap64 (x6_3 + 1)),T6_,T6_,H',⟨by have := HK1.out;have := HJ4.out;have := HK3.out;omega⟩,⟨by (with_reducible repeat (first | apply Kd.R_alloc | apply Kd.R_drewN | apply Kd.R_drew));exact HO_3.out⟩,⟨by (with_reducible repeat (first | refine blk_drewN ?_ _ | refine blk_drew ?_ | refine blk_alloc ?_ _));exact BK101.out⟩,⟨by repeat (first | (with_reducible first | exact HB.out | apply below_alloc | apply pw_below_drewN | apply below_drew1 | refine below_set ?_ GE101.out) | exact HB.out)⟩⟩
          ·rw [if_neg c19] at H
           exact absurd H T42_
         ·rw [if_neg c18] at H
          have c18b0 : decide (x6_3 < (ji17)) = false := decide_eq_false c18
          clear c18
          by_cases c24 : x3_1.length < 17592186044416
          ·rw [if_pos c24] at H
           have LMc24 := aZ_ c24
           clear c24
           obtain ⟨y108,hy108⟩ : ∃ y_ : List Int,y_ = (x3_1 ++ [x5_3]) := ⟨_,rfl⟩
           replace H : (spec_SpectrumOf.l0 k3 y108 (wrap64 (x4_1 + 1)) a0_0 a0_1) = some r := by first | (rw [hy108];with_reducible exact H) | (have H2_ := (Option.bind_some _ _).symm.trans H;rw [hy108];with_reducible exact H2_) | (have H2_ := (Option.bind_some _ _).symm.trans H;with_reducible exact H2_) | with_reducible exact H | (rw [hy108];exact H) | exact H
           have Ny108 := aZ_ hy108
           clear hy108
           have H' := aZ_ H
           clear H
           have hcz25_0 : wr.cell? ⟨gb101,0,none⟩ = some (.int .i64 a0_0) := (blk_cell BK101.out 0).trans rfl
           have hcz25_1 : wr.cell? ⟨gb101,1,none⟩ = some (.int .i64 a0_1) := (blk_cell BK101.out 1).trans rfl
           have hfz25_0 := blk_frozen BK101.out 0
           have hfz25_1 := blk_frozen BK101.out 1
           go_wp2_with (first | ((with_reducible refine gate_builtin (b := .append) (xs := #[.tmp 39,.tmp 41]) rfl ?_);at_builtin;refine Kd.R_append (Kd.int .i64) (w0 := w) w.heap.size rfl (.tmp 39) (.tmp 41) 27 3 (.int .i64 0) 8 rfl Try.underlying27 info3 rfl T43_ T48_ u3 x3_1 x5_3 [.int .i64 x5_3] (fun _ => True) (fun _ => False) rfl rfl ?aP (fun _ hk => hk.elim) ?aF ?aO ?aB ?aS ?aL ?_;(case aP => exact rfl);(case aB => exact T1_);(case aF => exact (fun _ _ => trivial));(case aO => exact T17_);(case aS => exact (below_size T1_));(case aL => have := LMc24.out;omega);intro v109 w26 ho hb hg hat;rw [← Ny108.out] at ho;have n0_ := aZ_ (blk_grown (g := gb101) (o := .cells #[.int .i64 a0_0,.int .i64 a0_1] 25 (0,0)) T2_ hg (Kd.R_ne HO_3.out BK101.out T43_));have n1_ := aZ_ (hb);have n2_ := aZ_ (ho);clear BK101;clear HB;clear HO_3;have BK101 := n0_;have HB := n1_;have HO110 := n2_;clear n0_ n1_ n2_;clear ho hb hg hat))
           go_roundg k3
           case measure => have := HK1.out;have := HJ4.out;have := HK3.out;omega
           case rel => exact ⟨(y108),(wrap64 (x4_1 + 1)),T6_,H',⟨by have := HK1.out;have := HJ4.out;have := HK3.out;omega⟩,⟨by (with_reducible repeat (first | apply Kd.R_alloc | apply Kd.R_drewN | apply Kd.R_drew));exact HO110.out⟩,⟨by (with_reducible repeat (first | refine blk_drewN ?_ _ | refine blk_drew ?_ | refine blk_alloc ?_ _));exact BK101.out⟩,⟨by repeat (first | (with_reducible first | exact HB.out | apply below_alloc | apply pw_below_drewN | apply below_drew1 | refine below_set ?_ GE101.out) | exact HB.out)⟩⟩
          ·rw [if_neg c24] at H
           exact absurd H T42_
        ·rw [if_neg c16] at H
         exact absurd H T42_
     ·replace c15 := Bool.eq_false_iff.mpr c15
      subst c15
      have H1 : (some x3_1) = some r := by rw [if_neg (show ¬ (false = true) by decide)] at H;exact H
      clear H
      have H := H1
      clear H1
      obtain rfl := Option.some.inj H
      go_wp2
      go_ret
      exact ⟨_,by first | rfl | (simp [errW_none,errW_some] <;> rfl) | (simp [*,errW_none,errW_some] <;> rfl),by (with_reducible repeat (first | apply Kd.R_alloc | apply Kd.R_drewN | apply Kd.R_drew));exact HO_3.out,by repeat (first | (with_reducible first | exact HB.out | apply below_alloc | apply pw_below_drewN | apply below_drew1 | refine below_set ?_ GE101.out) | exact HB.out)⟩
end Go.Proofs.Ytflacbjpeecjcaa.F
