/- Walks of Go functions and lemmas on what they compute, for the row of FnPower (a part of several): each call ends as the Lean function of its name tells; the conditions are those of each theorem. -/
import Derived.Test.YtmmdcbdchifniaaM1FnPower
import Derived.Test.YtmmdcbdchifniaaM2FnPower
import Derived.Test.YtmmdcbdchifniaaM3FnPower
import Derived.Test.YtmmdcbdchifniaaM4FnPower
import Derived.Test.YtmmdcbdchifniaaM5FnPower
namespace Go.Proofs.Ytmmdcbdchifniaa.F
open Go.RowKit Go.Proofs.YtmmdcbdchifniaaW.PrintWords Go.Proofs.YtmmdcbdchifniaaW.PrintLast Go.Proofs.YtmmdcbdchifniaaW.PrintMore
attribute [local go_sem] max2_int min2_int max_two min_two max_three min_three max_four min_four 
set_option linter.unusedVariables false
set_option linter.unusedSimpArgs false
def spec_l2Any.f (k : Nat) (s0_0 : List Int) (s0_1 : Int) (s0_2 : Int) : Option (Int × Int × Int × Int) := (spec_l1Below.f s0_0 s0_1 s0_2 5).bind fun bt102 => ((spec_l2Draw.f k s0_0 bt102.2.1 bt102.2.2 bt102.1).bind fun bt105 => ((spec_l1Below.f s0_0 bt105.2.2.1 bt105.2.2.2 14).bind fun bt110 => (if bt110.1 = 0 then ((spec_l1PickInt.f s0_0 bt110.2.1 bt110.2.2 (([(-1),6,5,0,9223372036854775807] : List Int))).bind fun bt116 => (some (bt116.1,bt105.2.1,bt116.2.1,bt116.2.2))) else (if bt110.1 = 1 then ((spec_l1PickInt.f s0_0 bt110.2.1 bt110.2.2 (([(-1),0,1,65536,9223372036854775807] : List Int))).bind fun bt122 => (some (bt105.1,bt122.1,bt122.2.1,bt122.2.2))) else (some (bt105.1,bt105.2.1,bt110.2.1,bt110.2.2))))))
set_option maxHeartbeats 8000000 in
set_option maxRecDepth 100000 in
theorem spec_l2Any.calls (k : Nat) (g : Nat) (s0_0 : List Int) (s0_1 : Int) (s0_2 : Int) (r1 : Int) (r2 : Int) (r3 : Int) (r4 : Int) (w0 w : World) (hI : IsS59 w0 w g s0_0 s0_1 s0_2) (hB : Below w0.heap.size w0 w) (h : spec_l2Any.f k s0_0 s0_1 s0_2 = some (r1,r2,r3,r4)) :
  Calls Try.prog 52 #[.pointer (some ⟨g,0,none⟩)] w fun e w' => e = .returned (.agg #[.int .i64 r1,.int .i64 r2]) ∧ IsS59 w0 w' g s0_0 r3 r4 ∧ Below w0.heap.size w0 w' ∧ KeepBut w w' g none := by
 have hu25 := Try.underlying25
 have HI0 := aZ_ hI
 have HK := aZ_ (KeepBut.refl w g none)
 have HL := aZ_ hB.size
 clear hI
 have HW0 := aZ_ hB.size
 have HB := aZ_ hB
 clear hB
 have H : ((spec_l1Below.f s0_0 s0_1 s0_2 5).bind fun bt102 => ((spec_l2Draw.f k s0_0 bt102.2.1 bt102.2.2 bt102.1).bind fun bt105 => ((spec_l1Below.f s0_0 bt105.2.2.1 bt105.2.2.2 14).bind fun bt110 => (if bt110.1 = 0 then ((spec_l1PickInt.f s0_0 bt110.2.1 bt110.2.2 (([(-1),6,5,0,9223372036854775807] : List Int))).bind fun bt116 => (some (bt116.1,bt105.2.1,bt116.2.1,bt116.2.2))) else (if bt110.1 = 1 then ((spec_l1PickInt.f s0_0 bt110.2.1 bt110.2.2 (([(-1),0,1,65536,9223372036854775807] : List Int))).bind fun bt122 => (some (bt105.1,bt122.1,bt122.2.1,bt122.2.2))) else (some (bt105.1,bt105.2.1,bt110.2.1,bt110.2.2))))))) = some (r1,r2,r3,r4) := h
 clear h
 replace H := Option.bind_eq_some_iff.mp H
 obtain ⟨⟨t102,t103,t104⟩,A20,H⟩ := H
 replace H : ((spec_l2Draw.f k s0_0 t103 t104 t102).bind fun bt105 => ((spec_l1Below.f s0_0 bt105.2.2.1 bt105.2.2.2 14).bind fun bt110 => (if bt110.1 = 0 then ((spec_l1PickInt.f s0_0 bt110.2.1 bt110.2.2 (([(-1),6,5,0,9223372036854775807] : List Int))).bind fun bt116 => (some (bt116.1,bt105.2.1,bt116.2.1,bt116.2.2))) else (if bt110.1 = 1 then ((spec_l1PickInt.f s0_0 bt110.2.1 bt110.2.2 (([(-1),0,1,65536,9223372036854775807] : List Int))).bind fun bt122 => (some (bt105.1,bt122.1,bt122.2.1,bt122.2.2))) else (some (bt105.1,bt105.2.1,bt110.2.1,bt110.2.2)))))) = some (r1,r2,r3,r4) := H
 have A2 := aZ_ A20
 clear A20
 replace H := Option.bind_eq_some_iff.mp H
 obtain ⟨⟨t105,t106,t107,t108⟩,A30,H⟩ := H
 replace H : ((spec_l1Below.f s0_0 t107 t108 14).bind fun bt110 => (if bt110.1 = 0 then ((spec_l1PickInt.f s0_0 bt110.2.1 bt110.2.2 (([(-1),6,5,0,9223372036854775807] : List Int))).bind fun bt116 => (some (bt116.1,t106,bt116.2.1,bt116.2.2))) else (if bt110.1 = 1 then ((spec_l1PickInt.f s0_0 bt110.2.1 bt110.2.2 (([(-1),0,1,65536,9223372036854775807] : List Int))).bind fun bt122 => (some (t105,bt122.1,bt122.2.1,bt122.2.2))) else (some (t105,t106,bt110.2.1,bt110.2.2))))) = some (r1,r2,r3,r4) := H
 have A3 := aZ_ A30
 clear A30
 replace H := Option.bind_eq_some_iff.mp H
 obtain ⟨⟨t110,t111,t112⟩,A40,H⟩ := H
 replace H : (if t110 = 0 then ((spec_l1PickInt.f s0_0 t111 t112 (([(-1),6,5,0,9223372036854775807] : List Int))).bind fun bt116 => (some (bt116.1,t106,bt116.2.1,bt116.2.2))) else (if t110 = 1 then ((spec_l1PickInt.f s0_0 t111 t112 (([(-1),0,1,65536,9223372036854775807] : List Int))).bind fun bt122 => (some (t105,bt122.1,bt122.2.1,bt122.2.2))) else (some (t105,t106,t111,t112)))) = some (r1,r2,r3,r4) := H
 have A4 := aZ_ A40
 clear A40
 by_cases c5 : t110 = 0
 ·rw [if_pos c5] at H
  have c5b0 : (t110 == 0) = true := beq_iff_eq.mpr c5
  have c5b1 : (t110 != 0) = false := bne_eq_false_iff_eq.mpr c5
  clear c5
  obtain ⟨y113,hy113⟩ : ∃ y_ : List Int,y_ = (([(-1),6,5,0,9223372036854775807] : List Int)) := ⟨_,rfl⟩
  replace H : ((spec_l1PickInt.f s0_0 t111 t112 y113).bind fun bt116 => (some (bt116.1,t106,bt116.2.1,bt116.2.2))) = some (r1,r2,r3,r4) := by first | (rw [hy113];with_reducible exact H) | (have H2_ := (Option.bind_some _ _).symm.trans H;rw [hy113];with_reducible exact H2_) | (have H2_ := (Option.bind_some _ _).symm.trans H;with_reducible exact H2_) | with_reducible exact H | (rw [hy113];exact H) | exact H
  have Ny113 := aZ_ hy113
  clear hy113
  replace H := Option.bind_eq_some_iff.mp H
  obtain ⟨⟨t116,t117,t118⟩,A60,H⟩ := H
  replace H : (some (t116,t106,t117,t118)) = some (r1,r2,r3,r4) := H
  have A6 := aZ_ A60
  clear A60
  simp only [Option.some.injEq,Prod.mk.injEq] at H
  obtain ⟨rfl,rfl,rfl,rfl⟩ := H
  go_enter Try.func52,Try.ntmps52
  go_wp2_with (first | ((with_reducible refine gate_dst (N := 2) rfl ?_);refine box_event ?hg (N := 2) ?hd (cs := #[.int .i64 0,.int .i64 0]) (t := 25) ?hr ?_;(case hd => rfl);(case hg => rfl);(case hr => first | (go_simp;done) | (go_simp;rfl));intro gb101 hg w7 hbox hb;have n0_ := aZ_ (IsS59.below T21_ hb);have n1_ := aZ_ (KeepBut.trans T16_ (KeepBut.of_below hb g none) (.inl rfl));have n2_ := aZ_ (below_step T20_ hb);have n3_ := aZ_ (hbox);have n4_ := aZ_ ((T8_ : w.heap.size ≤ gb101));have n5_ := aZ_ ((Nat.le_trans HW0.out (T8_ : w.heap.size ≤ gb101) : w0.heap.size ≤ gb101));have n6_ := aZ_ ((T14_ : g ≠ gb101));have n7_ := aZ_ ((T15_ : gb101 ≠ g));clear HI0;clear HK;clear HB;have HI0 := n0_;have HK := n1_;have HB := n2_;have BK101 := n3_;have GW101 := n4_;have GE101 := n5_;have NB0_101 := n6_;have NB101_0 := n7_;clear n0_ n1_ n2_ n3_ n4_ n5_ n6_ n7_;clear hb hbox hg) | ((with_reducible refine gate_callee (f := 49) rfl ?_);refine goesL_ (some 6) rfl rfl Try.func49 T12_ rfl #[.pointer (some ⟨g,0,none⟩),.int .i64 5] rfl T4_ ?_;(with_reducible refine (spec_l1Below.calls g s0_0 s0_1 s0_2 5 t102 t103 t104 w0 _ ?side1 ?side2 A2.out).mono ?_);(case side1 => repeat (first | (with_reducible first | exact HI0.out | apply IsS59.alloc | apply IsS59.drewN | apply IsS59.drew | apply IsS59.set_1 | apply IsS59.set_2 | refine IsS59.far ?_ NB0_101.out _) | exact HI0.out));(case side2 => repeat (first | (with_reducible first | exact HB.out | apply below_alloc | apply pw_below_drewN | apply below_drew1 | refine below_set ?_ (IsS59.ge HI0.out) | refine below_set ?_ GE101.out) | exact HB.out));rintro e w8 ⟨rfl,hi,hb,hk⟩;refine ⟨_,rfl,?_⟩;have n0_ := aZ_ (KeepBut.blk hk (g' := gb101) (o := .cells #[.int .i64 0,.int .i64 0] 25 (0,0)) T2_ NB101_0.out T40_);have n1_ := aZ_ (KeepBut.trans T7_ hk (.inl rfl));have n2_ := aZ_ (hb);have n3_ := aZ_ (hi);clear BK101;clear HK;clear HB;clear HI0;have BK101 := n0_;have HK := n1_;have HB := n2_;have HI0 := n3_;clear n0_ n1_ n2_ n3_;(try clear hb);(try clear hb2);(try clear hk);(try clear hi)) | ((with_reducible refine gate_callee (f := 53) rfl ?_);refine goesL_ (some 7) rfl rfl Try.func53 T12_ rfl #[.pointer (some ⟨g,0,none⟩),.int .i64 t102] rfl T4_ ?_;(with_reducible refine (spec_l2Draw.calls k g s0_0 t103 t104 t102 t105 t106 t107 t108 w0 _ ?side1 ?side2 A3.out).mono ?_);(case side1 => repeat (first | (with_reducible first | exact HI0.out | apply IsS59.alloc | apply IsS59.drewN | apply IsS59.drew | apply IsS59.set_1 | apply IsS59.set_2 | refine IsS59.far ?_ NB0_101.out _) | exact HI0.out));(case side2 => repeat (first | (with_reducible first | exact HB.out | apply below_alloc | apply pw_below_drewN | apply below_drew1 | refine below_set ?_ (IsS59.ge HI0.out) | refine below_set ?_ GE101.out) | exact HB.out));rintro e w9 ⟨rfl,hi,hb,hk⟩;refine ⟨_,rfl,?_⟩;have n0_ := aZ_ (KeepBut.blk hk (g' := gb101) (o := .cells #[.int .i64 0,.int .i64 0] 25 (0,0)) T2_ NB101_0.out T40_);have n1_ := aZ_ (KeepBut.trans T7_ hk (.inl rfl));have n2_ := aZ_ (hb);have n3_ := aZ_ (hi);clear BK101;clear HK;clear HB;clear HI0;have BK101 := n0_;have HK := n1_;have HB := n2_;have HI0 := n3_;clear n0_ n1_ n2_ n3_;(try clear hb);(try clear hb2);(try clear hk);(try clear hi)) | ((with_reducible refine gate_dst (N := 3) rfl ?_);refine box_event ?hg (N := 3) ?hd (cs := #[.int .i64 0,.int .i64 0]) (t := 25) ?hr ?_;(case hd => rfl);(case hg => rfl);(case hr => first | (go_simp;done) | (go_simp;rfl));intro gb109 hg w10 hbox hb;have n0_ := aZ_ (IsS59.below T10_ hb);have n1_ := aZ_ (blk_below (g := gb101) (o := .cells #[.int .i64 0,.int .i64 0] 25 (0,0)) T2_ hb);have n2_ := aZ_ (KeepBut.trans T7_ (KeepBut.of_below hb g none) (.inl rfl));have n3_ := aZ_ (below_step T11_ hb);have n4_ := aZ_ (hbox);have n5_ := aZ_ ((T18_ : w.heap.size ≤ gb109));have n6_ := aZ_ ((Nat.le_trans HW0.out (T18_ : w.heap.size ≤ gb109) : w0.heap.size ≤ gb109));have n7_ := aZ_ ((T29_ : gb101 ≠ gb109));have n8_ := aZ_ ((T30_ : gb109 ≠ gb101));have n9_ := aZ_ ((T33_ : g ≠ gb109));have n10_ := aZ_ ((T34_ : gb109 ≠ g));clear HI0;clear BK101;clear HK;clear HB;have HI0 := n0_;have BK101 := n1_;have HK := n2_;have HB := n3_;have BK109 := n4_;have GW109 := n5_;have GE109 := n6_;have NB101_109 := n7_;have NB109_101 := n8_;have NB0_109 := n9_;have NB109_0 := n10_;clear n0_ n1_ n2_ n3_ n4_ n5_ n6_ n7_ n8_ n9_ n10_;clear hb hbox hg;have hnb11 := NB109_101.out;have hnc11 := NB101_109.out;have hnb12 := NB109_0.out;have hnc12 := NB0_109.out;have hcz13_0 : w10.cell? ⟨gb109,0,none⟩ = some (.int .i64 0) := (blk_cell BK109.out 0).trans rfl;have hcz13_1 : w10.cell? ⟨gb109,1,none⟩ = some (.int .i64 0) := (blk_cell BK109.out 1).trans rfl;have hfz13_0 := blk_frozen BK109.out 0;have hfz13_1 := blk_frozen BK109.out 1) | ((with_reducible refine gate_callee (f := 49) rfl ?_);refine goesL_ (some 9) rfl rfl Try.func49 T12_ rfl #[.pointer (some ⟨g,0,none⟩),.int .i64 14] rfl T4_ ?_;(with_reducible refine (spec_l1Below.calls g s0_0 t107 t108 14 t110 t111 t112 w0 _ ?side1 ?side2 A4.out).mono ?_);(case side1 => repeat (first | (with_reducible first | exact HI0.out | apply IsS59.alloc | apply IsS59.drewN | apply IsS59.drew | apply IsS59.set_1 | apply IsS59.set_2 | refine IsS59.far ?_ NB0_101.out _ | refine IsS59.far ?_ NB0_109.out _) | exact HI0.out));(case side2 => repeat (first | (with_reducible first | exact HB.out | apply below_alloc | apply pw_below_drewN | apply below_drew1 | refine below_set ?_ (IsS59.ge HI0.out) | refine below_set ?_ GE101.out | refine below_set ?_ GE109.out) | exact HB.out));rintro e w14 ⟨rfl,hi,hb,hk⟩;refine ⟨_,rfl,?_⟩;have n0_ := aZ_ (KeepBut.blk hk (g' := gb101) (o := .cells #[.int .i64 0,.int .i64 0] 25 (0,0)) T26_ NB101_0.out T40_);have n1_ := aZ_ (KeepBut.blk hk (g' := gb109) (o := .cells #[.int .i64 t105,.int .i64 t106] 25 (0,0)) T23_ NB109_0.out T40_);have n2_ := aZ_ (KeepBut.trans T19_ hk (.inl rfl));have n3_ := aZ_ (hb);have n4_ := aZ_ (hi);clear BK101;clear BK109;clear HK;clear HB;clear HI0;have BK101 := n0_;have BK109 := n1_;have HK := n2_;have HB := n3_;have HI0 := n4_;clear n0_ n1_ n2_ n3_ n4_;(try clear hb);(try clear hb2);(try clear hk);(try clear hi)) | ((with_reducible refine gate_dst (N := 13) rfl ?_);refine Kd.R_lit (Kd.int .i64) _ 3 ?hg (N := 13) ?hd (xs := ([(-1),6,5,0,9223372036854775807] : List Int)) (inner := [.int .i64 (-1),.int .i64 6,.int .i64 5,.int .i64 0,.int .i64 9223372036854775807]) (ok := fun _ => True) (okp := fun _ => True) ?hr ?hp (fun _ hk => hk) trivial (Below.refl _ _) (Nat.le_refl _) T40_ ?_;(case hd => rfl);(case hg => rfl);(case hr => first | (go_simp;done) | (go_simp;rfl));(case hp => exact (Reps.one (show Kd.M (Kd.int .i64) _ _ _ (-1) [.int .i64 (-1)] from rfl) (Reps.one (show Kd.M (Kd.int .i64) _ _ _ 6 [.int .i64 6] from rfl) (Reps.one (show Kd.M (Kd.int .i64) _ _ _ 5 [.int .i64 5] from rfl) (Reps.one (show Kd.M (Kd.int .i64) _ _ _ 0 [.int .i64 0] from rfl) (Reps.one (show Kd.M (Kd.int .i64) _ _ _ 9223372036854775807 [.int .i64 9223372036854775807] from rfl) (Reps.none _ _)))))));intro v114 w15 ho16 hb hg_ hnew_;clear hg_ hnew_;(first | rw [← Ny113.out] at ho16 | (simp only [Int.reduceToNat] at ho16;rw [← Ny113.out] at ho16));have n0_ := aZ_ (Kd.R_lower ho16 (keep_size (w := w) (g := g) (row := none) T19_));have n1_ := aZ_ (IsS59.below T41_ hb);have n2_ := aZ_ (blk_below (g := gb101) (o := .cells #[.int .i64 0,.int .i64 0] 25 (0,0)) T2_ hb);have n3_ := aZ_ (blk_below (g := gb109) (o := .cells #[.int .i64 t105,.int .i64 t106] 25 (0,0)) T44_ hb);have n4_ := aZ_ (KeepBut.trans T19_ (KeepBut.of_below hb g none) (.inl rfl));have n5_ := aZ_ (below_step T43_ hb);clear HI0;clear BK101;clear BK109;clear HK;clear HB;have HO115 := n0_;have HI0 := n1_;have BK101 := n2_;have BK109 := n3_;have HK := n4_;have HB := n5_;clear n0_ n1_ n2_ n3_ n4_ n5_;clear hb ho16;obtain ⟨Ao17,co17,eo17⟩ := Kd.R_slice HO115.out;subst eo17) | ((with_reducible refine gate_callee (f := 66) rfl ?_);refine goesL_ (some 14) rfl rfl Try.func66 T12_ rfl #[.pointer (some ⟨g,0,none⟩),.slice Ao17 y113.length co17] rfl T4_ ?_;(with_reducible refine (spec_l1PickInt.calls g s0_0 t111 t112 _ _ y113 t116 t117 t118 w0 _ ?side1 ?side2 ?side3 ?side4 ?side5 A6.out).mono ?_);(case side1 => repeat (first | (with_reducible first | exact HI0.out | apply IsS59.alloc | apply IsS59.drewN | apply IsS59.drew | apply IsS59.set_1 | apply IsS59.set_2 | refine IsS59.far ?_ NB0_101.out _ | refine IsS59.far ?_ NB0_109.out _) | exact HI0.out));(case side2 => repeat (first | (with_reducible first | exact HB.out | apply below_alloc | apply pw_below_drewN | apply below_drew1 | refine below_set ?_ (IsS59.ge HI0.out) | refine below_set ?_ GE101.out | refine below_set ?_ GE109.out) | exact HB.out));(case side3 => repeat (first | exact (Kd.R_reads' HO115.out).2.2 | (with_reducible refine Kd.C_alloc ?_ _) | (with_reducible refine Kd.C_drewN ?_ _) | (with_reducible refine Kd.C_drew ?_)));(case side4 => exact (Kd.R_reads' HO115.out).2.1);(case side5 => exact far_slice (IsS59.own_ne HI0.out HO115.out T35_));rintro e w18 ⟨rfl,hi,hb,hk⟩;refine ⟨_,rfl,?_⟩;have n0_ := aZ_ (KeepBut.blk hk (g' := gb101) (o := .cells #[.int .i64 0,.int .i64 0] 25 (0,0)) T2_ NB101_0.out T40_);have n1_ := aZ_ (KeepBut.blk hk (g' := gb109) (o := .cells #[.int .i64 t105,.int .i64 t106] 25 (0,0)) T44_ NB109_0.out T40_);have n2_ := aZ_ (Kd.R_mono (Kd.R_keep (IsS59.apart (show IsS59 w0 _ g s0_0 t111 t112 from by repeat (first | (with_reducible first | exact HI0.out | apply IsS59.alloc | apply IsS59.drewN | apply IsS59.drew | apply IsS59.set_1 | apply IsS59.set_2 | refine IsS59.far ?_ NB0_101.out _ | refine IsS59.far ?_ NB0_109.out _) | exact HI0.out)) (by (with_reducible repeat (first | apply Kd.R_alloc | apply Kd.R_drewN | apply Kd.R_drew));exact HO115.out) T35_) hk (fun _ h => h.2)) (fun _ h => h.1));have n3_ := aZ_ (KeepBut.trans T19_ hk (.inl rfl));have n4_ := aZ_ (hb);have n5_ := aZ_ (hi);clear BK101;clear BK109;clear HO115;clear HK;clear HB;clear HI0;have BK101 := n0_;have BK109 := n1_;have HO115 := n2_;have HK := n3_;have HB := n4_;have HI0 := n5_;clear n0_ n1_ n2_ n3_ n4_ n5_;(try clear hb);(try clear hb2);(try clear hk);(try clear hi);have hcz19_0 : w18.cell? ⟨gb109,0,none⟩ = some (.int .i64 t105) := (blk_cell BK109.out 0).trans rfl;have hcz19_1 : w18.cell? ⟨gb109,1,none⟩ = some (.int .i64 t106) := (blk_cell BK109.out 1).trans rfl;have hfz19_0 := blk_frozen BK109.out 0;have hfz19_1 := blk_frozen BK109.out 1;have hnb20 := NB101_0.out;have hnc20 := NB0_101.out;have hcz21_0 : w18.cell? ⟨gb101,0,none⟩ = some (.int .i64 0) := (blk_cell BK101.out 0).trans rfl;have hcz21_1 : w18.cell? ⟨gb101,1,none⟩ = some (.int .i64 0) := (blk_cell BK101.out 1).trans rfl;have hfz21_0 := blk_frozen BK101.out 0;have hfz21_1 := blk_frozen BK101.out 1))
  refine bodyPost_ret (results_cell_row rfl _ _ gb101 25 #[.int .i64 t116,.int .i64 t106] (0,0) _ rfl (by (with_reducible repeat (first | refine blk_drewN ?_ _ | refine blk_drew ?_ | refine blk_alloc ?_ _));refine blk_put (cs := #[.int .i64 t116,.int .i64 0]) ?_ 1 _ rfl;(with_reducible repeat (first | refine blk_drewN ?_ _ | refine blk_drew ?_ | refine blk_alloc ?_ _));refine blk_put (cs := #[.int .i64 0,.int .i64 0]) ?_ 0 _ rfl;(with_reducible repeat (first | refine blk_drewN ?_ _ | refine blk_drew ?_ | refine blk_alloc ?_ _));refine blk_far ?_ NB101_109.out _;(with_reducible repeat (first | refine blk_drewN ?_ _ | refine blk_drew ?_ | refine blk_alloc ?_ _));exact BK101.out) Try.underlying25 rfl T12_) rfl ?_
  exact ⟨by first | rfl | (simp [errW_none,errW_some] <;> rfl) | (simp [*,errW_none,errW_some] <;> rfl),by repeat (first | (with_reducible first | exact HI0.out | apply IsS59.alloc | apply IsS59.drewN | apply IsS59.drew | apply IsS59.set_1 | apply IsS59.set_2 | refine IsS59.far ?_ NB0_101.out _ | refine IsS59.far ?_ NB0_109.out _) | exact HI0.out),by repeat (first | (with_reducible first | exact HB.out | apply below_alloc | apply pw_below_drewN | apply below_drew1 | refine below_set ?_ (IsS59.ge HI0.out) | refine below_set ?_ GE101.out | refine below_set ?_ GE109.out) | exact HB.out),by repeat (first | (with_reducible first | exact HK.out | apply KeepBut.set_ | apply keep_drewN | apply keep_drew | apply keep_alloc | refine keep_far ?_ GW101.out _ | refine keep_far ?_ GW109.out _) | exact HK.out)⟩
 ·rw [if_neg c5] at H
  have c5b0 : (t110 == 0) = false := beq_eq_false_iff_ne.mpr c5
  have c5b1 : (t110 != 0) = true := bne_iff_ne.mpr c5
  by_cases c22 : t110 = 1
  ·rw [if_pos c22] at H
   have c22b0 : (t110 == 1) = true := beq_iff_eq.mpr c22
   have c22b1 : (t110 != 1) = false := bne_eq_false_iff_eq.mpr c22
   clear c22
   obtain ⟨y119,hy119⟩ : ∃ y_ : List Int,y_ = (([(-1),0,1,65536,9223372036854775807] : List Int)) := ⟨_,rfl⟩
   replace H : ((spec_l1PickInt.f s0_0 t111 t112 y119).bind fun bt122 => (some (t105,bt122.1,bt122.2.1,bt122.2.2))) = some (r1,r2,r3,r4) := by first | (rw [hy119];with_reducible exact H) | (have H2_ := (Option.bind_some _ _).symm.trans H;rw [hy119];with_reducible exact H2_) | (have H2_ := (Option.bind_some _ _).symm.trans H;with_reducible exact H2_) | with_reducible exact H | (rw [hy119];exact H) | exact H
   have Ny119 := aZ_ hy119
   clear hy119
   replace H := Option.bind_eq_some_iff.mp H
   obtain ⟨⟨t122,t123,t124⟩,A230,H⟩ := H
   replace H : (some (t105,t122,t123,t124)) = some (r1,r2,r3,r4) := H
   have A23 := aZ_ A230
   clear A230
   simp only [Option.some.injEq,Prod.mk.injEq] at H
   obtain ⟨rfl,rfl,rfl,rfl⟩ := H
   go_enter Try.func52,Try.ntmps52
   go_wp2_with (first | ((with_reducible refine gate_dst (N := 2) rfl ?_);refine box_event ?hg (N := 2) ?hd (cs := #[.int .i64 0,.int .i64 0]) (t := 25) ?hr ?_;(case hd => rfl);(case hg => rfl);(case hr => first | (go_simp;done) | (go_simp;rfl));intro gb101 hg w24 hbox hb;have n0_ := aZ_ (IsS59.below T21_ hb);have n1_ := aZ_ (KeepBut.trans T16_ (KeepBut.of_below hb g none) (.inl rfl));have n2_ := aZ_ (below_step T20_ hb);have n3_ := aZ_ (hbox);have n4_ := aZ_ ((T8_ : w.heap.size ≤ gb101));have n5_ := aZ_ ((Nat.le_trans HW0.out (T8_ : w.heap.size ≤ gb101) : w0.heap.size ≤ gb101));have n6_ := aZ_ ((T14_ : g ≠ gb101));have n7_ := aZ_ ((T15_ : gb101 ≠ g));clear HI0;clear HK;clear HB;have HI0 := n0_;have HK := n1_;have HB := n2_;have BK101 := n3_;have GW101 := n4_;have GE101 := n5_;have NB0_101 := n6_;have NB101_0 := n7_;clear n0_ n1_ n2_ n3_ n4_ n5_ n6_ n7_;clear hb hbox hg) | ((with_reducible refine gate_callee (f := 49) rfl ?_);refine goesL_ (some 6) rfl rfl Try.func49 T12_ rfl #[.pointer (some ⟨g,0,none⟩),.int .i64 5] rfl T4_ ?_;(with_reducible refine (spec_l1Below.calls g s0_0 s0_1 s0_2 5 t102 t103 t104 w0 _ ?side1 ?side2 A2.out).mono ?_);(case side1 => repeat (first | (with_reducible first | exact HI0.out | apply IsS59.alloc | apply IsS59.drewN | apply IsS59.drew | apply IsS59.set_1 | apply IsS59.set_2 | refine IsS59.far ?_ NB0_101.out _) | exact HI0.out));(case side2 => repeat (first | (with_reducible first | exact HB.out | apply below_alloc | apply pw_below_drewN | apply below_drew1 | refine below_set ?_ (IsS59.ge HI0.out) | refine below_set ?_ GE101.out) | exact HB.out));rintro e w25 ⟨rfl,hi,hb,hk⟩;refine ⟨_,rfl,?_⟩;have n0_ := aZ_ (KeepBut.blk hk (g' := gb101) (o := .cells #[.int .i64 0,.int .i64 0] 25 (0,0)) T2_ NB101_0.out T40_);have n1_ := aZ_ (KeepBut.trans T7_ hk (.inl rfl));have n2_ := aZ_ (hb);have n3_ := aZ_ (hi);clear BK101;clear HK;clear HB;clear HI0;have BK101 := n0_;have HK := n1_;have HB := n2_;have HI0 := n3_;clear n0_ n1_ n2_ n3_;(try clear hb);(try clear hb2);(try clear hk);(try clear hi)) | ((with_reducible refine gate_callee (f := 53) rfl ?_);refine goesL_ (some 7) rfl rfl Try.func53 T12_ rfl #[.pointer (some ⟨g,0,none⟩),.int .i64 t102] rfl T4_ ?_;(with_reducible refine (spec_l2Draw.calls k g s0_0 t103 t104 t102 t105 t106 t107 t108 w0 _ ?side1 ?side2 A3.out).mono ?_);(case side1 => repeat (first | (with_reducible first | exact HI0.out | apply IsS59.alloc | apply IsS59.drewN | apply IsS59.drew | apply IsS59.set_1 | apply IsS59.set_2 | refine IsS59.far ?_ NB0_101.out _) | exact HI0.out));(case side2 => repeat (first | (with_reducible first | exact HB.out | apply below_alloc | apply pw_below_drewN | apply below_drew1 | refine below_set ?_ (IsS59.ge HI0.out) | refine below_set ?_ GE101.out) | exact HB.out));rintro e w26 ⟨rfl,hi,hb,hk⟩;refine ⟨_,rfl,?_⟩;have n0_ := aZ_ (KeepBut.blk hk (g' := gb101) (o := .cells #[.int .i64 0,.int .i64 0] 25 (0,0)) T2_ NB101_0.out T40_);have n1_ := aZ_ (KeepBut.trans T7_ hk (.inl rfl));have n2_ := aZ_ (hb);have n3_ := aZ_ (hi);clear BK101;clear HK;clear HB;clear HI0;have BK101 := n0_;have HK := n1_;have HB := n2_;have HI0 := n3_;clear n0_ n1_ n2_ n3_;(try clear hb);(try clear hb2);(try clear hk);(try clear hi)) | ((with_reducible refine gate_dst (N := 3) rfl ?_);refine box_event ?hg (N := 3) ?hd (cs := #[.int .i64 0,.int .i64 0]) (t := 25) ?hr ?_;(case hd => rfl);(case hg => rfl);(case hr => first | (go_simp;done) | (go_simp;rfl));intro gb109 hg w27 hbox hb;have n0_ := aZ_ (IsS59.below T10_ hb);have n1_ := aZ_ (blk_below (g := gb101) (o := .cells #[.int .i64 0,.int .i64 0] 25 (0,0)) T2_ hb);have n2_ := aZ_ (KeepBut.trans T7_ (KeepBut.of_below hb g none) (.inl rfl));have n3_ := aZ_ (below_step T11_ hb);have n4_ := aZ_ (hbox);have n5_ := aZ_ ((T18_ : w.heap.size ≤ gb109));have n6_ := aZ_ ((Nat.le_trans HW0.out (T18_ : w.heap.size ≤ gb109) : w0.heap.size ≤ gb109));have n7_ := aZ_ ((T29_ : gb101 ≠ gb109));have n8_ := aZ_ ((T30_ : gb109 ≠ gb101));have n9_ := aZ_ ((T33_ : g ≠ gb109));have n10_ := aZ_ ((T34_ : gb109 ≠ g));clear HI0;clear BK101;clear HK;clear HB;have HI0 := n0_;have BK101 := n1_;have HK := n2_;have HB := n3_;have BK109 := n4_;have GW109 := n5_;have GE109 := n6_;have NB101_109 := n7_;have NB109_101 := n8_;have NB0_109 := n9_;have NB109_0 := n10_;clear n0_ n1_ n2_ n3_ n4_ n5_ n6_ n7_ n8_ n9_ n10_;clear hb hbox hg;have hnb28 := NB109_101.out;have hnc28 := NB101_109.out;have hnb29 := NB109_0.out;have hnc29 := NB0_109.out;have hcz30_0 : w27.cell? ⟨gb109,0,none⟩ = some (.int .i64 0) := (blk_cell BK109.out 0).trans rfl;have hcz30_1 : w27.cell? ⟨gb109,1,none⟩ = some (.int .i64 0) := (blk_cell BK109.out 1).trans rfl;have hfz30_0 := blk_frozen BK109.out 0;have hfz30_1 := blk_frozen BK109.out 1) | ((with_reducible refine gate_callee (f := 49) rfl ?_);refine goesL_ (some 9) rfl rfl Try.func49 T12_ rfl #[.pointer (some ⟨g,0,none⟩),.int .i64 14] rfl T4_ ?_;(with_reducible refine (spec_l1Below.calls g s0_0 t107 t108 14 t110 t111 t112 w0 _ ?side1 ?side2 A4.out).mono ?_);(case side1 => repeat (first | (with_reducible first | exact HI0.out | apply IsS59.alloc | apply IsS59.drewN | apply IsS59.drew | apply IsS59.set_1 | apply IsS59.set_2 | refine IsS59.far ?_ NB0_101.out _ | refine IsS59.far ?_ NB0_109.out _) | exact HI0.out));(case side2 => repeat (first | (with_reducible first | exact HB.out | apply below_alloc | apply pw_below_drewN | apply below_drew1 | refine below_set ?_ (IsS59.ge HI0.out) | refine below_set ?_ GE101.out | refine below_set ?_ GE109.out) | exact HB.out));rintro e w31 ⟨rfl,hi,hb,hk⟩;refine ⟨_,rfl,?_⟩;have n0_ := aZ_ (KeepBut.blk hk (g' := gb101) (o := .cells #[.int .i64 0,.int .i64 0] 25 (0,0)) T26_ NB101_0.out T40_);have n1_ := aZ_ (KeepBut.blk hk (g' := gb109) (o := .cells #[.int .i64 t105,.int .i64 t106] 25 (0,0)) T23_ NB109_0.out T40_);have n2_ := aZ_ (KeepBut.trans T19_ hk (.inl rfl));have n3_ := aZ_ (hb);have n4_ := aZ_ (hi);clear BK101;clear BK109;clear HK;clear HB;clear HI0;have BK101 := n0_;have BK109 := n1_;have HK := n2_;have HB := n3_;have HI0 := n4_;clear n0_ n1_ n2_ n3_ n4_;(try clear hb);(try clear hb2);(try clear hk);(try clear hi)) | ((with_reducible refine gate_dst (N := 19) rfl ?_);refine Kd.R_lit (Kd.int .i64) _ 3 ?hg (N := 19) ?hd (xs := ([(-1),0,1,65536,9223372036854775807] : List Int)) (inner := [.int .i64 (-1),.int .i64 0,.int .i64 1,.int .i64 65536,.int .i64 9223372036854775807]) (ok := fun _ => True) (okp := fun _ => True) ?hr ?hp (fun _ hk => hk) trivial (Below.refl _ _) (Nat.le_refl _) T40_ ?_;(case hd => rfl);(case hg => rfl);(case hr => first | (go_simp;done) | (go_simp;rfl));(case hp => exact (Reps.one (show Kd.M (Kd.int .i64) _ _ _ (-1) [.int .i64 (-1)] from rfl) (Reps.one (show Kd.M (Kd.int .i64) _ _ _ 0 [.int .i64 0] from rfl) (Reps.one (show Kd.M (Kd.int .i64) _ _ _ 1 [.int .i64 1] from rfl) (Reps.one (show Kd.M (Kd.int .i64) _ _ _ 65536 [.int .i64 65536] from rfl) (Reps.one (show Kd.M (Kd.int .i64) _ _ _ 9223372036854775807 [.int .i64 9223372036854775807] from rfl) (Reps.none _ _)))))));intro v120 w32 ho33 hb hg_ hnew_;clear hg_ hnew_;(first | rw [← Ny119.out] at ho33 | (simp only [Int.reduceToNat] at ho33;rw [← Ny119.out] at ho33));have n0_ := aZ_ (Kd.R_lower ho33 (keep_size (w := w) (g := g) (row := none) T19_));have n1_ := aZ_ (IsS59.below T41_ hb);have n2_ := aZ_ (blk_below (g := gb101) (o := .cells #[.int .i64 0,.int .i64 0] 25 (0,0)) T2_ hb);have n3_ := aZ_ (blk_below (g := gb109) (o := .cells #[.int .i64 t105,.int .i64 t106] 25 (0,0)) T44_ hb);have n4_ := aZ_ (KeepBut.trans T19_ (KeepBut.of_below hb g none) (.inl rfl));have n5_ := aZ_ (below_step T43_ hb);clear HI0;clear BK101;clear BK109;clear HK;clear HB;have HO121 := n0_;have HI0 := n1_;have BK101 := n2_;have BK109 := n3_;have HK := n4_;have HB := n5_;clear n0_ n1_ n2_ n3_ n4_ n5_;clear hb ho33;obtain ⟨Ao34,co34,eo34⟩ := Kd.R_slice HO121.out;subst eo34) | ((with_reducible refine gate_callee (f := 66) rfl ?_);refine goesL_ (some 20) rfl rfl Try.func66 T12_ rfl #[.pointer (some ⟨g,0,none⟩),.slice Ao34 y119.length co34] rfl T4_ ?_;(with_reducible refine (spec_l1PickInt.calls g s0_0 t111 t112 _ _ y119 t122 t123 t124 w0 _ ?side1 ?side2 ?side3 ?side4 ?side5 A23.out).mono ?_);(case side1 => repeat (first | (with_reducible first | exact HI0.out | apply IsS59.alloc | apply IsS59.drewN | apply IsS59.drew | apply IsS59.set_1 | apply IsS59.set_2 | refine IsS59.far ?_ NB0_101.out _ | refine IsS59.far ?_ NB0_109.out _) | exact HI0.out));(case side2 => repeat (first | (with_reducible first | exact HB.out | apply below_alloc | apply pw_below_drewN | apply below_drew1 | refine below_set ?_ (IsS59.ge HI0.out) | refine below_set ?_ GE101.out | refine below_set ?_ GE109.out) | exact HB.out));(case side3 => repeat (first | exact (Kd.R_reads' HO121.out).2.2 | (with_reducible refine Kd.C_alloc ?_ _) | (with_reducible refine Kd.C_drewN ?_ _) | (with_reducible refine Kd.C_drew ?_)));(case side4 => exact (Kd.R_reads' HO121.out).2.1);(case side5 => exact far_slice (IsS59.own_ne HI0.out HO121.out T35_));rintro e w35 ⟨rfl,hi,hb,hk⟩;refine ⟨_,rfl,?_⟩;have n0_ := aZ_ (KeepBut.blk hk (g' := gb101) (o := .cells #[.int .i64 0,.int .i64 0] 25 (0,0)) T2_ NB101_0.out T40_);have n1_ := aZ_ (KeepBut.blk hk (g' := gb109) (o := .cells #[.int .i64 t105,.int .i64 t106] 25 (0,0)) T44_ NB109_0.out T40_);have n2_ := aZ_ (Kd.R_mono (Kd.R_keep (IsS59.apart (show IsS59 w0 _ g s0_0 t111 t112 from by repeat (first | (with_reducible first | exact HI0.out | apply IsS59.alloc | apply IsS59.drewN | apply IsS59.drew | apply IsS59.set_1 | apply IsS59.set_2 | refine IsS59.far ?_ NB0_101.out _ | refine IsS59.far ?_ NB0_109.out _) | exact HI0.out)) (by (with_reducible repeat (first | apply Kd.R_alloc | apply Kd.R_drewN | apply Kd.R_drew));exact HO121.out) T35_) hk (fun _ h => h.2)) (fun _ h => h.1));have n3_ := aZ_ (KeepBut.trans T19_ hk (.inl rfl));have n4_ := aZ_ (hb);have n5_ := aZ_ (hi);clear BK101;clear BK109;clear HO121;clear HK;clear HB;clear HI0;have BK101 := n0_;have BK109 := n1_;have HO121 := n2_;have HK := n3_;have HB := n4_;have HI0 := n5_;clear n0_ n1_ n2_ n3_ n4_ n5_;(try clear hb);(try clear hb2);(try clear hk);(try clear hi);have hcz36_0 : w35.cell? ⟨gb109,0,none⟩ = some (.int .i64 t105) := (blk_cell BK109.out 0).trans rfl;have hcz36_1 : w35.cell? ⟨gb109,1,none⟩ = some (.int .i64 t106) := (blk_cell BK109.out 1).trans rfl;have hfz36_0 := blk_frozen BK109.out 0;have hfz36_1 := blk_frozen BK109.out 1;have hnb37 := NB101_0.out;have hnc37 := NB0_101.out;have hcz38_0 : w35.cell? ⟨gb101,0,none⟩ = some (.int .i64 0) := (blk_cell BK101.out 0).trans rfl;have hcz38_1 : w35.cell? ⟨gb101,1,none⟩ = some (.int .i64 0) := (blk_cell BK101.out 1).trans rfl;have hfz38_0 := blk_frozen BK101.out 0;have hfz38_1 := blk_frozen BK101.out 1))
   refine bodyPost_ret (results_cell_row rfl _ _ gb101 25 #[.int .i64 t105,.int .i64 t122] (0,0) _ rfl (by (with_reducible repeat (first | refine blk_drewN ?_ _ | refine blk_drew ?_ | refine blk_alloc ?_ _));refine blk_put (cs := #[.int .i64 t105,.int .i64 0]) ?_ 1 _ rfl;(with_reducible repeat (first | refine blk_drewN ?_ _ | refine blk_drew ?_ | refine blk_alloc ?_ _));refine blk_put (cs := #[.int .i64 0,.int .i64 0]) ?_ 0 _ rfl;(with_reducible repeat (first | refine blk_drewN ?_ _ | refine blk_drew ?_ | refine blk_alloc ?_ _));refine blk_far ?_ NB101_109.out _;(with_reducible repeat (first | refine blk_drewN ?_ _ | refine blk_drew ?_ | refine blk_alloc ?_ _));exact BK101.out) Try.underlying25 rfl T12_) rfl ?_
   exact ⟨by first | rfl | (simp [errW_none,errW_some] <;> rfl) | (simp [*,errW_none,errW_some] <;> rfl),by repeat (first | (with_reducible first | exact HI0.out | apply IsS59.alloc | apply IsS59.drewN | apply IsS59.drew | apply IsS59.set_1 | apply IsS59.set_2 | refine IsS59.far ?_ NB0_101.out _ | refine IsS59.far ?_ NB0_109.out _) | exact HI0.out),by repeat (first | (with_reducible first | exact HB.out | apply below_alloc | apply pw_below_drewN | apply below_drew1 | refine below_set ?_ (IsS59.ge HI0.out) | refine below_set ?_ GE101.out | refine below_set ?_ GE109.out) | exact HB.out),by repeat (first | (with_reducible first | exact HK.out | apply KeepBut.set_ | apply keep_drewN | apply keep_drew | apply keep_alloc | refine keep_far ?_ GW101.out _ | refine keep_far ?_ GW109.out _) | exact HK.out)⟩
  ·rw [if_neg c22] at H
   have c22b0 : (t110 == 1) = false := beq_eq_false_iff_ne.mpr c22
   have c22b1 : (t110 != 1) = true := bne_iff_ne.mpr c22
   simp only [Option.some.injEq,Prod.mk.injEq] at H
   obtain ⟨rfl,rfl,rfl,rfl⟩ := H
   go_enter Try.func52,Try.ntmps52
   go_wp2_with (first | ((with_reducible refine gate_dst (N := 2) rfl ?_);refine box_event ?hg (N := 2) ?hd (cs := #[.int .i64 0,.int .i64 0]) (t := 25) ?hr ?_;(case hd => rfl);(case hg => rfl);(case hr => first | (go_simp;done) | (go_simp;rfl));intro gb101 hg w39 hbox hb;have n0_ := aZ_ (IsS59.below T21_ hb);have n1_ := aZ_ (KeepBut.trans T16_ (KeepBut.of_below hb g none) (.inl rfl));have n2_ := aZ_ (below_step T20_ hb);have n3_ := aZ_ (hbox);have n4_ := aZ_ ((T8_ : w.heap.size ≤ gb101));have n5_ := aZ_ ((Nat.le_trans HW0.out (T8_ : w.heap.size ≤ gb101) : w0.heap.size ≤ gb101));have n6_ := aZ_ ((T14_ : g ≠ gb101));have n7_ := aZ_ ((T15_ : gb101 ≠ g));clear HI0;clear HK;clear HB;have HI0 := n0_;have HK := n1_;have HB := n2_;have BK101 := n3_;have GW101 := n4_;have GE101 := n5_;have NB0_101 := n6_;have NB101_0 := n7_;clear n0_ n1_ n2_ n3_ n4_ n5_ n6_ n7_;clear hb hbox hg) | ((with_reducible refine gate_callee (f := 49) rfl ?_);refine goesL_ (some 6) rfl rfl Try.func49 T12_ rfl #[.pointer (some ⟨g,0,none⟩),.int .i64 5] rfl T4_ ?_;(with_reducible refine (spec_l1Below.calls g s0_0 s0_1 s0_2 5 t102 t103 t104 w0 _ ?side1 ?side2 A2.out).mono ?_);(case side1 => repeat (first | (with_reducible first | exact HI0.out | apply IsS59.alloc | apply IsS59.drewN | apply IsS59.drew | apply IsS59.set_1 | apply IsS59.set_2 | refine IsS59.far ?_ NB0_101.out _) | exact HI0.out));(case side2 => repeat (first | (with_reducible first | exact HB.out | apply below_alloc | apply pw_below_drewN | apply below_drew1 | refine below_set ?_ (IsS59.ge HI0.out) | refine below_set ?_ GE101.out) | exact HB.out));rintro e w40 ⟨rfl,hi,hb,hk⟩;refine ⟨_,rfl,?_⟩;have n0_ := aZ_ (KeepBut.blk hk (g' := gb101) (o := .cells #[.int .i64 0,.int .i64 0] 25 (0,0)) T2_ NB101_0.out T40_);have n1_ := aZ_ (KeepBut.trans T7_ hk (.inl rfl));have n2_ := aZ_ (hb);have n3_ := aZ_ (hi);clear BK101;clear HK;clear HB;clear HI0;have BK101 := n0_;have HK := n1_;have HB := n2_;have HI0 := n3_;clear n0_ n1_ n2_ n3_;(try clear hb);(try clear hb2);(try clear hk);(try clear hi)) | ((with_reducible refine gate_callee (f := 53) rfl ?_);refine goesL_ (some 7) rfl rfl Try.func53 T12_ rfl #[.pointer (some ⟨g,0,none⟩),.int .i64 t102] rfl T4_ ?_;(with_reducible refine (spec_l2Draw.calls k g s0_0 t103 t104 t102 t105 t106 t107 t108 w0 _ ?side1 ?side2 A3.out).mono ?_);(case side1 => repeat (first | (with_reducible first | exact HI0.out | apply IsS59.alloc | apply IsS59.drewN | apply IsS59.drew | apply IsS59.set_1 | apply IsS59.set_2 | refine IsS59.far ?_ NB0_101.out _) | exact HI0.out));(case side2 => repeat (first | (with_reducible first | exact HB.out | apply below_alloc | apply pw_below_drewN | apply below_drew1 | refine below_set ?_ (IsS59.ge HI0.out) | refine below_set ?_ GE101.out) | exact HB.out));rintro e w41 ⟨rfl,hi,hb,hk⟩;refine ⟨_,rfl,?_⟩;have n0_ := aZ_ (KeepBut.blk hk (g' := gb101) (o := .cells #[.int .i64 0,.int .i64 0] 25 (0,0)) T2_ NB101_0.out T40_);have n1_ := aZ_ (KeepBut.trans T7_ hk (.inl rfl));have n2_ := aZ_ (hb);have n3_ := aZ_ (hi);clear BK101;clear HK;clear HB;clear HI0;have BK101 := n0_;have HK := n1_;have HB := n2_;have HI0 := n3_;clear n0_ n1_ n2_ n3_;(try clear hb);(try clear hb2);(try clear hk);(try clear hi)) | ((with_reducible refine gate_dst (N := 3) rfl ?_);refine box_event ?hg (N := 3) ?hd (cs := #[.int .i64 0,.int .i64 0]) (t := 25) ?hr ?_;(case hd => rfl);(case hg => rfl);(case hr => first | (go_simp;done) | (go_simp;rfl));intro gb109 hg w42 hbox hb;have n0_ := aZ_ (IsS59.below T10_ hb);have n1_ := aZ_ (blk_below (g := gb101) (o := .cells #[.int .i64 0,.int .i64 0] 25 (0,0)) T2_ hb);have n2_ := aZ_ (KeepBut.trans T7_ (KeepBut.of_below hb g none) (.inl rfl));have n3_ := aZ_ (below_step T11_ hb);have n4_ := aZ_ (hbox);have n5_ := aZ_ ((T18_ : w.heap.size ≤ gb109));have n6_ := aZ_ ((Nat.le_trans HW0.out (T18_ : w.heap.size ≤ gb109) : w0.heap.size ≤ gb109));have n7_ := aZ_ ((T29_ : gb101 ≠ gb109));have n8_ := aZ_ ((T30_ : gb109 ≠ gb101));have n9_ := aZ_ ((T33_ : g ≠ gb109));have n10_ := aZ_ ((T34_ : gb109 ≠ g));clear HI0;clear BK101;clear HK;clear HB;have HI0 := n0_;have BK101 := n1_;have HK := n2_;have HB := n3_;have BK109 := n4_;have GW109 := n5_;have GE109 := n6_;have NB101_109 := n7_;have NB109_101 := n8_;have NB0_109 := n9_;have NB109_0 := n10_;clear n0_ n1_ n2_ n3_ n4_ n5_ n6_ n7_ n8_ n9_ n10_;clear hb hbox hg;have hnb43 := NB109_101.out;have hnc43 := NB101_109.out;have hnb44 := NB109_0.out;have hnc44 := NB0_109.out;have hcz45_0 : w42.cell? ⟨gb109,0,none⟩ = some (.int .i64 0) := (blk_cell BK109.out 0).trans rfl;have hcz45_1 : w42.cell? ⟨gb109,1,none⟩ = some (.int .i64 0) := (blk_cell BK109.out 1).trans rfl;have hfz45_0 := blk_frozen BK109.out 0;have hfz45_1 := blk_frozen BK109.out 1) | ((with_reducible refine gate_callee (f := 49) rfl ?_);refine goesL_ (some 9) rfl rfl Try.func49 T12_ rfl #[.pointer (some ⟨g,0,none⟩),.int .i64 14] rfl T4_ ?_;(with_reducible refine (spec_l1Below.calls g s0_0 t107 t108 14 t110 t111 t112 w0 _ ?side1 ?side2 A4.out).mono ?_);(case side1 => repeat (first | (with_reducible first | exact HI0.out | apply IsS59.alloc | apply IsS59.drewN | apply IsS59.drew | apply IsS59.set_1 | apply IsS59.set_2 | refine IsS59.far ?_ NB0_101.out _ | refine IsS59.far ?_ NB0_109.out _) | exact HI0.out));(case side2 => repeat (first | (with_reducible first | exact HB.out | apply below_alloc | apply pw_below_drewN | apply below_drew1 | refine below_set ?_ (IsS59.ge HI0.out) | refine below_set ?_ GE101.out | refine below_set ?_ GE109.out) | exact HB.out));rintro e w46 ⟨rfl,hi,hb,hk⟩;refine ⟨_,rfl,?_⟩;have n0_ := aZ_ (KeepBut.blk hk (g' := gb101) (o := .cells #[.int .i64 0,.int .i64 0] 25 (0,0)) T26_ NB101_0.out T40_);have n1_ := aZ_ (KeepBut.blk hk (g' := gb109) (o := .cells #[.int .i64 t105,.int .i64 t106] 25 (0,0)) T23_ NB109_0.out T40_);have n2_ := aZ_ (KeepBut.trans T19_ hk (.inl rfl));have n3_ := aZ_ (hb);have n4_ := aZ_ (hi);clear BK101;clear BK109;clear HK;clear HB;clear HI0;have BK101 := n0_;have BK109 := n1_;have HK := n2_;have HB := n3_;have HI0 := n4_;clear n0_ n1_ n2_ n3_ n4_;(try clear hb);(try clear hb2);(try clear hk);(try clear hi);have hcz47_0 : w46.cell? ⟨gb109,0,none⟩ = some (.int .i64 t105) := (blk_cell BK109.out 0).trans rfl;have hcz47_1 : w46.cell? ⟨gb109,1,none⟩ = some (.int .i64 t106) := (blk_cell BK109.out 1).trans rfl;have hfz47_0 := blk_frozen BK109.out 0;have hfz47_1 := blk_frozen BK109.out 1;have hnb48 := NB101_0.out;have hnc48 := NB0_101.out;have hcz49_0 : w46.cell? ⟨gb101,0,none⟩ = some (.int .i64 0) := (blk_cell BK101.out 0).trans rfl;have hcz49_1 : w46.cell? ⟨gb101,1,none⟩ = some (.int .i64 0) := (blk_cell BK101.out 1).trans rfl;have hfz49_0 := blk_frozen BK101.out 0;have hfz49_1 := blk_frozen BK101.out 1))
   refine bodyPost_ret (results_cell_row rfl _ _ gb101 25 #[.int .i64 t105,.int .i64 t106] (0,0) _ rfl T31_ Try.underlying25 rfl T12_) rfl ?_
   exact ⟨by first | rfl | (simp [errW_none,errW_some] <;> rfl) | (simp [*,errW_none,errW_some] <;> rfl),by repeat (first | (with_reducible first | exact HI0.out | apply IsS59.alloc | apply IsS59.drewN | apply IsS59.drew | apply IsS59.set_1 | apply IsS59.set_2 | refine IsS59.far ?_ NB0_101.out _ | refine IsS59.far ?_ NB0_109.out _) | exact HI0.out),by repeat (first | (with_reducible first | exact HB.out | apply below_alloc | apply pw_below_drewN | apply below_drew1 | refine below_set ?_ (IsS59.ge HI0.out) | refine below_set ?_ GE101.out | refine below_set ?_ GE109.out) | exact HB.out),by repeat (first | (with_reducible first | exact HK.out | apply KeepBut.set_ | apply keep_drewN | apply keep_drew | apply keep_alloc | refine keep_far ?_ GW101.out _ | refine keep_far ?_ GW109.out _) | exact HK.out)⟩
mutual
def spec_MonotoneHull.l0 : Nat → Int → Int → Int → Int → Option (Int × Int × Bool)
 | 0,_,_,_,_ => none
 | k + 1,x4,x5,x102000,x102001 => if 0 ≤ x102000 then (if x5 < (shl .i64 1 x102000) then (spec_MonotoneHull.l1 k x4 x5 0 x102000 x102001) else (some (x102000,x4,true))) else (none)
def spec_MonotoneHull.l1 : Nat → Int → Int → Int → Int → Int → Option (Int × Int × Bool)
 | 0,_,_,_,_,_ => none
 | k + 1,x4,x5,x6,x102000,x102001 => if x6 ≤ x5 then (if (Go.bits .and .i64 x6 x5) = x6 then (if 0 ≤ x6 then (if (Go.bits .and .i64 (shr .i64 x102001 x6) 1) = 1 then (if 0 ≤ x5 then (spec_MonotoneHull.l1 k (Go.bits .or .i64 x4 (shl .i64 1 x5)) x5 (wrap64 (x6 + 1)) x102000 x102001) else (none)) else (spec_MonotoneHull.l1 k x4 x5 (wrap64 (x6 + 1)) x102000 x102001)) else (none)) else (spec_MonotoneHull.l1 k x4 x5 (wrap64 (x6 + 1)) x102000 x102001)) else (spec_MonotoneHull.l0 k x4 (wrap64 (x5 + 1)) x102000 x102001)
end
def spec_MonotoneHull.f (k : Nat) (a0_0 : Int) (a0_1 : Int) : Option (Int × Int × Bool) := (spec_IsTable.f a0_0 a0_1).bind fun t103 => (if t103 = true then (spec_MonotoneHull.l0 k 0 0 a0_0 a0_1) else (some (0,0,false)))
set_option maxHeartbeats 8000000 in
set_option maxRecDepth 100000 in
theorem spec_MonotoneHull.calls (k : Nat) (a0_0 : Int) (a0_1 : Int) (r1 : Int) (r2 : Int) (r3 : Bool) (w : World) (h : spec_MonotoneHull.f k a0_0 a0_1 = some (r1,r2,r3)) :
  Calls Try.prog 54 #[.agg #[.int .i64 a0_0,.int .i64 a0_1]] w fun e w' => e = .returned (.tuple #[.agg #[.int .i64 r1,.int .i64 r2],.bool r3]) ∧ Below w.heap.size w w' := by
 have hu25 := Try.underlying25
 have HB := aZ_ (Below.refl w.heap.size w)
 have H : ((spec_IsTable.f a0_0 a0_1).bind fun t103 => (if t103 = true then (spec_MonotoneHull.l0 k 0 0 a0_0 a0_1) else (some (0,0,false)))) = some (r1,r2,r3) := h
 clear h
 replace H := Option.bind_eq_some_iff.mp H
 obtain ⟨t103,A20,H⟩ := H
 replace H : (if t103 = true then (spec_MonotoneHull.l0 k 0 0 a0_0 a0_1) else (some (0,0,false))) = some (r1,r2,r3) := H
 have A2 := aZ_ A20
 clear A20
 by_cases c3 : t103 = true
 ·subst c3
  have H1 : (spec_MonotoneHull.l0 k 0 0 a0_0 a0_1) = some (r1,r2,r3) := by rw [if_pos rfl] at H;exact H
  clear H
  have H := H1
  clear H1
  have H' := aZ_ H
  clear H
  go_enter Try.func54,Try.ntmps54
  go_wp2_with (first | ((with_reducible refine gate_dst (N := 1) rfl ?_);refine box_event ?hg (N := 1) ?hd (cs := #[.int .i64 a0_0,.int .i64 a0_1]) (t := 25) ?hr ?_;(case hd => rfl);(case hg => rfl);(case hr => first | (go_simp;done) | (go_simp;rfl));intro gb101 hg w4 hbox hb;have n0_ := aZ_ (below_step T5_ hb);have n1_ := aZ_ (hbox);have n2_ := aZ_ ((T3_ : w.heap.size ≤ gb101));have n3_ := aZ_ ((T3_ : w.heap.size ≤ gb101));clear HB;have HB := n0_;have BK101 := n1_;have GW101 := n2_;have GE101 := n3_;clear n0_ n1_ n2_ n3_;clear hb hbox hg) | ((with_reducible refine gate_dst (N := 2) rfl ?_);refine box_event ?hg (N := 2) ?hd (cs := #[.int .i64 0,.int .i64 0]) (t := 25) ?hr ?_;(case hd => rfl);(case hg => rfl);(case hr => first | (go_simp;done) | (go_simp;rfl));intro gb102 hg w5 hbox hb;have n0_ := aZ_ (blk_below (g := gb101) (o := .cells #[.int .i64 a0_0,.int .i64 a0_1] 25 (0,0)) T2_ hb);have n1_ := aZ_ (below_step T1_ hb);have n2_ := aZ_ (hbox);have n3_ := aZ_ ((T22_ : w.heap.size ≤ gb102));have n4_ := aZ_ ((T22_ : w.heap.size ≤ gb102));have n5_ := aZ_ ((T27_ : gb101 ≠ gb102));have n6_ := aZ_ ((T28_ : gb102 ≠ gb101));clear BK101;clear HB;have BK101 := n0_;have HB := n1_;have BK102 := n2_;have GW102 := n3_;have GE102 := n4_;have NB101_102 := n5_;have NB102_101 := n6_;clear n0_ n1_ n2_ n3_ n4_ n5_ n6_;clear hb hbox hg;have hnb6 := NB101_102.out;have hnc6 := NB102_101.out;have hcz7_0 : w5.cell? ⟨gb101,0,none⟩ = some (.int .i64 a0_0) := (blk_cell BK101.out 0).trans rfl;have hcz7_1 : w5.cell? ⟨gb101,1,none⟩ = some (.int .i64 a0_1) := (blk_cell BK101.out 1).trans rfl;have hfz7_0 := blk_frozen BK101.out 0;have hfz7_1 := blk_frozen BK101.out 1) | ((with_reducible refine gate_callee (f := 42) rfl ?_);refine goesL_ (some 8) rfl rfl Try.func42 T12_ rfl #[.agg #[.int .i64 a0_0,.int .i64 a0_1]] rfl T4_ ?_;(with_reducible refine (spec_IsTable.calls a0_0 a0_1 true _ A2.out).mono ?_);rintro e w8 ⟨rfl,hb⟩;refine ⟨_,rfl,?_⟩;have n0_ := aZ_ (blk_below (g := gb101) (o := .cells #[.int .i64 a0_0,.int .i64 a0_1] 25 (0,0)) T2_ hb);have n1_ := aZ_ (blk_below (g := gb102) (o := .cells #[.int .i64 0,.int .i64 0] 25 (0,0)) T45_ hb);have n2_ := aZ_ (below_step T39_ hb);clear BK101;clear BK102;clear HB;have BK101 := n0_;have BK102 := n1_;have HB := n2_;clear n0_ n1_ n2_;(try clear hb);(try clear hb2);(try clear hk);(try clear hi)))
  go_loopg [4,5] k (fun kq v4 v5 w' => ∃ (x4_1 : Int) (x5_1 : Int),v4 = .int .i64 x4_1 ∧ v5 = .int .i64 x5_1 ∧ Aside0 (spec_MonotoneHull.l0 kq x4_1 x5_1 a0_0 a0_1 = some (r1,r2,r3)) ∧ Aside0 (kq ≤ k) ∧ Aside0 (w'.heap[gb101]? = some (.cells #[.int .i64 a0_0,.int .i64 a0_1] 25 (0,0))) ∧ Aside0 (w'.heap[gb102]? = some (.cells #[.int .i64 0,.int .i64 0] 25 (0,0))) ∧ Aside0 (Below w.heap.size w w'))
  case atStart => exact ⟨(0),(0),T6_,T6_,H',⟨Nat.le_refl _⟩,⟨by (with_reducible repeat (first | refine blk_drewN ?_ _ | refine blk_drew ?_ | refine blk_alloc ?_ _));exact BK101.out⟩,⟨by (with_reducible repeat (first | refine blk_drewN ?_ _ | refine blk_drew ?_ | refine blk_alloc ?_ _));exact BK102.out⟩,⟨by repeat (first | (with_reducible first | exact HB.out | apply below_alloc | apply pw_below_drewN | apply below_drew1 | refine below_set ?_ GE101.out | refine below_set ?_ GE102.out) | exact HB.out)⟩⟩
  case round =>
   clear H'
   try clear p2
   try clear c3
   try clear c4
   try clear c5
   try clear c6
   try clear hcz7_0
   try clear hcz7_1
   try clear hfz7_0
   try clear hfz7_1
   obtain ⟨x4_1,x5_1,rfl,rfl,HA,HK1,BK101,BK102,HB⟩ := hrel
   cases gk with
   | zero => exact absurd HA.out (by simp [spec_MonotoneHull.l0])
   | succ k1 =>
    have H := HA.out
    clear HA
    simp only [spec_MonotoneHull.l0] at H
    by_cases c9 : 0 ≤ a0_0
    ·rw [if_pos c9] at H
     have c9b0 := eq_true c9
     have c9b1 : decide (0 ≤ a0_0) = true := decide_eq_true c9
     clear c9
     obtain ⟨ji10,hji10⟩ : ∃ j_ : Int,(shl .i64 1 a0_0) = j_ := ⟨_,rfl⟩
     replace H : (if x5_1 < (ji10) then (spec_MonotoneHull.l1 k1 x4_1 x5_1 0 a0_0 a0_1) else (some (a0_0,x4_1,true))) = some (r1,r2,r3) := by first | (rw [hji10] at H;exact H) | (simp only [hji10] at H ⊢;exact H)
     have hji10_ : (IntKind.i64.wrap (1 * 2 ^ min a0_0.toNat 64)) = ji10 := hji10
     have hji10z : a0_0 ≤ 64 → (IntKind.i64.wrap (1 * 2 ^ a0_0.toNat)) = ji10 := shl_small hji10
     have hji10u : (IntKind.i64.wrap (2 ^ min a0_0.toNat 64)) = ji10 := by have h_ := hji10_;rw [Int.one_mul] at h_;exact h_
     have hji10v : a0_0 ≤ 64 → (IntKind.i64.wrap (2 ^ a0_0.toNat)) = ji10 := fun hle_ => by have h_ := hji10z hle_;rw [Int.one_mul] at h_;exact h_
     have hji10y : (wrap64 (1 * 2 ^ min a0_0.toNat 64)) = ji10 := (i64_w _).symm.trans hji10_
     have hji10x : a0_0 ≤ 64 → (wrap64 (1 * 2 ^ a0_0.toNat)) = ji10 := fun h_ => (i64_w _).symm.trans (hji10z h_)
     by_cases c11 : x5_1 < (ji10)
     ·rw [if_pos c11] at H
      have c11b0 : decide (x5_1 < (ji10)) = true := decide_eq_true c11
      clear c11
      have H' := aZ_ H
      clear H
      have hnb12 := NB101_102.out
      have hnc12 := NB102_101.out
      have hcz13_0 : wr.cell? ⟨gb101,0,none⟩ = some (.int .i64 a0_0) := (blk_cell BK101.out 0).trans rfl
      have hcz13_1 : wr.cell? ⟨gb101,1,none⟩ = some (.int .i64 a0_1) := (blk_cell BK101.out 1).trans rfl
      have hfz13_0 := blk_frozen BK101.out 0
      have hfz13_1 := blk_frozen BK101.out 1
      go_wp2
      go_loopg [4,6] k1 (fun kq v4 v6 w' => ∃ (x4_2 : Int) (x6_2 : Int),v4 = .int .i64 x4_2 ∧ v6 = .int .i64 x6_2 ∧ Aside0 (spec_MonotoneHull.l1 kq x4_2 x5_1 x6_2 a0_0 a0_1 = some (r1,r2,r3)) ∧ Aside0 (kq ≤ k1) ∧ Aside0 (w'.heap[gb101]? = some (.cells #[.int .i64 a0_0,.int .i64 a0_1] 25 (0,0))) ∧ Aside0 (w'.heap[gb102]? = some (.cells #[.int .i64 0,.int .i64 0] 25 (0,0))) ∧ Aside0 (Below w.heap.size w w'))
      case atStart => exact ⟨(x4_1),(0),T6_,T6_,H',⟨Nat.le_refl _⟩,⟨by (with_reducible repeat (first | refine blk_drewN ?_ _ | refine blk_drew ?_ | refine blk_alloc ?_ _));exact BK101.out⟩,⟨by (with_reducible repeat (first | refine blk_drewN ?_ _ | refine blk_drew ?_ | refine blk_alloc ?_ _));exact BK102.out⟩,⟨by repeat (first | (with_reducible first | exact HB.out | apply below_alloc | apply pw_below_drewN | apply below_drew1 | refine below_set ?_ GE101.out | refine below_set ?_ GE102.out) | exact HB.out)⟩⟩
      case round =>
       clear H'
       try clear c1
       try clear p2
       try clear c3
       try clear c4
       try clear c5
       try clear c6
       try clear p6
       try clear c9
       try clear c9b0
       try clear c9b1
       try clear c11
       try clear c11b0
       try clear c12
       try clear hcz13_0
       try clear hcz13_1
       try clear hcz7_0
       try clear hcz7_1
       try clear hfz13_0
       try clear hfz13_1
       try clear hfz7_0
       try clear hfz7_1
       try clear p2
       obtain ⟨x4_2,x6_2,rfl,rfl,HA,HK2,BK101,BK102,HB⟩ := hrel
       cases gk with
       | zero => exact absurd HA.out (by simp [spec_MonotoneHull.l1])
       | succ k2 =>
        have H := HA.out
        clear HA
        simp only [spec_MonotoneHull.l1] at H
        by_cases c14 : x6_2 ≤ x5_1
        ·rw [if_pos c14] at H
         have c14b0 : decide (x6_2 ≤ x5_1) = true := decide_eq_true c14
         clear c14
         by_cases c15 : (Go.bits .and .i64 x6_2 x5_1) = x6_2
         ·rw [if_pos c15] at H
          have c15b0 : ((Go.bits .and .i64 x6_2 x5_1) == x6_2) = true := beq_iff_eq.mpr c15
          have c15b1 : ((Go.bits .and .i64 x6_2 x5_1) != x6_2) = false := bne_eq_false_iff_eq.mpr c15
          clear c15
          by_cases c16 : 0 ≤ x6_2
          ·rw [if_pos c16] at H
           have c16b0 := eq_true c16
           have c16b1 : decide (0 ≤ x6_2) = true := decide_eq_true c16
           clear c16
           obtain ⟨ji17,hji17⟩ : ∃ j_ : Int,(shr .i64 a0_1 x6_2) = j_ := ⟨_,rfl⟩
           replace H : (if (Go.bits .and .i64 (ji17) 1) = 1 then (if 0 ≤ x5_1 then (spec_MonotoneHull.l1 k2 (Go.bits .or .i64 x4_2 (shl .i64 1 x5_1)) x5_1 (wrap64 (x6_2 + 1)) a0_0 a0_1) else (none)) else (spec_MonotoneHull.l1 k2 x4_2 x5_1 (wrap64 (x6_2 + 1)) a0_0 a0_1)) = some (r1,r2,r3) := by first | (rw [hji17] at H;exact H) | (simp only [hji17] at H ⊢;exact H)
           have hji17_ : (a0_1 / 2 ^ min x6_2.toNat 64) = ji17 := hji17
           have hji17z : x6_2 ≤ 64 → (a0_1 / 2 ^ x6_2.toNat) = ji17 := shr_small hji17
           by_cases c18 : (Go.bits .and .i64 (ji17) 1) = 1
           ·rw [if_pos c18] at H
            have c18b0 : ((Go.bits .and .i64 (ji17) 1) == 1) = true := beq_iff_eq.mpr c18
            have c18b1 : ((Go.bits .and .i64 (ji17) 1) != 1) = false := bne_eq_false_iff_eq.mpr c18
            clear c18
            by_cases c19 : 0 ≤ x5_1
            ·rw [if_pos c19] at H
             have c19b0 := eq_true c19
             have c19b1 : decide (0 ≤ x5_1) = true := decide_eq_true c19
             clear c19
             obtain ⟨ji20,hji20⟩ : ∃ j_ : Int,(shl .i64 1 x5_1) = j_ := ⟨_,rfl⟩
             replace H : (spec_MonotoneHull.l1 k2 (Go.bits .or .i64 x4_2 (ji20)) x5_1 (wrap64 (x6_2 + 1)) a0_0 a0_1) = some (r1,r2,r3) := by first | (rw [hji20] at H;exact H) | (simp only [hji20] at H ⊢;exact H)
             have hji20_ : (IntKind.i64.wrap (1 * 2 ^ min x5_1.toNat 64)) = ji20 := hji20
             have hji20z : x5_1 ≤ 64 → (IntKind.i64.wrap (1 * 2 ^ x5_1.toNat)) = ji20 := shl_small hji20
             have hji20u : (IntKind.i64.wrap (2 ^ min x5_1.toNat 64)) = ji20 := by have h_ := hji20_;rw [Int.one_mul] at h_;exact h_
             have hji20v : x5_1 ≤ 64 → (IntKind.i64.wrap (2 ^ x5_1.toNat)) = ji20 := fun hle_ => by have h_ := hji20z hle_;rw [Int.one_mul] at h_;exact h_
             have hji20y : (wrap64 (1 * 2 ^ min x5_1.toNat 64)) = ji20 := (i64_w _).symm.trans hji20_
             have hji20x : x5_1 ≤ 64 → (wrap64 (1 * 2 ^ x5_1.toNat)) = ji20 := fun h_ => (i64_w _).symm.trans (hji20z h_)
             have H' := aZ_ H
             clear H
             have hnb21 := NB101_102.out
             have hnc21 := NB102_101.out
             have hcz22_0 : wr.cell? ⟨gb101,0,none⟩ = some (.int .i64 a0_0) := (blk_cell BK101.out 0).trans rfl
             have hcz22_1 : wr.cell? ⟨gb101,1,none⟩ = some (.int .i64 a0_1) := (blk_cell BK101.out 1).trans rfl
             have hfz22_0 := blk_frozen BK101.out 0
             have hfz22_1 := blk_frozen BK101.out 1
             go_wp2
             go_roundg k2
             case measure => have := HK1.out;have := HK2.out;omega
             case rel => exact ⟨(Go.bits .or .i64 x4_2 (ji20)),(wrap64 (x6_2 + 1)),(by first | rfl | (simp;done) | (simp only [← hji20] <;> (first | rfl | simp)) | (simp [*];done)),T6_,H',⟨by have := HK1.out;have := HK2.out;omega⟩,⟨by (with_reducible repeat (first | refine blk_drewN ?_ _ | refine blk_drew ?_ | refine blk_alloc ?_ _));exact BK101.out⟩,⟨by (with_reducible repeat (first | refine blk_drewN ?_ _ | refine blk_drew ?_ | refine blk_alloc ?_ _));exact BK102.out⟩,⟨by repeat (first | (with_reducible first | exact HB.out | apply below_alloc | apply pw_below_drewN | apply below_drew1 | refine below_set ?_ GE101.out | refine below_set ?_ GE102.out) | exact HB.out)⟩⟩
            ·rw [if_neg c19] at H
             exact absurd H T40_
           ·rw [if_neg c18] at H
            have c18b0 : ((Go.bits .and .i64 (ji17) 1) == 1) = false := beq_eq_false_iff_ne.mpr c18
            have c18b1 : ((Go.bits .and .i64 (ji17) 1) != 1) = true := bne_iff_ne.mpr c18
            have H' := aZ_ H
            clear H
            have hnb23 := NB101_102.out
            have hnc23 := NB102_101.out
            have hcz24_0 : wr.cell? ⟨gb101,0,none⟩ = some (.int .i64 a0_0) := (blk_cell BK101.out 0).trans rfl
            have hcz24_1 : wr.cell? ⟨gb101,1,none⟩ = some (.int .i64 a0_1) := (blk_cell BK101.out 1).trans rfl
            have hfz24_0 := blk_frozen BK101.out 0
            have hfz24_1 := blk_frozen BK101.out 1
            go_wp2
            go_roundg k2
            case measure => have := HK1.out;have := HK2.out;omega
            case rel => exact ⟨(x4_2),(wrap64 (x6_2 + 1)),T6_,T6_,H',⟨by have := HK1.out;have := HK2.out;omega⟩,⟨by (with_reducible repeat (first | refine blk_drewN ?_ _ | refine blk_drew ?_ | refine blk_alloc ?_ _));exact BK101.out⟩,⟨by (with_reducible repeat (first | refine blk_drewN ?_ _ | refine blk_drew ?_ | refine blk_alloc ?_ _));exact BK102.out⟩,⟨by repeat (first | (with_reducible first | exact HB.out | apply below_alloc | apply pw_below_drewN | apply below_drew1 | refine below_set ?_ GE101.out | refine below_set ?_ GE102.out) | exact HB.out)⟩⟩
          ·rw [if_neg c16] at H
           exact absurd H T40_
         ·rw [if_neg c15] at H
          have c15b0 : ((Go.bits .and .i64 x6_2 x5_1) == x6_2) = false := beq_eq_false_iff_ne.mpr c15
          have c15b1 : ((Go.bits .and .i64 x6_2 x5_1) != x6_2) = true := bne_iff_ne.mpr c15
          have H' := aZ_ H
          clear H
          go_wp2
          go_roundg k2
          case measure => have := HK1.out;have := HK2.out;omega
          case rel => exact ⟨(x4_2),(wrap64 (x6_2 + 1)),T6_,T6_,H',⟨by have := HK1.out;have := HK2.out;omega⟩,⟨by (with_reducible repeat (first | refine blk_drewN ?_ _ | refine blk_drew ?_ | refine blk_alloc ?_ _));exact BK101.out⟩,⟨by (with_reducible repeat (first | refine blk_drewN ?_ _ | refine blk_drew ?_ | refine blk_alloc ?_ _));exact BK102.out⟩,⟨by repeat (first | (with_reducible first | exact HB.out | apply below_alloc | apply pw_below_drewN | apply below_drew1 | refine below_set ?_ GE101.out | refine below_set ?_ GE102.out) | exact HB.out)⟩⟩
        ·rw [if_neg c14] at H
         have c14b0 : decide (x6_2 ≤ x5_1) = false := decide_eq_false c14
         clear c14
         have H' := aZ_ H
         clear H
         go_wp2
         go_roundg k2
         case measure => have := HK1.out;have := HK2.out;omega
         case rel => exact ⟨(x4_2),(wrap64 (x5_1 + 1)),T6_,T6_,H',⟨by have := HK1.out;have := HK2.out;omega⟩,⟨by (with_reducible repeat (first | refine blk_drewN ?_ _ | refine blk_drew ?_ | refine blk_alloc ?_ _));exact BK101.out⟩,⟨by (with_reducible repeat (first | refine blk_drewN ?_ _ | refine blk_drew ?_ | refine blk_alloc ?_ _));exact BK102.out⟩,⟨by repeat (first | (with_reducible first | exact HB.out | apply below_alloc | apply pw_below_drewN | apply below_drew1 | refine below_set ?_ GE101.out | refine below_set ?_ GE102.out) | exact HB.out)⟩⟩
     ·rw [if_neg c11] at H
      have c11b0 : decide (x5_1 < (ji10)) = false := decide_eq_false c11
      clear c11
      simp only [Option.some.injEq,Prod.mk.injEq] at H
      obtain ⟨rfl,rfl,rfl⟩ := H
      have hnb25 := NB101_102.out
      have hnc25 := NB102_101.out
      have hcz26_0 : wr.cell? ⟨gb101,0,none⟩ = some (.int .i64 a0_0) := (blk_cell BK101.out 0).trans rfl
      have hcz26_1 : wr.cell? ⟨gb101,1,none⟩ = some (.int .i64 a0_1) := (blk_cell BK101.out 1).trans rfl
      have hfz26_0 := blk_frozen BK101.out 0
      have hfz26_1 := blk_frozen BK101.out 1
      have hcz27_0 : wr.cell? ⟨gb102,0,none⟩ = some (.int .i64 0) := (blk_cell BK102.out 0).trans rfl
      have hcz27_1 : wr.cell? ⟨gb102,1,none⟩ = some (.int .i64 0) := (blk_cell BK102.out 1).trans rfl
      have hfz27_0 := blk_frozen BK102.out 0
      have hfz27_1 := blk_frozen BK102.out 1
      go_wp2
      refine bodyPost_ret (results_ct rfl _ _ gb102 25 #[.int .i64 a0_0,.int .i64 x4_1] (0,0) _ rfl T32_ Try.underlying25 rfl T12_) rfl ?_
      exact ⟨by first | rfl | (simp [errW_none,errW_some] <;> rfl) | (simp only [← hji10];first | rfl | (simp [errW_none,errW_some] <;> rfl)) | (simp [*,errW_none,errW_some] <;> rfl),by repeat (first | (with_reducible first | exact HB.out | apply below_alloc | apply pw_below_drewN | apply below_drew1 | refine below_set ?_ GE101.out | refine below_set ?_ GE102.out) | exact HB.out)⟩
    ·rw [if_neg c9] at H
     exact absurd H T40_
 ·replace c3 := Bool.eq_false_iff.mpr c3
  subst c3
  have H1 : (some (0,0,false)) = some (r1,r2,r3) := by rw [if_neg (show ¬ (false = true) by decide)] at H;exact H
  clear H
  have H := H1
  clear H1
  simp only [Option.some.injEq,Prod.mk.injEq] at H
  obtain ⟨rfl,rfl,rfl⟩ := H
  go_enter Try.func54,Try.ntmps54
  go_wp2_with (first | ((with_reducible refine gate_dst (N := 1) rfl ?_);refine box_event ?hg (N := 1) ?hd (cs := #[.int .i64 a0_0,.int .i64 a0_1]) (t := 25) ?hr ?_;(case hd => rfl);(case hg => rfl);(case hr => first | (go_simp;done) | (go_simp;rfl));intro gb101 hg w28 hbox hb;have n0_ := aZ_ (below_step T5_ hb);have n1_ := aZ_ (hbox);have n2_ := aZ_ ((T3_ : w.heap.size ≤ gb101));have n3_ := aZ_ ((T3_ : w.heap.size ≤ gb101));clear HB;have HB := n0_;have BK101 := n1_;have GW101 := n2_;have GE101 := n3_;clear n0_ n1_ n2_ n3_;clear hb hbox hg) | ((with_reducible refine gate_dst (N := 2) rfl ?_);refine box_event ?hg (N := 2) ?hd (cs := #[.int .i64 0,.int .i64 0]) (t := 25) ?hr ?_;(case hd => rfl);(case hg => rfl);(case hr => first | (go_simp;done) | (go_simp;rfl));intro gb102 hg w29 hbox hb;have n0_ := aZ_ (blk_below (g := gb101) (o := .cells #[.int .i64 a0_0,.int .i64 a0_1] 25 (0,0)) T2_ hb);have n1_ := aZ_ (below_step T1_ hb);have n2_ := aZ_ (hbox);have n3_ := aZ_ ((T22_ : w.heap.size ≤ gb102));have n4_ := aZ_ ((T22_ : w.heap.size ≤ gb102));have n5_ := aZ_ ((T27_ : gb101 ≠ gb102));have n6_ := aZ_ ((T28_ : gb102 ≠ gb101));clear BK101;clear HB;have BK101 := n0_;have HB := n1_;have BK102 := n2_;have GW102 := n3_;have GE102 := n4_;have NB101_102 := n5_;have NB102_101 := n6_;clear n0_ n1_ n2_ n3_ n4_ n5_ n6_;clear hb hbox hg;have hnb30 := NB101_102.out;have hnc30 := NB102_101.out;have hcz31_0 : w29.cell? ⟨gb101,0,none⟩ = some (.int .i64 a0_0) := (blk_cell BK101.out 0).trans rfl;have hcz31_1 : w29.cell? ⟨gb101,1,none⟩ = some (.int .i64 a0_1) := (blk_cell BK101.out 1).trans rfl;have hfz31_0 := blk_frozen BK101.out 0;have hfz31_1 := blk_frozen BK101.out 1) | ((with_reducible refine gate_callee (f := 42) rfl ?_);refine goesL_ (some 8) rfl rfl Try.func42 T12_ rfl #[.agg #[.int .i64 a0_0,.int .i64 a0_1]] rfl T4_ ?_;(with_reducible refine (spec_IsTable.calls a0_0 a0_1 false _ A2.out).mono ?_);rintro e w32 ⟨rfl,hb⟩;refine ⟨_,rfl,?_⟩;have n0_ := aZ_ (blk_below (g := gb101) (o := .cells #[.int .i64 a0_0,.int .i64 a0_1] 25 (0,0)) T2_ hb);have n1_ := aZ_ (blk_below (g := gb102) (o := .cells #[.int .i64 0,.int .i64 0] 25 (0,0)) T45_ hb);have n2_ := aZ_ (below_step T39_ hb);clear BK101;clear BK102;clear HB;have BK101 := n0_;have BK102 := n1_;have HB := n2_;clear n0_ n1_ n2_;(try clear hb);(try clear hb2);(try clear hk);(try clear hi);have hcz33_0 : w32.cell? ⟨gb102,0,none⟩ = some (.int .i64 0) := (blk_cell BK102.out 0).trans rfl;have hcz33_1 : w32.cell? ⟨gb102,1,none⟩ = some (.int .i64 0) := (blk_cell BK102.out 1).trans rfl;have hfz33_0 := blk_frozen BK102.out 0;have hfz33_1 := blk_frozen BK102.out 1))
  refine bodyPost_ret (results_ct rfl _ _ gb102 25 #[.int .i64 0,.int .i64 0] (0,0) _ rfl (by (with_reducible repeat (first | refine blk_drewN ?_ _ | refine blk_drew ?_ | refine blk_alloc ?_ _));refine blk_put (cs := #[.int .i64 0,.int .i64 0]) ?_ 1 _ rfl;(with_reducible repeat (first | refine blk_drewN ?_ _ | refine blk_drew ?_ | refine blk_alloc ?_ _));refine blk_put (cs := #[.int .i64 0,.int .i64 0]) ?_ 0 _ rfl;(with_reducible repeat (first | refine blk_drewN ?_ _ | refine blk_drew ?_ | refine blk_alloc ?_ _));exact BK102.out) Try.underlying25 rfl T12_) rfl ?_
  exact ⟨by first | rfl | (simp [errW_none,errW_some] <;> rfl) | (simp [*,errW_none,errW_some] <;> rfl),by repeat (first | (with_reducible first | exact HB.out | apply below_alloc | apply pw_below_drewN | apply below_drew1 | refine below_set ?_ GE101.out | refine below_set ?_ GE102.out) | exact HB.out)⟩
def spec_l17Draw.f (k : Nat) (s0_0 : List Int) (s0_1 : Int) (s0_2 : Int) : Option (Int × Int × Int × Int) := (spec_l1Once.f s0_0 s0_1 s0_2 5).bind fun bt102 => (if bt102.1 = true then ((spec_l2Any.f k s0_0 bt102.2.1 bt102.2.2).bind fun bt105 => (some (bt105.1,bt105.2.1,bt105.2.2.1,bt105.2.2.2))) else ((spec_l1Below.f s0_0 bt102.2.1 bt102.2.2 4).bind fun bt109 => ((spec_l2Draw.f k s0_0 bt109.2.1 bt109.2.2 (wrap64 (1 + bt109.1))).bind fun bt112 => (if 0 ≤ (wrap64 (1 + bt109.1)) then (if 0 ≤ (IntKind.u64.wrap ((shl .u64 1 (wrap64 (1 + bt109.1))) - 1)) then ((spec_MonotoneHull.f k (wrap64 (1 + bt109.1)) (Go.bits .or .i64 (wrap64 (bt112.2.1 - (Go.bits .and .i64 bt112.2.1 1))) (shl .i64 1 (IntKind.u64.wrap ((shl .u64 1 (wrap64 (1 + bt109.1))) - 1))))).bind fun bt116 => (some (bt116.1,bt116.2.1,bt112.2.2.1,bt112.2.2.2))) else (none)) else (none)))))
set_option maxHeartbeats 8000000 in
set_option maxRecDepth 100000 in
theorem spec_l17Draw.calls (k : Nat) (g : Nat) (s0_0 : List Int) (s0_1 : Int) (s0_2 : Int) (r1 : Int) (r2 : Int) (r3 : Int) (r4 : Int) (w0 w : World) (hI : IsS59 w0 w g s0_0 s0_1 s0_2) (hB : Below w0.heap.size w0 w) (h : spec_l17Draw.f k s0_0 s0_1 s0_2 = some (r1,r2,r3,r4)) :
  Calls Try.prog 27 #[.pointer (some ⟨g,0,none⟩)] w fun e w' => e = .returned (.agg #[.int .i64 r1,.int .i64 r2]) ∧ IsS59 w0 w' g s0_0 r3 r4 ∧ Below w0.heap.size w0 w' ∧ KeepBut w w' g none := by
 have hu25 := Try.underlying25
 have hfd25_1 : ∀ (x0_ x1_ : Int) (W : World),(Instr.field 25 (.agg #[.int .i64 x0_,.int .i64 x1_]) 1).run Try.prog W = .ok (.int .i64 x1_) W := fun _ _ _ => by kernel_rfl
 have HI0 := aZ_ hI
 have HK := aZ_ (KeepBut.refl w g none)
 have HL := aZ_ hB.size
 clear hI
 have HW0 := aZ_ hB.size
 have HB := aZ_ hB
 clear hB
 have H : ((spec_l1Once.f s0_0 s0_1 s0_2 5).bind fun bt102 => (if bt102.1 = true then ((spec_l2Any.f k s0_0 bt102.2.1 bt102.2.2).bind fun bt105 => (some (bt105.1,bt105.2.1,bt105.2.2.1,bt105.2.2.2))) else ((spec_l1Below.f s0_0 bt102.2.1 bt102.2.2 4).bind fun bt109 => ((spec_l2Draw.f k s0_0 bt109.2.1 bt109.2.2 (wrap64 (1 + bt109.1))).bind fun bt112 => (if 0 ≤ (wrap64 (1 + bt109.1)) then (if 0 ≤ (IntKind.u64.wrap ((shl .u64 1 (wrap64 (1 + bt109.1))) - 1)) then ((spec_MonotoneHull.f k (wrap64 (1 + bt109.1)) (Go.bits .or .i64 (wrap64 (bt112.2.1 - (Go.bits .and .i64 bt112.2.1 1))) (shl .i64 1 (IntKind.u64.wrap ((shl .u64 1 (wrap64 (1 + bt109.1))) - 1))))).bind fun bt116 => (some (bt116.1,bt116.2.1,bt112.2.2.1,bt112.2.2.2))) else (none)) else (none)))))) = some (r1,r2,r3,r4) := h
 clear h
 replace H := Option.bind_eq_some_iff.mp H
 obtain ⟨⟨t102,t103,t104⟩,A20,H⟩ := H
 replace H : (if t102 = true then ((spec_l2Any.f k s0_0 t103 t104).bind fun bt105 => (some (bt105.1,bt105.2.1,bt105.2.2.1,bt105.2.2.2))) else ((spec_l1Below.f s0_0 t103 t104 4).bind fun bt109 => ((spec_l2Draw.f k s0_0 bt109.2.1 bt109.2.2 (wrap64 (1 + bt109.1))).bind fun bt112 => (if 0 ≤ (wrap64 (1 + bt109.1)) then (if 0 ≤ (IntKind.u64.wrap ((shl .u64 1 (wrap64 (1 + bt109.1))) - 1)) then ((spec_MonotoneHull.f k (wrap64 (1 + bt109.1)) (Go.bits .or .i64 (wrap64 (bt112.2.1 - (Go.bits .and .i64 bt112.2.1 1))) (shl .i64 1 (IntKind.u64.wrap ((shl .u64 1 (wrap64 (1 + bt109.1))) - 1))))).bind fun bt116 => (some (bt116.1,bt116.2.1,bt112.2.2.1,bt112.2.2.2))) else (none)) else (none))))) = some (r1,r2,r3,r4) := H
 have A2 := aZ_ A20
 clear A20
 by_cases c3 : t102 = true
 ·subst c3
  have H1 : ((spec_l2Any.f k s0_0 t103 t104).bind fun bt105 => (some (bt105.1,bt105.2.1,bt105.2.2.1,bt105.2.2.2))) = some (r1,r2,r3,r4) := by rw [if_pos rfl] at H;exact H
  clear H
  have H := H1
  clear H1
  replace H := Option.bind_eq_some_iff.mp H
  obtain ⟨⟨t105,t106,t107,t108⟩,A40,H⟩ := H
  replace H : (some (t105,t106,t107,t108)) = some (r1,r2,r3,r4) := H
  have A4 := aZ_ A40
  clear A40
  simp only [Option.some.injEq,Prod.mk.injEq] at H
  obtain ⟨rfl,rfl,rfl,rfl⟩ := H
  go_enter Try.func27,Try.ntmps27
  go_wp2_with (first | ((with_reducible refine gate_dst (N := 2) rfl ?_);refine box_event ?hg (N := 2) ?hd (cs := #[.int .i64 0,.int .i64 0]) (t := 25) ?hr ?_;(case hd => rfl);(case hg => rfl);(case hr => first | (go_simp;done) | (go_simp;rfl));intro gb101 hg w5 hbox hb;have n0_ := aZ_ (IsS59.below T21_ hb);have n1_ := aZ_ (KeepBut.trans T16_ (KeepBut.of_below hb g none) (.inl rfl));have n2_ := aZ_ (below_step T20_ hb);have n3_ := aZ_ (hbox);have n4_ := aZ_ ((T8_ : w.heap.size ≤ gb101));have n5_ := aZ_ ((Nat.le_trans HW0.out (T8_ : w.heap.size ≤ gb101) : w0.heap.size ≤ gb101));have n6_ := aZ_ ((T14_ : g ≠ gb101));have n7_ := aZ_ ((T15_ : gb101 ≠ g));clear HI0;clear HK;clear HB;have HI0 := n0_;have HK := n1_;have HB := n2_;have BK101 := n3_;have GW101 := n4_;have GE101 := n5_;have NB0_101 := n6_;have NB101_0 := n7_;clear n0_ n1_ n2_ n3_ n4_ n5_ n6_ n7_;clear hb hbox hg) | ((with_reducible refine gate_callee (f := 51) rfl ?_);refine goesL_ (some 8) rfl rfl Try.func51 T12_ rfl #[.pointer (some ⟨g,0,none⟩),.int .i64 5] rfl T4_ ?_;(with_reducible refine (spec_l1Once.calls g s0_0 s0_1 s0_2 5 true t103 t104 w0 _ ?side1 ?side2 A2.out).mono ?_);(case side1 => repeat (first | (with_reducible first | exact HI0.out | apply IsS59.alloc | apply IsS59.drewN | apply IsS59.drew | apply IsS59.set_1 | apply IsS59.set_2 | refine IsS59.far ?_ NB0_101.out _) | exact HI0.out));(case side2 => repeat (first | (with_reducible first | exact HB.out | apply below_alloc | apply pw_below_drewN | apply below_drew1 | refine below_set ?_ (IsS59.ge HI0.out) | refine below_set ?_ GE101.out) | exact HB.out));rintro e w6 ⟨rfl,hi,hb,hk⟩;refine ⟨_,rfl,?_⟩;have n0_ := aZ_ (KeepBut.blk hk (g' := gb101) (o := .cells #[.int .i64 0,.int .i64 0] 25 (0,0)) T2_ NB101_0.out T40_);have n1_ := aZ_ (KeepBut.trans T7_ hk (.inl rfl));have n2_ := aZ_ (hb);have n3_ := aZ_ (hi);clear BK101;clear HK;clear HB;clear HI0;have BK101 := n0_;have HK := n1_;have HB := n2_;have HI0 := n3_;clear n0_ n1_ n2_ n3_;(try clear hb);(try clear hb2);(try clear hk);(try clear hi)) | ((with_reducible refine gate_callee (f := 52) rfl ?_);refine goesL_ (some 10) rfl rfl Try.func52 T12_ rfl #[.pointer (some ⟨g,0,none⟩)] rfl T4_ ?_;(with_reducible refine (spec_l2Any.calls k g s0_0 t103 t104 t105 t106 t107 t108 w0 _ ?side1 ?side2 A4.out).mono ?_);(case side1 => repeat (first | (with_reducible first | exact HI0.out | apply IsS59.alloc | apply IsS59.drewN | apply IsS59.drew | apply IsS59.set_1 | apply IsS59.set_2 | refine IsS59.far ?_ NB0_101.out _) | exact HI0.out));(case side2 => repeat (first | (with_reducible first | exact HB.out | apply below_alloc | apply pw_below_drewN | apply below_drew1 | refine below_set ?_ (IsS59.ge HI0.out) | refine below_set ?_ GE101.out) | exact HB.out));rintro e w7 ⟨rfl,hi,hb,hk⟩;refine ⟨_,rfl,?_⟩;have n0_ := aZ_ (KeepBut.blk hk (g' := gb101) (o := .cells #[.int .i64 0,.int .i64 0] 25 (0,0)) T2_ NB101_0.out T40_);have n1_ := aZ_ (KeepBut.trans T7_ hk (.inl rfl));have n2_ := aZ_ (hb);have n3_ := aZ_ (hi);clear BK101;clear HK;clear HB;clear HI0;have BK101 := n0_;have HK := n1_;have HB := n2_;have HI0 := n3_;clear n0_ n1_ n2_ n3_;(try clear hb);(try clear hb2);(try clear hk);(try clear hi);have hnb8 := NB101_0.out;have hnc8 := NB0_101.out;have hcz9_0 : w7.cell? ⟨gb101,0,none⟩ = some (.int .i64 0) := (blk_cell BK101.out 0).trans rfl;have hcz9_1 : w7.cell? ⟨gb101,1,none⟩ = some (.int .i64 0) := (blk_cell BK101.out 1).trans rfl;have hfz9_0 := blk_frozen BK101.out 0;have hfz9_1 := blk_frozen BK101.out 1))
  refine bodyPost_ret (results_cell_row rfl _ _ gb101 25 #[.int .i64 t105,.int .i64 t106] (0,0) _ rfl T31_ Try.underlying25 rfl T12_) rfl ?_
  exact ⟨by first | rfl | (simp [errW_none,errW_some] <;> rfl) | (simp [*,errW_none,errW_some] <;> rfl),by repeat (first | (with_reducible first | exact HI0.out | apply IsS59.alloc | apply IsS59.drewN | apply IsS59.drew | apply IsS59.set_1 | apply IsS59.set_2 | refine IsS59.far ?_ NB0_101.out _) | exact HI0.out),by repeat (first | (with_reducible first | exact HB.out | apply below_alloc | apply pw_below_drewN | apply below_drew1 | refine below_set ?_ (IsS59.ge HI0.out) | refine below_set ?_ GE101.out) | exact HB.out),by repeat (first | (with_reducible first | exact HK.out | apply KeepBut.set_ | apply keep_drewN | apply keep_drew | apply keep_alloc | refine keep_far ?_ GW101.out _) | exact HK.out)⟩
 ·replace c3 := Bool.eq_false_iff.mpr c3
  subst c3
  have H1 : ((spec_l1Below.f s0_0 t103 t104 4).bind fun bt109 => ((spec_l2Draw.f k s0_0 bt109.2.1 bt109.2.2 (wrap64 (1 + bt109.1))).bind fun bt112 => (if 0 ≤ (wrap64 (1 + bt109.1)) then (if 0 ≤ (IntKind.u64.wrap ((shl .u64 1 (wrap64 (1 + bt109.1))) - 1)) then ((spec_MonotoneHull.f k (wrap64 (1 + bt109.1)) (Go.bits .or .i64 (wrap64 (bt112.2.1 - (Go.bits .and .i64 bt112.2.1 1))) (shl .i64 1 (IntKind.u64.wrap ((shl .u64 1 (wrap64 (1 + bt109.1))) - 1))))).bind fun bt116 => (some (bt116.1,bt116.2.1,bt112.2.2.1,bt112.2.2.2))) else (none)) else (none)))) = some (r1,r2,r3,r4) := by rw [if_neg (show ¬ (false = true) by decide)] at H;exact H
  clear H
  have H := H1
  clear H1
  replace H := Option.bind_eq_some_iff.mp H
  obtain ⟨⟨t109,t110,t111⟩,A100,H⟩ := H
  replace H : ((spec_l2Draw.f k s0_0 t110 t111 (wrap64 (1 + t109))).bind fun bt112 => (if 0 ≤ (wrap64 (1 + t109)) then (if 0 ≤ (IntKind.u64.wrap ((shl .u64 1 (wrap64 (1 + t109))) - 1)) then ((spec_MonotoneHull.f k (wrap64 (1 + t109)) (Go.bits .or .i64 (wrap64 (bt112.2.1 - (Go.bits .and .i64 bt112.2.1 1))) (shl .i64 1 (IntKind.u64.wrap ((shl .u64 1 (wrap64 (1 + t109))) - 1))))).bind fun bt116 => (some (bt116.1,bt116.2.1,bt112.2.2.1,bt112.2.2.2))) else (none)) else (none))) = some (r1,r2,r3,r4) := H
  have A10 := aZ_ A100
  clear A100
  replace H := Option.bind_eq_some_iff.mp H
  obtain ⟨⟨t112,t113,t114,t115⟩,A110,H⟩ := H
  replace H : (if 0 ≤ (wrap64 (1 + t109)) then (if 0 ≤ (IntKind.u64.wrap ((shl .u64 1 (wrap64 (1 + t109))) - 1)) then ((spec_MonotoneHull.f k (wrap64 (1 + t109)) (Go.bits .or .i64 (wrap64 (t113 - (Go.bits .and .i64 t113 1))) (shl .i64 1 (IntKind.u64.wrap ((shl .u64 1 (wrap64 (1 + t109))) - 1))))).bind fun bt116 => (some (bt116.1,bt116.2.1,t114,t115))) else (none)) else (none)) = some (r1,r2,r3,r4) := H
  have A11 := aZ_ A110
  clear A110
  obtain ⟨ji12,hji12⟩ : ∃ j_ : Int,(wrap64 (1 + t109)) = j_ := ⟨_,rfl⟩
  replace H : (if 0 ≤ (ji12) then (if 0 ≤ (IntKind.u64.wrap ((shl .u64 1 (ji12)) - 1)) then ((spec_MonotoneHull.f k (ji12) (Go.bits .or .i64 (wrap64 (t113 - (Go.bits .and .i64 t113 1))) (shl .i64 1 (IntKind.u64.wrap ((shl .u64 1 (ji12)) - 1))))).bind fun bt116 => (some (bt116.1,bt116.2.1,t114,t115))) else (none)) else (none)) = some (r1,r2,r3,r4) := by first | (rw [hji12] at H;exact H) | (simp only [hji12] at H ⊢;exact H)
  (try rw [hji12] at A2)
  (try rw [hji12] at A10)
  (try rw [hji12] at A11)
  have hji12w : (IntKind.i64.wrap (1 + t109)) = ji12 := (i64_w _).trans hji12
  by_cases c13 : 0 ≤ (ji12)
  ·rw [if_pos c13] at H
   have c13b0 := eq_true c13
   have c13b1 : decide (0 ≤ (ji12)) = true := decide_eq_true c13
   clear c13
   obtain ⟨ji14,hji14⟩ : ∃ j_ : Int,(shl .u64 1 (ji12)) = j_ := ⟨_,rfl⟩
   replace H : (if 0 ≤ (IntKind.u64.wrap ((ji14) - 1)) then ((spec_MonotoneHull.f k (ji12) (Go.bits .or .i64 (wrap64 (t113 - (Go.bits .and .i64 t113 1))) (shl .i64 1 (IntKind.u64.wrap ((ji14) - 1))))).bind fun bt116 => (some (bt116.1,bt116.2.1,t114,t115))) else (none)) = some (r1,r2,r3,r4) := by first | (rw [hji14] at H;exact H) | (simp only [hji14] at H ⊢;exact H)
   (try rw [hji14] at A2)
   (try rw [hji14] at A10)
   (try rw [hji14] at A11)
   have hji14_ : (IntKind.u64.wrap (1 * 2 ^ min (ji12).toNat 64)) = ji14 := hji14
   have hji14z : (ji12) ≤ 64 → (IntKind.u64.wrap (1 * 2 ^ (ji12).toNat)) = ji14 := shl_small hji14
   have hji14u : (IntKind.u64.wrap (2 ^ min (ji12).toNat 64)) = ji14 := by have h_ := hji14_;rw [Int.one_mul] at h_;exact h_
   have hji14v : (ji12) ≤ 64 → (IntKind.u64.wrap (2 ^ (ji12).toNat)) = ji14 := fun hle_ => by have h_ := hji14z hle_;rw [Int.one_mul] at h_;exact h_
   obtain ⟨ji15,hji15⟩ : ∃ j_ : Int,(IntKind.u64.wrap ((ji14) - 1)) = j_ := ⟨_,rfl⟩
   replace H : (if 0 ≤ (ji15) then ((spec_MonotoneHull.f k (ji12) (Go.bits .or .i64 (wrap64 (t113 - (Go.bits .and .i64 t113 1))) (shl .i64 1 (ji15)))).bind fun bt116 => (some (bt116.1,bt116.2.1,t114,t115))) else (none)) = some (r1,r2,r3,r4) := by first | (rw [hji15] at H;exact H) | (simp only [hji15] at H ⊢;exact H)
   (try rw [hji15] at A2)
   (try rw [hji15] at A10)
   (try rw [hji15] at A11)
   by_cases c16 : 0 ≤ (ji15)
   ·rw [if_pos c16] at H
    have c16b0 := eq_true c16
    have c16b1 : decide (0 ≤ (ji15)) = true := decide_eq_true c16
    clear c16
    obtain ⟨ji17,hji17⟩ : ∃ j_ : Int,(shl .i64 1 (ji15)) = j_ := ⟨_,rfl⟩
    replace H : ((spec_MonotoneHull.f k (ji12) (Go.bits .or .i64 (wrap64 (t113 - (Go.bits .and .i64 t113 1))) (ji17))).bind fun bt116 => (some (bt116.1,bt116.2.1,t114,t115))) = some (r1,r2,r3,r4) := by first | (rw [hji17] at H;exact H) | (simp only [hji17] at H ⊢;exact H)
    (try rw [hji17] at A2)
    (try rw [hji17] at A10)
    (try rw [hji17] at A11)
    have hji17_ : (IntKind.i64.wrap (1 * 2 ^ min (ji15).toNat 64)) = ji17 := hji17
    have hji17z : (ji15) ≤ 64 → (IntKind.i64.wrap (1 * 2 ^ (ji15).toNat)) = ji17 := shl_small hji17
    have hji17u : (IntKind.i64.wrap (2 ^ min (ji15).toNat 64)) = ji17 := by have h_ := hji17_;rw [Int.one_mul] at h_;exact h_
    have hji17v : (ji15) ≤ 64 → (IntKind.i64.wrap (2 ^ (ji15).toNat)) = ji17 := fun hle_ => by have h_ := hji17z hle_;rw [Int.one_mul] at h_;exact h_
    have hji17y : (wrap64 (1 * 2 ^ min (ji15).toNat 64)) = ji17 := (i64_w _).symm.trans hji17_
    have hji17x : (ji15) ≤ 64 → (wrap64 (1 * 2 ^ (ji15).toNat)) = ji17 := fun h_ => (i64_w _).symm.trans (hji17z h_)
    replace H := Option.bind_eq_some_iff.mp H
    obtain ⟨⟨t116,t117,t118⟩,A180,H⟩ := H
    replace H : (some (t116,t117,t114,t115)) = some (r1,r2,r3,r4) := H
    have A18 := aZ_ A180
    clear A180
    simp only [Option.some.injEq,Prod.mk.injEq] at H
    obtain ⟨rfl,rfl,rfl,rfl⟩ := H
    go_enter Try.func27,Try.ntmps27
    go_wp2_with (first | ((with_reducible refine gate_dst (N := 2) rfl ?_);refine box_event ?hg (N := 2) ?hd (cs := #[.int .i64 0,.int .i64 0]) (t := 25) ?hr ?_;(case hd => rfl);(case hg => rfl);(case hr => first | (go_simp;done) | (go_simp;rfl));intro gb101 hg w19 hbox hb;have n0_ := aZ_ (IsS59.below T21_ hb);have n1_ := aZ_ (KeepBut.trans T16_ (KeepBut.of_below hb g none) (.inl rfl));have n2_ := aZ_ (below_step T20_ hb);have n3_ := aZ_ (hbox);have n4_ := aZ_ ((T8_ : w.heap.size ≤ gb101));have n5_ := aZ_ ((Nat.le_trans HW0.out (T8_ : w.heap.size ≤ gb101) : w0.heap.size ≤ gb101));have n6_ := aZ_ ((T14_ : g ≠ gb101));have n7_ := aZ_ ((T15_ : gb101 ≠ g));clear HI0;clear HK;clear HB;have HI0 := n0_;have HK := n1_;have HB := n2_;have BK101 := n3_;have GW101 := n4_;have GE101 := n5_;have NB0_101 := n6_;have NB101_0 := n7_;clear n0_ n1_ n2_ n3_ n4_ n5_ n6_ n7_;clear hb hbox hg) | ((with_reducible refine gate_callee (f := 51) rfl ?_);refine goesL_ (some 8) rfl rfl Try.func51 T12_ rfl #[.pointer (some ⟨g,0,none⟩),.int .i64 5] rfl T4_ ?_;(with_reducible refine (spec_l1Once.calls g s0_0 s0_1 s0_2 5 false t103 t104 w0 _ ?side1 ?side2 A2.out).mono ?_);(case side1 => repeat (first | (with_reducible first | exact HI0.out | apply IsS59.alloc | apply IsS59.drewN | apply IsS59.drew | apply IsS59.set_1 | apply IsS59.set_2 | refine IsS59.far ?_ NB0_101.out _) | exact HI0.out));(case side2 => repeat (first | (with_reducible first | exact HB.out | apply below_alloc | apply pw_below_drewN | apply below_drew1 | refine below_set ?_ (IsS59.ge HI0.out) | refine below_set ?_ GE101.out) | exact HB.out));rintro e w20 ⟨rfl,hi,hb,hk⟩;refine ⟨_,rfl,?_⟩;have n0_ := aZ_ (KeepBut.blk hk (g' := gb101) (o := .cells #[.int .i64 0,.int .i64 0] 25 (0,0)) T2_ NB101_0.out T40_);have n1_ := aZ_ (KeepBut.trans T7_ hk (.inl rfl));have n2_ := aZ_ (hb);have n3_ := aZ_ (hi);clear BK101;clear HK;clear HB;clear HI0;have BK101 := n0_;have HK := n1_;have HB := n2_;have HI0 := n3_;clear n0_ n1_ n2_ n3_;(try clear hb);(try clear hb2);(try clear hk);(try clear hi)) | ((with_reducible refine gate_callee (f := 49) rfl ?_);refine goesL_ (some 12) rfl rfl Try.func49 T12_ rfl #[.pointer (some ⟨g,0,none⟩),.int .i64 4] rfl T4_ ?_;(with_reducible refine (spec_l1Below.calls g s0_0 t103 t104 4 t109 t110 t111 w0 _ ?side1 ?side2 A10.out).mono ?_);(case side1 => repeat (first | (with_reducible first | exact HI0.out | apply IsS59.alloc | apply IsS59.drewN | apply IsS59.drew | apply IsS59.set_1 | apply IsS59.set_2 | refine IsS59.far ?_ NB0_101.out _) | exact HI0.out));(case side2 => repeat (first | (with_reducible first | exact HB.out | apply below_alloc | apply pw_below_drewN | apply below_drew1 | refine below_set ?_ (IsS59.ge HI0.out) | refine below_set ?_ GE101.out) | exact HB.out));rintro e w21 ⟨rfl,hi,hb,hk⟩;refine ⟨_,rfl,?_⟩;have n0_ := aZ_ (KeepBut.blk hk (g' := gb101) (o := .cells #[.int .i64 0,.int .i64 0] 25 (0,0)) T2_ NB101_0.out T40_);have n1_ := aZ_ (KeepBut.trans T7_ hk (.inl rfl));have n2_ := aZ_ (hb);have n3_ := aZ_ (hi);clear BK101;clear HK;clear HB;clear HI0;have BK101 := n0_;have HK := n1_;have HB := n2_;have HI0 := n3_;clear n0_ n1_ n2_ n3_;(try clear hb);(try clear hb2);(try clear hk);(try clear hi)) | ((with_reducible refine gate_callee (f := 53) rfl ?_);refine goesL_ (some 16) rfl rfl Try.func53 T12_ rfl #[.pointer (some ⟨g,0,none⟩),.int .i64 ji12] rfl (by (try simp only [List.map_toArray,List.map_cons,List.map_nil]);first | done | (simp only [hji12];rfl) | rfl | (simp only [List.length_drop,List.length_take];rfl)) ?_;(with_reducible refine (spec_l2Draw.calls k g s0_0 t110 t111 ji12 t112 t113 t114 t115 w0 _ ?side1 ?side2 A11.out).mono ?_);(case side1 => repeat (first | (with_reducible first | exact HI0.out | apply IsS59.alloc | apply IsS59.drewN | apply IsS59.drew | apply IsS59.set_1 | apply IsS59.set_2 | refine IsS59.far ?_ NB0_101.out _) | exact HI0.out));(case side2 => repeat (first | (with_reducible first | exact HB.out | apply below_alloc | apply pw_below_drewN | apply below_drew1 | refine below_set ?_ (IsS59.ge HI0.out) | refine below_set ?_ GE101.out) | exact HB.out));rintro e w22 ⟨rfl,hi,hb,hk⟩;refine ⟨_,rfl,?_⟩;have n0_ := aZ_ (KeepBut.blk hk (g' := gb101) (o := .cells #[.int .i64 0,.int .i64 0] 25 (0,0)) T2_ NB101_0.out T40_);have n1_ := aZ_ (KeepBut.trans T7_ hk (.inl rfl));have n2_ := aZ_ (hb);have n3_ := aZ_ (hi);clear BK101;clear HK;clear HB;clear HI0;have BK101 := n0_;have HK := n1_;have HB := n2_;have HI0 := n3_;clear n0_ n1_ n2_ n3_;(try clear hb);(try clear hb2);(try clear hk);(try clear hi)) | ((with_reducible refine gate_callee (f := 54) rfl ?_);refine goesL_ (some 30) rfl rfl Try.func54 T12_ rfl #[.agg #[.int .i64 ji12,.int .i64 (Go.bits .or .i64 (wrap64 (t113 - (Go.bits .and .i64 t113 1))) (ji17))]] rfl (by (try simp only [List.map_toArray,List.map_cons,List.map_nil]);first | done | (simp only [hji12,hji17];rfl) | rfl | (simp only [List.length_drop,List.length_take];rfl)) ?_;(with_reducible refine (spec_MonotoneHull.calls k ji12 (Go.bits .or .i64 (wrap64 (t113 - (Go.bits .and .i64 t113 1))) (ji17)) t116 t117 t118 _ A18.out).mono ?_);rintro e w23 ⟨rfl,hb⟩;refine ⟨_,rfl,?_⟩;have n0_ := aZ_ (IsS59.below T10_ hb);have n1_ := aZ_ (blk_below (g := gb101) (o := .cells #[.int .i64 0,.int .i64 0] 25 (0,0)) T2_ hb);have n2_ := aZ_ (KeepBut.trans T7_ (KeepBut.of_below hb g none) (.inl rfl));have n3_ := aZ_ (below_step T11_ hb);clear HI0;clear BK101;clear HK;clear HB;have HI0 := n0_;have BK101 := n1_;have HK := n2_;have HB := n3_;clear n0_ n1_ n2_ n3_;(try clear hb);(try clear hb2);(try clear hk);(try clear hi)) | ((with_reducible refine gate_dst (N := 5) rfl ?_);refine box_event ?hg (N := 5) ?hd (cs := #[.int .i64 0,.int .i64 0]) (t := 25) ?hr ?_;(case hd => rfl);(case hg => rfl);(case hr => first | (go_simp;done) | (go_simp;rfl));intro gb119 hg w24 hbox hb;have n0_ := aZ_ (IsS59.below T10_ hb);have n1_ := aZ_ (blk_below (g := gb101) (o := .cells #[.int .i64 0,.int .i64 0] 25 (0,0)) T2_ hb);have n2_ := aZ_ (KeepBut.trans T7_ (KeepBut.of_below hb g none) (.inl rfl));have n3_ := aZ_ (below_step T11_ hb);have n4_ := aZ_ (hbox);have n5_ := aZ_ ((T18_ : w.heap.size ≤ gb119));have n6_ := aZ_ ((Nat.le_trans HW0.out (T18_ : w.heap.size ≤ gb119) : w0.heap.size ≤ gb119));have n7_ := aZ_ ((T29_ : gb101 ≠ gb119));have n8_ := aZ_ ((T30_ : gb119 ≠ gb101));have n9_ := aZ_ ((by rw [hg];exact Nat.ne_of_lt (IsS59.lt (show IsS59 w0 _ g s0_0 t114 t115 from by repeat (first | (with_reducible first | exact HI0.out | apply IsS59.alloc | apply IsS59.drewN | apply IsS59.drew | apply IsS59.set_1 | apply IsS59.set_2 | refine IsS59.far ?_ NB0_101.out _) | exact HI0.out))) : g ≠ gb119));have n10_ := aZ_ ((by rw [hg];exact Nat.ne_of_gt (IsS59.lt (show IsS59 w0 _ g s0_0 t114 t115 from by repeat (first | (with_reducible first | exact HI0.out | apply IsS59.alloc | apply IsS59.drewN | apply IsS59.drew | apply IsS59.set_1 | apply IsS59.set_2 | refine IsS59.far ?_ NB0_101.out _) | exact HI0.out))) : gb119 ≠ g));clear HI0;clear BK101;clear HK;clear HB;have HI0 := n0_;have BK101 := n1_;have HK := n2_;have HB := n3_;have BK119 := n4_;have GW119 := n5_;have GE119 := n6_;have NB101_119 := n7_;have NB119_101 := n8_;have NB0_119 := n9_;have NB119_0 := n10_;clear n0_ n1_ n2_ n3_ n4_ n5_ n6_ n7_ n8_ n9_ n10_;clear hb hbox hg;have hnb25 := NB119_101.out;have hnc25 := NB101_119.out;have hnb26 := NB119_0.out;have hnc26 := NB0_119.out;have hcz27_0 : w24.cell? ⟨gb119,0,none⟩ = some (.int .i64 0) := (blk_cell BK119.out 0).trans rfl;have hcz27_1 : w24.cell? ⟨gb119,1,none⟩ = some (.int .i64 0) := (blk_cell BK119.out 1).trans rfl;have hfz27_0 := blk_frozen BK119.out 0;have hfz27_1 := blk_frozen BK119.out 1;have hnb28 := NB101_0.out;have hnc28 := NB0_101.out;have hcz29_0 : w24.cell? ⟨gb101,0,none⟩ = some (.int .i64 0) := (blk_cell BK101.out 0).trans rfl;have hcz29_1 : w24.cell? ⟨gb101,1,none⟩ = some (.int .i64 0) := (blk_cell BK101.out 1).trans rfl;have hfz29_0 := blk_frozen BK101.out 0;have hfz29_1 := blk_frozen BK101.out 1))
    refine bodyPost_ret (results_cell_row rfl _ _ gb101 25 #[.int .i64 t116,.int .i64 t117] (0,0) _ rfl (by (with_reducible repeat (first | refine blk_drewN ?_ _ | refine blk_drew ?_ | refine blk_alloc ?_ _));refine blk_put (cs := #[.int .i64 t116,.int .i64 0]) ?_ 1 _ rfl;(with_reducible repeat (first | refine blk_drewN ?_ _ | refine blk_drew ?_ | refine blk_alloc ?_ _));refine blk_put (cs := #[.int .i64 0,.int .i64 0]) ?_ 0 _ rfl;(with_reducible repeat (first | refine blk_drewN ?_ _ | refine blk_drew ?_ | refine blk_alloc ?_ _));refine blk_far ?_ NB101_119.out _;(with_reducible repeat (first | refine blk_drewN ?_ _ | refine blk_drew ?_ | refine blk_alloc ?_ _));refine blk_far ?_ NB101_119.out _;(with_reducible repeat (first | refine blk_drewN ?_ _ | refine blk_drew ?_ | refine blk_alloc ?_ _));exact BK101.out) Try.underlying25 rfl T12_) rfl ?_
    exact ⟨by first | rfl | (simp [errW_none,errW_some] <;> rfl) | (simp only [← hji12,← hji14,← hji15,← hji17];first | rfl | (simp [errW_none,errW_some] <;> rfl)) | (simp [*,errW_none,errW_some] <;> rfl),by repeat (first | (with_reducible first | exact HI0.out | apply IsS59.alloc | apply IsS59.drewN | apply IsS59.drew | apply IsS59.set_1 | apply IsS59.set_2 | refine IsS59.far ?_ NB0_101.out _ | refine IsS59.far ?_ NB0_119.out _) | exact HI0.out),by repeat (first | (with_reducible first | exact HB.out | apply below_alloc | apply pw_below_drewN | apply below_drew1 | refine below_set ?_ (IsS59.ge HI0.out) | refine below_set ?_ GE101.out | refine below_set ?_ GE119.out) | exact HB.out),by repeat (first | (with_reducible first | exact HK.out | apply KeepBut.set_ | apply keep_drewN | apply keep_drew | apply keep_alloc | refine keep_far ?_ GW101.out _ | refine keep_far ?_ GW119.out _) | exact HK.out)⟩
   ·rw [if_neg c16] at H
    exact absurd H T40_
  ·rw [if_neg c13] at H
   exact absurd H T40_
def spec_l1New.l0 : Nat → List Int → Int → Int → Option (List Int × Int × Int)
 | 0,_,_,_ => none
 | k + 1,x0,x3,x4 => if x4 < (x0.length : Int) then (if x4 < 4000 then (if 0 ≤ x4 then (spec_l1New.l0 k x0 (Go.bits .and .i64 (wrap64 ((wrap64 ((wrap64 (x3 * 131)) + (wrap64 (rd x0 x4)))) + 7)) 1073741823) (wrap64 (x4 + 1))) else (none)) else (some (x0,0,x3))) else (some (x0,0,x3))
def spec_l1New.f (k : Nat) (l0 : List Int) : Option (List Int × Int × Int) := spec_l1New.l0 k l0 (wrap64 (10101 + (l0.length : Int))) 0
set_option maxHeartbeats 8000000 in
set_option maxRecDepth 100000 in
theorem spec_l1New.calls (k : Nat) (A0 : Option Addr) (c0 : Nat) (l0 : List Int) (r1 : List Int) (r2 : Int) (r3 : Int) (w0 w : World) (hB : Below w0.heap.size w0 w) (hr0 : Kd.C (Kd.int .u8) w0 A0 l0.length l0) (hc0 : l0.length ≤ c0) (h : spec_l1New.f k l0 = some (r1,r2,r3)) :
  Calls Try.prog 28 #[.slice A0 l0.length c0] w fun e w' => ∃ g_ : Nat,e = .returned (.pointer (some ⟨g_,0,none⟩)) ∧ IsS59 w0 w' g_ r1 r2 r3 ∧ Below w0.heap.size w0 w' ∧ Below w.heap.size w w' := by
 have hu59 := Try.underlying59
 have HR0 := aZ_ hr0
 have HC0 := aZ_ hc0
 clear hr0 hc0
 have HBW := aZ_ (Below.refl w.heap.size w)
 have HW0 := aZ_ hB.size
 have HB := aZ_ hB
 clear hB
 have H : (spec_l1New.l0 k l0 (wrap64 (10101 + (l0.length : Int))) 0) = some (r1,r2,r3) := h
 clear h
 have H' := aZ_ H
 clear H
 go_enter Try.func28,Try.ntmps28
 go_wp2
 go_loopg [3,4] k (fun kq v3 v4 w' => ∃ (x3_1 : Int) (x4_1 : Int),v3 = .int .i64 x3_1 ∧ v4 = .int .i64 x4_1 ∧ Aside0 (spec_l1New.l0 kq l0 x3_1 x4_1 = some (r1,r2,r3)) ∧ Aside0 (kq ≤ k) ∧ Aside0 (Below w0.heap.size w0 w') ∧ Aside0 (Below w.heap.size w w'))
 case atStart => exact ⟨(wrap64 (10101 + (l0.length : Int))),(0),T6_,T6_,H',⟨Nat.le_refl _⟩,⟨by repeat (first | (with_reducible first | exact HB.out | apply below_alloc | apply pw_below_drewN | apply below_drew1) | exact HB.out)⟩,HBW⟩
 case round =>
  clear H'
  obtain ⟨x3_1,x4_1,rfl,rfl,HA,HK1,HB,HBW⟩ := hrel
  cases gk with
  | zero => exact absurd HA.out (by simp [spec_l1New.l0])
  | succ k1 =>
   have H := HA.out
   clear HA
   simp only [spec_l1New.l0] at H
   by_cases c2 : x4_1 < (l0.length : Int)
   ·rw [if_pos c2] at H
    have c2b0 : decide (x4_1 < (l0.length : Int)) = true := decide_eq_true c2
    clear c2
    by_cases c3 : x4_1 < 4000
    ·rw [if_pos c3] at H
     have c3b0 : decide (x4_1 < 4000) = true := decide_eq_true c3
     clear c3
     by_cases c4 : 0 ≤ x4_1
     ·rw [if_pos c4] at H
      have c4b0 : decide (0 ≤ x4_1) = true := decide_eq_true c4
      clear c4
      have H' := aZ_ H
      clear H
      have p101 : 0 ≤ (x4_1 : Int) := of_decide_eq_true T13_
      have q101 : x4_1 < (l0.length : Int) := of_decide_eq_true T13_
      obtain ⟨ad101,e101,hx101_0⟩ := Kd.at_int HR0.out x4_1 p101 q101
      cases e101
      replace hx101_0 := pw_cell_below HB.out hx101_0
      replace p101 := eq_true p101
      replace q101 := eq_true q101
      go_wp2
      go_roundg k1
      case measure => have := HK1.out;omega
      case rel => exact ⟨(Go.bits .and .i64 (wrap64 ((wrap64 ((wrap64 (x3_1 * 131)) + (wrap64 (rd l0 x4_1)))) + 7)) 1073741823),(wrap64 (x4_1 + 1)),T6_,T6_,H',⟨by have := HK1.out;omega⟩,⟨by repeat (first | (with_reducible first | exact HB.out | apply below_alloc | apply pw_below_drewN | apply below_drew1) | exact HB.out)⟩,HBW⟩
     ·rw [if_neg c4] at H
      exact absurd H T40_
    ·rw [if_neg c3] at H
     have c3b0 : decide (x4_1 < 4000) = false := decide_eq_false c3
     clear c3
     simp only [Option.some.injEq,Prod.mk.injEq] at H
     obtain ⟨rfl,rfl,rfl⟩ := H
     go_wp2_with (first | ((with_reducible refine gate_dst (N := 31) rfl ?_);refine box_event ?hg (N := 31) ?hd (cs := #[.slice A0 l0.length c0,.int .i64 0,.int .i64 x3_1]) (t := 59) ?hr ?_;(case hd => rfl);(case hg => rfl);(case hr => first | (go_simp;done) | (go_simp;rfl));intro gb102 hg w5 hbox hb;have n0_ := aZ_ (below_step HBW.out hb);have n1_ := aZ_ (below_step T5_ hb);have n2_ := aZ_ (hbox);have n3_ := aZ_ ((T36_ : w.heap.size ≤ gb102));have n4_ := aZ_ ((Nat.le_trans HW0.out (T36_ : w.heap.size ≤ gb102) : w0.heap.size ≤ gb102));clear HBW;clear HB;have HBW := n0_;have HB := n1_;have BK102 := n2_;have GW102 := n3_;have GE102 := n4_;clear n0_ n1_ n2_ n3_ n4_;clear hb hbox hg))
     go_ret
     exact ⟨_,rfl,(show IsS59 w0 _ gb102 l0 0 x3_1 from ⟨_,_,by (with_reducible repeat (first | refine blk_drewN ?_ _ | refine blk_drew ?_ | refine blk_alloc ?_ _));exact BK102.out,GE102.out,HR0.out⟩),by repeat (first | (with_reducible first | exact HB.out | apply below_alloc | apply pw_below_drewN | apply below_drew1 | refine below_set ?_ GE102.out) | exact HB.out),by repeat (first | (with_reducible first | exact HBW.out | apply below_alloc | apply pw_below_drewN | apply below_drew1 | refine below_set ?_ GW102.out) | exact HBW.out)⟩
   ·rw [if_neg c2] at H
    have c2b0 : decide (x4_1 < (l0.length : Int)) = false := decide_eq_false c2
    clear c2
    simp only [Option.some.injEq,Prod.mk.injEq] at H
    obtain ⟨rfl,rfl,rfl⟩ := H
    go_wp2_with (first | ((with_reducible refine gate_dst (N := 31) rfl ?_);refine box_event ?hg (N := 31) ?hd (cs := #[.slice A0 l0.length c0,.int .i64 0,.int .i64 x3_1]) (t := 59) ?hr ?_;(case hd => rfl);(case hg => rfl);(case hr => first | (go_simp;done) | (go_simp;rfl));intro gb103 hg w6 hbox hb;have n0_ := aZ_ (below_step HBW.out hb);have n1_ := aZ_ (below_step T5_ hb);have n2_ := aZ_ (hbox);have n3_ := aZ_ ((T36_ : w.heap.size ≤ gb103));have n4_ := aZ_ ((Nat.le_trans HW0.out (T36_ : w.heap.size ≤ gb103) : w0.heap.size ≤ gb103));clear HBW;clear HB;have HBW := n0_;have HB := n1_;have BK103 := n2_;have GW103 := n3_;have GE103 := n4_;clear n0_ n1_ n2_ n3_ n4_;clear hb hbox hg))
    go_ret
    exact ⟨_,rfl,(show IsS59 w0 _ gb103 l0 0 x3_1 from ⟨_,_,by (with_reducible repeat (first | refine blk_drewN ?_ _ | refine blk_drew ?_ | refine blk_alloc ?_ _));exact BK103.out,GE103.out,HR0.out⟩),by repeat (first | (with_reducible first | exact HB.out | apply below_alloc | apply pw_below_drewN | apply below_drew1 | refine below_set ?_ GE103.out) | exact HB.out),by repeat (first | (with_reducible first | exact HBW.out | apply below_alloc | apply pw_below_drewN | apply below_drew1 | refine below_set ?_ GW103.out) | exact HBW.out)⟩
def spec_DrawShapleyNumbers.f (k : Nat) (l0 : List Int) : Option (Int × Int) := (spec_l1New.f k l0).bind fun bt102 => ((spec_l17Draw.f k bt102.1 bt102.2.1 bt102.2.2).bind fun bt106 => (some (bt106.1,bt106.2.1)))
set_option maxHeartbeats 8000000 in
set_option maxRecDepth 100000 in
theorem spec_DrawShapleyNumbers.calls (k : Nat) (A0 : Option Addr) (c0 : Nat) (l0 : List Int) (r1 : Int) (r2 : Int) (w : World) (hr0 : Kd.C (Kd.int .u8) w A0 l0.length l0) (hc0 : l0.length ≤ c0) (h : spec_DrawShapleyNumbers.f k l0 = some (r1,r2)) :
  Calls Try.prog 5 #[.slice A0 l0.length c0] w fun e w' => e = .returned (.agg #[.int .i64 r1,.int .i64 r2]) ∧ Below w.heap.size w w' := by
 have hu25 := Try.underlying25
 have HR0 := aZ_ hr0
 have HC0 := aZ_ hc0
 clear hr0 hc0
 have HB := aZ_ (Below.refl w.heap.size w)
 have H : ((spec_l1New.f k l0).bind fun bt102 => ((spec_l17Draw.f k bt102.1 bt102.2.1 bt102.2.2).bind fun bt106 => (some (bt106.1,bt106.2.1)))) = some (r1,r2) := h
 clear h
 replace H := Option.bind_eq_some_iff.mp H
 obtain ⟨⟨t102,t103,t104⟩,A20,H⟩ := H
 replace H : ((spec_l17Draw.f k t102 t103 t104).bind fun bt106 => (some (bt106.1,bt106.2.1))) = some (r1,r2) := H
 have A2 := aZ_ A20
 clear A20
 replace H := Option.bind_eq_some_iff.mp H
 obtain ⟨⟨t106,t107,t108,t109⟩,A30,H⟩ := H
 replace H : (some (t106,t107)) = some (r1,r2) := H
 have A3 := aZ_ A30
 clear A30
 simp only [Option.some.injEq,Prod.mk.injEq] at H
 obtain ⟨rfl,rfl⟩ := H
 go_enter Try.func5,Try.ntmps5
 go_wp2_with (first | ((with_reducible refine gate_dst (N := 2) rfl ?_);refine box_event ?hg (N := 2) ?hd (cs := #[.int .i64 0,.int .i64 0]) (t := 25) ?hr ?_;(case hd => rfl);(case hg => rfl);(case hr => first | (go_simp;done) | (go_simp;rfl));intro gb101 hg w4 hbox hb;have n0_ := aZ_ (below_step T5_ hb);have n1_ := aZ_ (hbox);have n2_ := aZ_ ((T3_ : w.heap.size ≤ gb101));have n3_ := aZ_ ((T3_ : w.heap.size ≤ gb101));clear HB;have HB := n0_;have BK101 := n1_;have GW101 := n2_;have GE101 := n3_;clear n0_ n1_ n2_ n3_;clear hb hbox hg) | ((with_reducible refine gate_callee (f := 28) rfl ?_);refine goesL_ (some 4) rfl rfl Try.func28 T12_ rfl #[.slice A0 l0.length c0] rfl T4_ ?_;(with_reducible refine (spec_l1New.calls k _ _ l0 t102 t103 t104 w _ ?side1 ?side2 ?side3 A2.out).mono ?_);(case side1 => repeat (first | (with_reducible first | exact HB.out | apply below_alloc | apply pw_below_drewN | apply below_drew1 | refine below_set ?_ GE101.out) | exact HB.out));(case side2 => exact HR0.out);(case side3 => exact HC0.out);rintro e w5 ⟨g105,rfl,hi,hb,hb2⟩;refine ⟨_,rfl,?_⟩;have n0_ := aZ_ (blk_below (g := gb101) (o := .cells #[.int .i64 0,.int .i64 0] 25 (0,0)) T2_ hb2);have n1_ := aZ_ (hb);have n2_ := aZ_ (hi);have n3_ := aZ_ (IsS59.ne_blk hi (blk_below (g := gb101) (o := .cells #[.int .i64 0,.int .i64 0] 25 (0,0)) T2_ hb2) T35_);have n4_ := aZ_ (Ne.symm (IsS59.ne_blk hi (blk_below (g := gb101) (o := .cells #[.int .i64 0,.int .i64 0] 25 (0,0)) T2_ hb2) T35_));clear BK101;clear HB;have BK101 := n0_;have HB := n1_;have HI105 := n2_;have NB105_101 := n3_;have NB101_105 := n4_;clear n0_ n1_ n2_ n3_ n4_;(try clear hb);(try clear hb2);(try clear hk);(try clear hi)) | ((with_reducible refine gate_callee (f := 27) rfl ?_);refine goesL_ (some 5) rfl rfl Try.func27 T12_ rfl #[.pointer (some ⟨g105,0,none⟩)] rfl T4_ ?_;(with_reducible refine (spec_l17Draw.calls k g105 t102 t103 t104 t106 t107 t108 t109 w _ ?side1 ?side2 A3.out).mono ?_);(case side1 => repeat (first | (with_reducible first | exact HI105.out | apply IsS59.alloc | apply IsS59.drewN | apply IsS59.drew | apply IsS59.set_1 | apply IsS59.set_2 | refine IsS59.far ?_ NB105_101.out _) | exact HI105.out));(case side2 => repeat (first | (with_reducible first | exact HB.out | apply below_alloc | apply pw_below_drewN | apply below_drew1 | refine below_set ?_ (IsS59.ge HI105.out) | refine below_set ?_ GE101.out) | exact HB.out));rintro e w6 ⟨rfl,hi,hb,hk⟩;refine ⟨_,rfl,?_⟩;have n0_ := aZ_ (KeepBut.blk hk (g' := gb101) (o := .cells #[.int .i64 0,.int .i64 0] 25 (0,0)) T2_ NB101_105.out T40_);have n1_ := aZ_ (hb);have n2_ := aZ_ (hi);clear BK101;clear HB;clear HI105;have BK101 := n0_;have HB := n1_;have HI105 := n2_;clear n0_ n1_ n2_;(try clear hb);(try clear hb2);(try clear hk);(try clear hi);have hnb7 := NB101_105.out;have hnc7 := NB105_101.out;have hcz8_0 : w6.cell? ⟨gb101,0,none⟩ = some (.int .i64 0) := (blk_cell BK101.out 0).trans rfl;have hcz8_1 : w6.cell? ⟨gb101,1,none⟩ = some (.int .i64 0) := (blk_cell BK101.out 1).trans rfl;have hfz8_0 := blk_frozen BK101.out 0;have hfz8_1 := blk_frozen BK101.out 1))
 refine bodyPost_ret (results_cell_row rfl _ _ gb101 25 #[.int .i64 t106,.int .i64 t107] (0,0) _ rfl T24_ Try.underlying25 rfl T12_) rfl ?_
 exact ⟨by first | rfl | (simp [errW_none,errW_some] <;> rfl) | (simp [*,errW_none,errW_some] <;> rfl),by repeat (first | (with_reducible first | exact HB.out | apply below_alloc | apply pw_below_drewN | apply below_drew1 | refine below_set ?_ (IsS59.ge HI105.out) | refine below_set ?_ GE101.out) | exact HB.out)⟩
theorem eqA25 (d : Nat) (w : World) (x0 y0 : Int) (x1 y1 : Int) :
  (Op.equalIn (d + 2) 25 (.agg #[.int .i64 x0,.int .i64 x1]) (.agg #[.int .i64 y0,.int .i64 y1])).run Try.prog w = .ok (x0 == y0 && (x1 == y1)) w := by
 refine eqA_of Try.underlying25 T12_ ?_
 refine eqf_cons (by rfl) (by go_simp;rfl) (by go_simp;rfl) (by go_simp) ?_
 exact eqf_last (by rfl) (by go_simp;rfl) (by go_simp;rfl) (by go_simp)
end Go.Proofs.Ytmmdcbdchifniaa.F
