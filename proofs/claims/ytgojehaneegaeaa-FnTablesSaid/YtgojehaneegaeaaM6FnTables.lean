/- Walks of Go functions and lemmas on what they compute, for the row of FnTables (a part of several): each call ends as the Lean function of its name tells; the conditions are those of each theorem. -/
import Derived.Test.YtgojehaneegaeaaM1FnTables
import Derived.Test.YtgojehaneegaeaaM2FnTables
import Derived.Test.YtgojehaneegaeaaM3FnTables
import Derived.Test.YtgojehaneegaeaaM4FnTables
import Derived.Test.YtgojehaneegaeaaM5FnTables
namespace Go.Proofs.Ytgojehaneegaeaa.F
open Go.RowKit Go.Proofs.YtgojehaneegaeaaW.PrintWords Go.Proofs.YtgojehaneegaeaaW.PrintLast Go.Proofs.YtgojehaneegaeaaW.PrintMore
attribute [local go_sem] max2_int min2_int max_two min_two max_three min_three max_four min_four 
set_option linter.unusedVariables false
set_option linter.unusedSimpArgs false
def spec_l1PickInt.f (s0_0 : List Int) (s0_1 : Int) (s0_2 : Int) (l1 : List Int) : Option (Int × Int × Int) := (spec_l1Below.f s0_0 s0_1 s0_2 (l1.length : Int)).bind fun bt101 => (if 0 ≤ bt101.1 then (if bt101.1 < (l1.length : Int) then (some (rd l1 bt101.1,bt101.2.1,bt101.2.2)) else (none)) else (none))
set_option maxHeartbeats 8000000 in
set_option maxRecDepth 100000 in
theorem spec_l1PickInt.calls (g : Nat) (s0_0 : List Int) (s0_1 : Int) (s0_2 : Int) (A1 : Option Addr) (c1 : Nat) (l1 : List Int) (r1 : Int) (r2 : Int) (r3 : Int) (w0 w : World) (hI : IsS66 w0 w g s0_0 s0_1 s0_2) (hB : Below w0.heap.size w0 w) (hr1 : Kd.C (Kd.int .i64) w A1 l1.length l1) (hc1 : l1.length ≤ c1) (hf1 : ∀ ad,A1 = some ad → 0 < l1.length → ad.block ≠ g) (h : spec_l1PickInt.f s0_0 s0_1 s0_2 l1 = some (r1,r2,r3)) :
  Calls Try.prog 60 #[.pointer (some ⟨g,0,none⟩),.slice A1 l1.length c1] w fun e w' => e = .returned (.int .i64 r1) ∧ IsS66 w0 w' g s0_0 r2 r3 ∧ Below w0.heap.size w0 w' ∧ KeepBut w w' g none := by
 have HR1 := aZ_ hr1
 have HC1 := aZ_ hc1
 clear hr1 hc1
 have HI0 := aZ_ hI
 have HK := aZ_ (KeepBut.refl w g none)
 have HL := aZ_ hB.size
 clear hI
 have HW0 := aZ_ hB.size
 have HB := aZ_ hB
 clear hB
 have H : ((spec_l1Below.f s0_0 s0_1 s0_2 (l1.length : Int)).bind fun bt101 => (if 0 ≤ bt101.1 then (if bt101.1 < (l1.length : Int) then (some (rd l1 bt101.1,bt101.2.1,bt101.2.2)) else (none)) else (none))) = some (r1,r2,r3) := h
 clear h
 replace H := Option.bind_eq_some_iff.mp H
 obtain ⟨⟨t101,t102,t103⟩,A30,H⟩ := H
 replace H : (if 0 ≤ t101 then (if t101 < (l1.length : Int) then (some (rd l1 t101,t102,t103)) else (none)) else (none)) = some (r1,r2,r3) := H
 have A3 := aZ_ A30
 clear A30
 by_cases c4 : 0 ≤ t101
 ·rw [if_pos c4] at H
  have c4b0 : decide (0 ≤ t101) = true := decide_eq_true c4
  clear c4
  by_cases c5 : t101 < (l1.length : Int)
  ·rw [if_pos c5] at H
   have c5b0 : decide (t101 < (l1.length : Int)) = true := decide_eq_true c5
   clear c5
   simp only [Option.some.injEq,Prod.mk.injEq] at H
   obtain ⟨rfl,rfl,rfl⟩ := H
   go_enter Try.func60,Try.ntmps60
   go_wp2_with (first | ((with_reducible refine gate_callee (f := 51) rfl ?_);refine goesL_ (some 9) rfl rfl Try.func51 T17_ rfl #[.pointer (some ⟨g,0,none⟩),.int .i64 (l1.length : Int)] rfl T3_ ?_;(with_reducible refine (spec_l1Below.calls g s0_0 s0_1 s0_2 (l1.length : Int) t101 t102 t103 w0 _ ?side1 ?side2 A3.out).mono ?_);(case side1 => repeat (first | (with_reducible first | exact HI0.out | apply IsS66.alloc | apply IsS66.drewN | apply IsS66.drew | apply IsS66.set_1 | apply IsS66.set_2) | exact HI0.out));(case side2 => repeat (first | (with_reducible first | exact HB.out | apply below_alloc | apply pw_below_drewN | apply below_drew1 | refine below_set ?_ (IsS66.ge HI0.out)) | exact HB.out));rintro e w6 ⟨rfl,hi,hb,hk⟩;refine ⟨_,rfl,?_⟩;have n0_ := aZ_ (KeepBut.trans T10_ hk (.inl rfl));have n1_ := aZ_ (hb);have n2_ := aZ_ (hi);clear HK;clear HB;clear HI0;have HK := n0_;have HB := n1_;have HI0 := n2_;clear n0_ n1_ n2_;(try clear hb);(try clear hb2);(try clear hk);(try clear hi);have p104 : 0 ≤ (t101 : Int) := of_decide_eq_true T44_;have q104 : t101 < (l1.length : Int) := of_decide_eq_true T44_;obtain ⟨ad104,e104,hx104_0⟩ := Kd.at_int HR1.out t101 p104 q104;cases e104;replace hx104_0 := keep_cell HK.out hx104_0 (by first | (rw [add_block];exact hf1 _ rfl (by omega)) | exact hf1 _ rfl (by omega) | exact hf1 ad104 rfl (by omega));replace p104 := eq_true p104;replace q104 := eq_true q104))
   go_ret
   exact ⟨by first | rfl | (simp [errW_none,errW_some] <;> rfl) | (simp [*,errW_none,errW_some] <;> rfl),by repeat (first | (with_reducible first | exact HI0.out | apply IsS66.alloc | apply IsS66.drewN | apply IsS66.drew | apply IsS66.set_1 | apply IsS66.set_2) | exact HI0.out),by repeat (first | (with_reducible first | exact HB.out | apply below_alloc | apply pw_below_drewN | apply below_drew1 | refine below_set ?_ (IsS66.ge HI0.out)) | exact HB.out),by repeat (first | (with_reducible first | exact HK.out | apply KeepBut.set_ | apply keep_drewN | apply keep_drew | apply keep_alloc) | exact HK.out)⟩
  ·rw [if_neg c5] at H
   exact absurd H (by simp)
 ·rw [if_neg c4] at H
  exact absurd H (by simp)
def spec_l2Any.f (k : Nat) (s0_0 : List Int) (s0_1 : Int) (s0_2 : Int) : Option (Int × Int × Int × Int) := (spec_l1Below.f s0_0 s0_1 s0_2 5).bind fun bt102 => ((spec_l2Draw.f k s0_0 bt102.2.1 bt102.2.2 bt102.1).bind fun bt105 => ((spec_l1Below.f s0_0 bt105.2.2.1 bt105.2.2.2 14).bind fun bt110 => (if bt110.1 = 0 then ((spec_l1PickInt.f s0_0 bt110.2.1 bt110.2.2 (([(-1),6,5,0,9223372036854775807] : List Int))).bind fun bt116 => (some (bt116.1,bt105.2.1,bt116.2.1,bt116.2.2))) else (if bt110.1 = 1 then ((spec_l1PickInt.f s0_0 bt110.2.1 bt110.2.2 (([(-1),0,1,65536,9223372036854775807] : List Int))).bind fun bt122 => (some (bt105.1,bt122.1,bt122.2.1,bt122.2.2))) else (some (bt105.1,bt105.2.1,bt110.2.1,bt110.2.2))))))
set_option maxHeartbeats 8000000 in
set_option maxRecDepth 100000 in
theorem spec_l2Any.calls (k : Nat) (g : Nat) (s0_0 : List Int) (s0_1 : Int) (s0_2 : Int) (r1 : Int) (r2 : Int) (r3 : Int) (r4 : Int) (w0 w : World) (hI : IsS66 w0 w g s0_0 s0_1 s0_2) (hB : Below w0.heap.size w0 w) (h : spec_l2Any.f k s0_0 s0_1 s0_2 = some (r1,r2,r3,r4)) :
  Calls Try.prog 48 #[.pointer (some ⟨g,0,none⟩)] w fun e w' => e = .returned (.agg #[.int .i64 r1,.int .i64 r2]) ∧ IsS66 w0 w' g s0_0 r3 r4 ∧ Below w0.heap.size w0 w' ∧ KeepBut w w' g none := by
 have hu25 := Try.underlying25
 have HI0 := aZ_ hI
 have HK := aZ_ (KeepBut.refl w g none)
 have HL := aZ_ hB.size
 clear hI
 have HW0 := aZ_ hB.size
 have HB := aZ_ hB
 clear hB
 have H : ((spec_l1Below.f s0_0 s0_1 s0_2 5).bind fun bt102 => ((spec_l2Draw.f k s0_0 bt102.2.1 bt102.2.2 bt102.1).bind fun bt105 => ((spec_l1Below.f s0_0 bt105.2.2.1 bt105.2.2.2 14).bind fun bt110 => (if bt110.1 = 0 then ((spec_l1PickInt.f s0_0 bt110.2.1 bt110.2.2 (([(-1),6,5,0,9223372036854775807] : List Int))).bind fun bt116 => (some (bt116.1,bt105.2.1,bt116.2.1,bt116.2.2))) else (if bt110.1 = 1 then ((spec_l1PickInt.f s0_0 bt110.2.1 bt110.2.2 (([(-1),0,1,65536,9223372036854775807] : List Int))).bind fun bt122 => (some (bt105.1,bt122.1,bt122.2.1,bt122.2.2))) else (some (bt105.1,bt105.2.1,bt110.2.1,bt110.2.2))))))) = some (r1,r2,r3,r4) := h
 clear h
 replace H := Option.bind_eq_some_iff.mp H
 obtain ⟨⟨t102,t103,t104⟩,A20,H⟩ := H
 replace H : ((spec_l2Draw.f k s0_0 t103 t104 t102).bind fun bt105 => ((spec_l1Below.f s0_0 bt105.2.2.1 bt105.2.2.2 14).bind fun bt110 => (if bt110.1 = 0 then ((spec_l1PickInt.f s0_0 bt110.2.1 bt110.2.2 (([(-1),6,5,0,9223372036854775807] : List Int))).bind fun bt116 => (some (bt116.1,bt105.2.1,bt116.2.1,bt116.2.2))) else (if bt110.1 = 1 then ((spec_l1PickInt.f s0_0 bt110.2.1 bt110.2.2 (([(-1),0,1,65536,9223372036854775807] : List Int))).bind fun bt122 => (some (bt105.1,bt122.1,bt122.2.1,bt122.2.2))) else (some (bt105.1,bt105.2.1,bt110.2.1,bt110.2.2)))))) = some (r1,r2,r3,r4) := H
 have A2 := aZ_ A20
 clear A20
 replace H := Option.bind_eq_some_iff.mp H
 obtain ⟨⟨t105,t106,t107,t108⟩,A30,H⟩ := H
 replace H : ((spec_l1Below.f s0_0 t107 t108 14).bind fun bt110 => (if bt110.1 = 0 then ((spec_l1PickInt.f s0_0 bt110.2.1 bt110.2.2 (([(-1),6,5,0,9223372036854775807] : List Int))).bind fun bt116 => (some (bt116.1,t106,bt116.2.1,bt116.2.2))) else (if bt110.1 = 1 then ((spec_l1PickInt.f s0_0 bt110.2.1 bt110.2.2 (([(-1),0,1,65536,9223372036854775807] : List Int))).bind fun bt122 => (some (t105,bt122.1,bt122.2.1,bt122.2.2))) else (some (t105,t106,bt110.2.1,bt110.2.2))))) = some (r1,r2,r3,r4) := H
 have A3 := aZ_ A30
 clear A30
 replace H := Option.bind_eq_some_iff.mp H
 obtain ⟨⟨t110,t111,t112⟩,A40,H⟩ := H
 replace H : (if t110 = 0 then ((spec_l1PickInt.f s0_0 t111 t112 (([(-1),6,5,0,9223372036854775807] : List Int))).bind fun bt116 => (some (bt116.1,t106,bt116.2.1,bt116.2.2))) else (if t110 = 1 then ((spec_l1PickInt.f s0_0 t111 t112 (([(-1),0,1,65536,9223372036854775807] : List Int))).bind fun bt122 => (some (t105,bt122.1,bt122.2.1,bt122.2.2))) else (some (t105,t106,t111,t112)))) = some (r1,r2,r3,r4) := H
 have A4 := aZ_ A40
 clear A40
 by_cases c5 : t110 = 0
 ·rw [if_pos c5] at H
  have c5b0 : (t110 == 0) = true := beq_iff_eq.mpr c5
  have c5b1 : (t110 != 0) = false := bne_eq_false_iff_eq.mpr c5
  clear c5
  obtain ⟨y113,hy113⟩ : ∃ y_ : List Int,y_ = (([(-1),6,5,0,9223372036854775807] : List Int)) := ⟨_,rfl⟩
  replace H : ((spec_l1PickInt.f s0_0 t111 t112 y113).bind fun bt116 => (some (bt116.1,t106,bt116.2.1,bt116.2.2))) = some (r1,r2,r3,r4) := by first | (rw [hy113];with_reducible exact H) | (have H2_ := (Option.bind_some _ _).symm.trans H;rw [hy113];with_reducible exact H2_) | (have H2_ := (Option.bind_some _ _).symm.trans H;with_reducible exact H2_) | with_reducible exact H | (rw [hy113];exact H) | exact H
  have Ny113 := aZ_ hy113
  clear hy113
  replace H := Option.bind_eq_some_iff.mp H
  obtain ⟨⟨t116,t117,t118⟩,A60,H⟩ := H
  replace H : (some (t116,t106,t117,t118)) = some (r1,r2,r3,r4) := H
  have A6 := aZ_ A60
  clear A60
  simp only [Option.some.injEq,Prod.mk.injEq] at H
  obtain ⟨rfl,rfl,rfl,rfl⟩ := H
  go_enter Try.func48,Try.ntmps48
  go_wp2_with (first | ((with_reducible refine gate_dst (N := 2) rfl ?_);refine box_event ?hg (N := 2) ?hd (cs := #[.int .i64 0,.int .i64 0]) (t := 25) ?hr ?_;(case hd => rfl);(case hg => rfl);(case hr => first | (go_simp;done) | (go_simp;rfl));intro gb101 hg w7 hbox hb;have n0_ := aZ_ (IsS66.below T24_ hb);have n1_ := aZ_ (KeepBut.trans T10_ (KeepBut.of_below hb g none) (.inl rfl));have n2_ := aZ_ (below_step T20_ hb);have n3_ := aZ_ (hbox);have n4_ := aZ_ ((T15_ : w.heap.size ≤ gb101));have n5_ := aZ_ ((Nat.le_trans HW0.out (T15_ : w.heap.size ≤ gb101) : w0.heap.size ≤ gb101));have n6_ := aZ_ ((T30_ : g ≠ gb101));have n7_ := aZ_ ((T31_ : gb101 ≠ g));clear HI0;clear HK;clear HB;have HI0 := n0_;have HK := n1_;have HB := n2_;have BK101 := n3_;have GW101 := n4_;have GE101 := n5_;have NB0_101 := n6_;have NB101_0 := n7_;clear n0_ n1_ n2_ n3_ n4_ n5_ n6_ n7_;clear hb hbox hg) | ((with_reducible refine gate_callee (f := 51) rfl ?_);refine goesL_ (some 6) rfl rfl Try.func51 T17_ rfl #[.pointer (some ⟨g,0,none⟩),.int .i64 5] rfl T3_ ?_;(with_reducible refine (spec_l1Below.calls g s0_0 s0_1 s0_2 5 t102 t103 t104 w0 _ ?side1 ?side2 A2.out).mono ?_);(case side1 => repeat (first | (with_reducible first | exact HI0.out | apply IsS66.alloc | apply IsS66.drewN | apply IsS66.drew | apply IsS66.set_1 | apply IsS66.set_2 | refine IsS66.far ?_ NB0_101.out _) | exact HI0.out));(case side2 => repeat (first | (with_reducible first | exact HB.out | apply below_alloc | apply pw_below_drewN | apply below_drew1 | refine below_set ?_ (IsS66.ge HI0.out) | refine below_set ?_ GE101.out) | exact HB.out));rintro e w8 ⟨rfl,hi,hb,hk⟩;refine ⟨_,rfl,?_⟩;have n0_ := aZ_ (KeepBut.blk hk (g' := gb101) (o := .cells #[.int .i64 0,.int .i64 0] 25 (0,0)) T2_ NB101_0.out (by simp));have n1_ := aZ_ (KeepBut.trans T13_ hk (.inl rfl));have n2_ := aZ_ (hb);have n3_ := aZ_ (hi);clear BK101;clear HK;clear HB;clear HI0;have BK101 := n0_;have HK := n1_;have HB := n2_;have HI0 := n3_;clear n0_ n1_ n2_ n3_;(try clear hb);(try clear hb2);(try clear hk);(try clear hi)) | ((with_reducible refine gate_callee (f := 58) rfl ?_);refine goesL_ (some 7) rfl rfl Try.func58 T17_ rfl #[.pointer (some ⟨g,0,none⟩),.int .i64 t102] rfl T3_ ?_;(with_reducible refine (spec_l2Draw.calls k g s0_0 t103 t104 t102 t105 t106 t107 t108 w0 _ ?side1 ?side2 A3.out).mono ?_);(case side1 => repeat (first | (with_reducible first | exact HI0.out | apply IsS66.alloc | apply IsS66.drewN | apply IsS66.drew | apply IsS66.set_1 | apply IsS66.set_2 | refine IsS66.far ?_ NB0_101.out _) | exact HI0.out));(case side2 => repeat (first | (with_reducible first | exact HB.out | apply below_alloc | apply pw_below_drewN | apply below_drew1 | refine below_set ?_ (IsS66.ge HI0.out) | refine below_set ?_ GE101.out) | exact HB.out));rintro e w9 ⟨rfl,hi,hb,hk⟩;refine ⟨_,rfl,?_⟩;have n0_ := aZ_ (KeepBut.blk hk (g' := gb101) (o := .cells #[.int .i64 0,.int .i64 0] 25 (0,0)) T2_ NB101_0.out (by simp));have n1_ := aZ_ (KeepBut.trans T13_ hk (.inl rfl));have n2_ := aZ_ (hb);have n3_ := aZ_ (hi);clear BK101;clear HK;clear HB;clear HI0;have BK101 := n0_;have HK := n1_;have HB := n2_;have HI0 := n3_;clear n0_ n1_ n2_ n3_;(try clear hb);(try clear hb2);(try clear hk);(try clear hi)) | ((with_reducible refine gate_dst (N := 3) rfl ?_);refine box_event ?hg (N := 3) ?hd (cs := #[.int .i64 0,.int .i64 0]) (t := 25) ?hr ?_;(case hd => rfl);(case hg => rfl);(case hr => first | (go_simp;done) | (go_simp;rfl));intro gb109 hg w10 hbox hb;have n0_ := aZ_ (IsS66.below T18_ hb);have n1_ := aZ_ (blk_below (g := gb101) (o := .cells #[.int .i64 0,.int .i64 0] 25 (0,0)) T2_ hb);have n2_ := aZ_ (KeepBut.trans T13_ (KeepBut.of_below hb g none) (.inl rfl));have n3_ := aZ_ (below_step T19_ hb);have n4_ := aZ_ (hbox);have n5_ := aZ_ ((T34_ : w.heap.size ≤ gb109));have n6_ := aZ_ ((Nat.le_trans HW0.out (T34_ : w.heap.size ≤ gb109) : w0.heap.size ≤ gb109));have n7_ := aZ_ ((T26_ : gb101 ≠ gb109));have n8_ := aZ_ ((T27_ : gb109 ≠ gb101));have n9_ := aZ_ ((T49_ : g ≠ gb109));have n10_ := aZ_ ((T50_ : gb109 ≠ g));clear HI0;clear BK101;clear HK;clear HB;have HI0 := n0_;have BK101 := n1_;have HK := n2_;have HB := n3_;have BK109 := n4_;have GW109 := n5_;have GE109 := n6_;have NB101_109 := n7_;have NB109_101 := n8_;have NB0_109 := n9_;have NB109_0 := n10_;clear n0_ n1_ n2_ n3_ n4_ n5_ n6_ n7_ n8_ n9_ n10_;clear hb hbox hg;have hnb11 := NB109_101.out;have hnc11 := NB101_109.out;have hnb12 := NB109_0.out;have hnc12 := NB0_109.out;have hcz13_0 : w10.cell? ⟨gb109,0,none⟩ = some (.int .i64 0) := (blk_cell BK109.out 0).trans rfl;have hcz13_1 : w10.cell? ⟨gb109,1,none⟩ = some (.int .i64 0) := (blk_cell BK109.out 1).trans rfl;have hfz13_0 := blk_frozen BK109.out 0;have hfz13_1 := blk_frozen BK109.out 1) | ((with_reducible refine gate_callee (f := 51) rfl ?_);refine goesL_ (some 9) rfl rfl Try.func51 T17_ rfl #[.pointer (some ⟨g,0,none⟩),.int .i64 14] rfl T3_ ?_;(with_reducible refine (spec_l1Below.calls g s0_0 t107 t108 14 t110 t111 t112 w0 _ ?side1 ?side2 A4.out).mono ?_);(case side1 => repeat (first | (with_reducible first | exact HI0.out | apply IsS66.alloc | apply IsS66.drewN | apply IsS66.drew | apply IsS66.set_1 | apply IsS66.set_2 | refine IsS66.far ?_ NB0_101.out _ | refine IsS66.far ?_ NB0_109.out _) | exact HI0.out));(case side2 => repeat (first | (with_reducible first | exact HB.out | apply below_alloc | apply pw_below_drewN | apply below_drew1 | refine below_set ?_ (IsS66.ge HI0.out) | refine below_set ?_ GE101.out | refine below_set ?_ GE109.out) | exact HB.out));rintro e w14 ⟨rfl,hi,hb,hk⟩;refine ⟨_,rfl,?_⟩;have n0_ := aZ_ (KeepBut.blk hk (g' := gb101) (o := .cells #[.int .i64 0,.int .i64 0] 25 (0,0)) T41_ NB101_0.out (by simp));have n1_ := aZ_ (KeepBut.blk hk (g' := gb109) (o := .cells #[.int .i64 t105,.int .i64 t106] 25 (0,0)) T39_ NB109_0.out (by simp));have n2_ := aZ_ (KeepBut.trans T33_ hk (.inl rfl));have n3_ := aZ_ (hb);have n4_ := aZ_ (hi);clear BK101;clear BK109;clear HK;clear HB;clear HI0;have BK101 := n0_;have BK109 := n1_;have HK := n2_;have HB := n3_;have HI0 := n4_;clear n0_ n1_ n2_ n3_ n4_;(try clear hb);(try clear hb2);(try clear hk);(try clear hi)) | ((with_reducible refine gate_dst (N := 13) rfl ?_);refine Kd.R_lit (Kd.int .i64) _ 3 ?hg (N := 13) ?hd (xs := ([(-1),6,5,0,9223372036854775807] : List Int)) (inner := [.int .i64 (-1),.int .i64 6,.int .i64 5,.int .i64 0,.int .i64 9223372036854775807]) (ok := fun _ => True) (okp := fun _ => True) ?hr ?hp (fun _ hk => hk) trivial (Below.refl _ _) (Nat.le_refl _) (by simp) ?_;(case hd => rfl);(case hg => rfl);(case hr => first | (go_simp;done) | (go_simp;rfl));(case hp => exact (Reps.one (show Kd.M (Kd.int .i64) _ _ _ (-1) [.int .i64 (-1)] from rfl) (Reps.one (show Kd.M (Kd.int .i64) _ _ _ 6 [.int .i64 6] from rfl) (Reps.one (show Kd.M (Kd.int .i64) _ _ _ 5 [.int .i64 5] from rfl) (Reps.one (show Kd.M (Kd.int .i64) _ _ _ 0 [.int .i64 0] from rfl) (Reps.one (show Kd.M (Kd.int .i64) _ _ _ 9223372036854775807 [.int .i64 9223372036854775807] from rfl) (Reps.none _ _)))))));intro v114 w15 ho16 hb hg_ hnew_;clear hg_ hnew_;(first | rw [← Ny113.out] at ho16 | (simp only [Int.reduceToNat] at ho16;rw [← Ny113.out] at ho16));have n0_ := aZ_ (Kd.R_lower ho16 (keep_size (w := w) (g := g) (row := none) T33_));have n1_ := aZ_ (IsS66.below T57_ hb);have n2_ := aZ_ (blk_below (g := gb101) (o := .cells #[.int .i64 0,.int .i64 0] 25 (0,0)) T2_ hb);have n3_ := aZ_ (blk_below (g := gb109) (o := .cells #[.int .i64 t105,.int .i64 t106] 25 (0,0)) T61_ hb);have n4_ := aZ_ (KeepBut.trans T33_ (KeepBut.of_below hb g none) (.inl rfl));have n5_ := aZ_ (below_step T60_ hb);clear HI0;clear BK101;clear BK109;clear HK;clear HB;have HO115 := n0_;have HI0 := n1_;have BK101 := n2_;have BK109 := n3_;have HK := n4_;have HB := n5_;clear n0_ n1_ n2_ n3_ n4_ n5_;clear hb ho16;obtain ⟨Ao17,co17,eo17⟩ := Kd.R_slice HO115.out;subst eo17) | ((with_reducible refine gate_callee (f := 60) rfl ?_);refine goesL_ (some 14) rfl rfl Try.func60 T17_ rfl #[.pointer (some ⟨g,0,none⟩),.slice Ao17 y113.length co17] rfl T3_ ?_;(with_reducible refine (spec_l1PickInt.calls g s0_0 t111 t112 _ _ y113 t116 t117 t118 w0 _ ?side1 ?side2 ?side3 ?side4 ?side5 A6.out).mono ?_);(case side1 => repeat (first | (with_reducible first | exact HI0.out | apply IsS66.alloc | apply IsS66.drewN | apply IsS66.drew | apply IsS66.set_1 | apply IsS66.set_2 | refine IsS66.far ?_ NB0_101.out _ | refine IsS66.far ?_ NB0_109.out _) | exact HI0.out));(case side2 => repeat (first | (with_reducible first | exact HB.out | apply below_alloc | apply pw_below_drewN | apply below_drew1 | refine below_set ?_ (IsS66.ge HI0.out) | refine below_set ?_ GE101.out | refine below_set ?_ GE109.out) | exact HB.out));(case side3 => repeat (first | exact (Kd.R_reads' HO115.out).2.2 | (with_reducible refine Kd.C_alloc ?_ _) | (with_reducible refine Kd.C_drewN ?_ _) | (with_reducible refine Kd.C_drew ?_)));(case side4 => exact (Kd.R_reads' HO115.out).2.1);(case side5 => exact far_slice (IsS66.own_ne HI0.out HO115.out T58_));rintro e w18 ⟨rfl,hi,hb,hk⟩;refine ⟨_,rfl,?_⟩;have n0_ := aZ_ (KeepBut.blk hk (g' := gb101) (o := .cells #[.int .i64 0,.int .i64 0] 25 (0,0)) T2_ NB101_0.out (by simp));have n1_ := aZ_ (KeepBut.blk hk (g' := gb109) (o := .cells #[.int .i64 t105,.int .i64 t106] 25 (0,0)) T61_ NB109_0.out (by simp));have n2_ := aZ_ (Kd.R_mono (Kd.R_keep (IsS66.apart (show IsS66 w0 _ g s0_0 t111 t112 from by repeat (first | (with_reducible first | exact HI0.out | apply IsS66.alloc | apply IsS66.drewN | apply IsS66.drew | apply IsS66.set_1 | apply IsS66.set_2 | refine IsS66.far ?_ NB0_101.out _ | refine IsS66.far ?_ NB0_109.out _) | exact HI0.out)) (by (with_reducible repeat (first | apply Kd.R_alloc | apply Kd.R_drewN | apply Kd.R_drew));exact HO115.out) T58_) hk (fun _ h => h.2)) (fun _ h => h.1));have n3_ := aZ_ (KeepBut.trans T33_ hk (.inl rfl));have n4_ := aZ_ (hb);have n5_ := aZ_ (hi);clear BK101;clear BK109;clear HO115;clear HK;clear HB;clear HI0;have BK101 := n0_;have BK109 := n1_;have HO115 := n2_;have HK := n3_;have HB := n4_;have HI0 := n5_;clear n0_ n1_ n2_ n3_ n4_ n5_;(try clear hb);(try clear hb2);(try clear hk);(try clear hi);have hcz19_0 : w18.cell? ⟨gb109,0,none⟩ = some (.int .i64 t105) := (blk_cell BK109.out 0).trans rfl;have hcz19_1 : w18.cell? ⟨gb109,1,none⟩ = some (.int .i64 t106) := (blk_cell BK109.out 1).trans rfl;have hfz19_0 := blk_frozen BK109.out 0;have hfz19_1 := blk_frozen BK109.out 1;have hnb20 := NB101_0.out;have hnc20 := NB0_101.out;have hcz21_0 : w18.cell? ⟨gb101,0,none⟩ = some (.int .i64 0) := (blk_cell BK101.out 0).trans rfl;have hcz21_1 : w18.cell? ⟨gb101,1,none⟩ = some (.int .i64 0) := (blk_cell BK101.out 1).trans rfl;have hfz21_0 := blk_frozen BK101.out 0;have hfz21_1 := blk_frozen BK101.out 1))
  refine bodyPost_ret (results_cell_row rfl _ _ gb101 25 #[.int .i64 t116,.int .i64 t106] (0,0) _ rfl (by (with_reducible repeat (first | refine blk_drewN ?_ _ | refine blk_drew ?_ | refine blk_alloc ?_ _));refine blk_put (cs := #[.int .i64 t116,.int .i64 0]) ?_ 1 _ rfl;(with_reducible repeat (first | refine blk_drewN ?_ _ | refine blk_drew ?_ | refine blk_alloc ?_ _));refine blk_put (cs := #[.int .i64 0,.int .i64 0]) ?_ 0 _ rfl;(with_reducible repeat (first | refine blk_drewN ?_ _ | refine blk_drew ?_ | refine blk_alloc ?_ _));refine blk_far ?_ NB101_109.out _;(with_reducible repeat (first | refine blk_drewN ?_ _ | refine blk_drew ?_ | refine blk_alloc ?_ _));exact BK101.out) Try.underlying25 rfl T17_) rfl ?_
  exact ⟨by first | rfl | (simp [errW_none,errW_some] <;> rfl) | (simp [*,errW_none,errW_some] <;> rfl),by repeat (first | (with_reducible first | exact HI0.out | apply IsS66.alloc | apply IsS66.drewN | apply IsS66.drew | apply IsS66.set_1 | apply IsS66.set_2 | refine IsS66.far ?_ NB0_101.out _ | refine IsS66.far ?_ NB0_109.out _) | exact HI0.out),by repeat (first | (with_reducible first | exact HB.out | apply below_alloc | apply pw_below_drewN | apply below_drew1 | refine below_set ?_ (IsS66.ge HI0.out) | refine below_set ?_ GE101.out | refine below_set ?_ GE109.out) | exact HB.out),by repeat (first | (with_reducible first | exact HK.out | apply KeepBut.set_ | apply keep_drewN | apply keep_drew | apply keep_alloc | refine keep_far ?_ GW101.out _ | refine keep_far ?_ GW109.out _) | exact HK.out)⟩
 ·rw [if_neg c5] at H
  have c5b0 : (t110 == 0) = false := beq_eq_false_iff_ne.mpr c5
  have c5b1 : (t110 != 0) = true := bne_iff_ne.mpr c5
  by_cases c22 : t110 = 1
  ·rw [if_pos c22] at H
   have c22b0 : (t110 == 1) = true := beq_iff_eq.mpr c22
   have c22b1 : (t110 != 1) = false := bne_eq_false_iff_eq.mpr c22
   clear c22
   obtain ⟨y119,hy119⟩ : ∃ y_ : List Int,y_ = (([(-1),0,1,65536,9223372036854775807] : List Int)) := ⟨_,rfl⟩
   replace H : ((spec_l1PickInt.f s0_0 t111 t112 y119).bind fun bt122 => (some (t105,bt122.1,bt122.2.1,bt122.2.2))) = some (r1,r2,r3,r4) := by first | (rw [hy119];with_reducible exact H) | (have H2_ := (Option.bind_some _ _).symm.trans H;rw [hy119];with_reducible exact H2_) | (have H2_ := (Option.bind_some _ _).symm.trans H;with_reducible exact H2_) | with_reducible exact H | (rw [hy119];exact H) | exact H
   have Ny119 := aZ_ hy119
   clear hy119
   replace H := Option.bind_eq_some_iff.mp H
   obtain ⟨⟨t122,t123,t124⟩,A230,H⟩ := H
   replace H : (some (t105,t122,t123,t124)) = some (r1,r2,r3,r4) := H
   have A23 := aZ_ A230
   clear A230
   simp only [Option.some.injEq,Prod.mk.injEq] at H
   obtain ⟨rfl,rfl,rfl,rfl⟩ := H
   go_enter Try.func48,Try.ntmps48
   go_wp2_with (first | ((with_reducible refine gate_dst (N := 2) rfl ?_);refine box_event ?hg (N := 2) ?hd (cs := #[.int .i64 0,.int .i64 0]) (t := 25) ?hr ?_;(case hd => rfl);(case hg => rfl);(case hr => first | (go_simp;done) | (go_simp;rfl));intro gb101 hg w24 hbox hb;have n0_ := aZ_ (IsS66.below T24_ hb);have n1_ := aZ_ (KeepBut.trans T10_ (KeepBut.of_below hb g none) (.inl rfl));have n2_ := aZ_ (below_step T20_ hb);have n3_ := aZ_ (hbox);have n4_ := aZ_ ((T15_ : w.heap.size ≤ gb101));have n5_ := aZ_ ((Nat.le_trans HW0.out (T15_ : w.heap.size ≤ gb101) : w0.heap.size ≤ gb101));have n6_ := aZ_ ((T30_ : g ≠ gb101));have n7_ := aZ_ ((T31_ : gb101 ≠ g));clear HI0;clear HK;clear HB;have HI0 := n0_;have HK := n1_;have HB := n2_;have BK101 := n3_;have GW101 := n4_;have GE101 := n5_;have NB0_101 := n6_;have NB101_0 := n7_;clear n0_ n1_ n2_ n3_ n4_ n5_ n6_ n7_;clear hb hbox hg) | ((with_reducible refine gate_callee (f := 51) rfl ?_);refine goesL_ (some 6) rfl rfl Try.func51 T17_ rfl #[.pointer (some ⟨g,0,none⟩),.int .i64 5] rfl T3_ ?_;(with_reducible refine (spec_l1Below.calls g s0_0 s0_1 s0_2 5 t102 t103 t104 w0 _ ?side1 ?side2 A2.out).mono ?_);(case side1 => repeat (first | (with_reducible first | exact HI0.out | apply IsS66.alloc | apply IsS66.drewN | apply IsS66.drew | apply IsS66.set_1 | apply IsS66.set_2 | refine IsS66.far ?_ NB0_101.out _) | exact HI0.out));(case side2 => repeat (first | (with_reducible first | exact HB.out | apply below_alloc | apply pw_below_drewN | apply below_drew1 | refine below_set ?_ (IsS66.ge HI0.out) | refine below_set ?_ GE101.out) | exact HB.out));rintro e w25 ⟨rfl,hi,hb,hk⟩;refine ⟨_,rfl,?_⟩;have n0_ := aZ_ (KeepBut.blk hk (g' := gb101) (o := .cells #[.int .i64 0,.int .i64 0] 25 (0,0)) T2_ NB101_0.out (by simp));have n1_ := aZ_ (KeepBut.trans T13_ hk (.inl rfl));have n2_ := aZ_ (hb);have n3_ := aZ_ (hi);clear BK101;clear HK;clear HB;clear HI0;have BK101 := n0_;have HK := n1_;have HB := n2_;have HI0 := n3_;clear n0_ n1_ n2_ n3_;(try clear hb);(try clear hb2);(try clear hk);(try clear hi)) | ((with_reducible refine gate_callee (f := 58) rfl ?_);refine goesL_ (some 7) rfl rfl Try.func58 T17_ rfl #[.pointer (some ⟨g,0,none⟩),.int .i64 t102] rfl T3_ ?_;(with_reducible refine (spec_l2Draw.calls k g s0_0 t103 t104 t102 t105 t106 t107 t108 w0 _ ?side1 ?side2 A3.out).mono ?_);(case side1 => repeat (first | (with_reducible first | exact HI0.out | apply IsS66.alloc | apply IsS66.drewN | apply IsS66.drew | apply IsS66.set_1 | apply IsS66.set_2 | refine IsS66.far ?_ NB0_101.out _) | exact HI0.out));(case side2 => repeat (first | (with_reducible first | exact HB.out | apply below_alloc | apply pw_below_drewN | apply below_drew1 | refine below_set ?_ (IsS66.ge HI0.out) | refine below_set ?_ GE101.out) | exact HB.out));rintro e w26 ⟨rfl,hi,hb,hk⟩;refine ⟨_,rfl,?_⟩;have n0_ := aZ_ (KeepBut.blk hk (g' := gb101) (o := .cells #[.int .i64 0,.int .i64 0] 25 (0,0)) T2_ NB101_0.out (by simp));have n1_ := aZ_ (KeepBut.trans T13_ hk (.inl rfl));have n2_ := aZ_ (hb);have n3_ := aZ_ (hi);clear BK101;clear HK;clear HB;clear HI0;have BK101 := n0_;have HK := n1_;have HB := n2_;have HI0 := n3_;clear n0_ n1_ n2_ n3_;(try clear hb);(try clear hb2);(try clear hk);(try clear hi)) | ((with_reducible refine gate_dst (N := 3) rfl ?_);refine box_event ?hg (N := 3) ?hd (cs := #[.int .i64 0,.int .i64 0]) (t := 25) ?hr ?_;(case hd => rfl);(case hg => rfl);(case hr => first | (go_simp;done) | (go_simp;rfl));intro gb109 hg w27 hbox hb;have n0_ := aZ_ (IsS66.below T18_ hb);have n1_ := aZ_ (blk_below (g := gb101) (o := .cells #[.int .i64 0,.int .i64 0] 25 (0,0)) T2_ hb);have n2_ := aZ_ (KeepBut.trans T13_ (KeepBut.of_below hb g none) (.inl rfl));have n3_ := aZ_ (below_step T19_ hb);have n4_ := aZ_ (hbox);have n5_ := aZ_ ((T34_ : w.heap.size ≤ gb109));have n6_ := aZ_ ((Nat.le_trans HW0.out (T34_ : w.heap.size ≤ gb109) : w0.heap.size ≤ gb109));have n7_ := aZ_ ((T26_ : gb101 ≠ gb109));have n8_ := aZ_ ((T27_ : gb109 ≠ gb101));have n9_ := aZ_ ((T49_ : g ≠ gb109));have n10_ := aZ_ ((T50_ : gb109 ≠ g));clear HI0;clear BK101;clear HK;clear HB;have HI0 := n0_;have BK101 := n1_;have HK := n2_;have HB := n3_;have BK109 := n4_;have GW109 := n5_;have GE109 := n6_;have NB101_109 := n7_;have NB109_101 := n8_;have NB0_109 := n9_;have NB109_0 := n10_;clear n0_ n1_ n2_ n3_ n4_ n5_ n6_ n7_ n8_ n9_ n10_;clear hb hbox hg;have hnb28 := NB109_101.out;have hnc28 := NB101_109.out;have hnb29 := NB109_0.out;have hnc29 := NB0_109.out;have hcz30_0 : w27.cell? ⟨gb109,0,none⟩ = some (.int .i64 0) := (blk_cell BK109.out 0).trans rfl;have hcz30_1 : w27.cell? ⟨gb109,1,none⟩ = some (.int .i64 0) := (blk_cell BK109.out 1).trans rfl;have hfz30_0 := blk_frozen BK109.out 0;have hfz30_1 := blk_frozen BK109.out 1) | ((with_reducible refine gate_callee (f := 51) rfl ?_);refine goesL_ (some 9) rfl rfl Try.func51 T17_ rfl #[.pointer (some ⟨g,0,none⟩),.int .i64 14] rfl T3_ ?_;(with_reducible refine (spec_l1Below.calls g s0_0 t107 t108 14 t110 t111 t112 w0 _ ?side1 ?side2 A4.out).mono ?_);(case side1 => repeat (first | (with_reducible first | exact HI0.out | apply IsS66.alloc | apply IsS66.drewN | apply IsS66.drew | apply IsS66.set_1 | apply IsS66.set_2 | refine IsS66.far ?_ NB0_101.out _ | refine IsS66.far ?_ NB0_109.out _) | exact HI0.out));(case side2 => repeat (first | (with_reducible first | exact HB.out | apply below_alloc | apply pw_below_drewN | apply below_drew1 | refine below_set ?_ (IsS66.ge HI0.out) | refine below_set ?_ GE101.out | refine below_set ?_ GE109.out) | exact HB.out));rintro e w31 ⟨rfl,hi,hb,hk⟩;refine ⟨_,rfl,?_⟩;have n0_ := aZ_ (KeepBut.blk hk (g' := gb101) (o := .cells #[.int .i64 0,.int .i64 0] 25 (0,0)) T41_ NB101_0.out (by simp));have n1_ := aZ_ (KeepBut.blk hk (g' := gb109) (o := .cells #[.int .i64 t105,.int .i64 t106] 25 (0,0)) T39_ NB109_0.out (by simp));have n2_ := aZ_ (KeepBut.trans T33_ hk (.inl rfl));have n3_ := aZ_ (hb);have n4_ := aZ_ (hi);clear BK101;clear BK109;clear HK;clear HB;clear HI0;have BK101 := n0_;have BK109 := n1_;have HK := n2_;have HB := n3_;have HI0 := n4_;clear n0_ n1_ n2_ n3_ n4_;(try clear hb);(try clear hb2);(try clear hk);(try clear hi)) | ((with_reducible refine gate_dst (N := 19) rfl ?_);refine Kd.R_lit (Kd.int .i64) _ 3 ?hg (N := 19) ?hd (xs := ([(-1),0,1,65536,9223372036854775807] : List Int)) (inner := [.int .i64 (-1),.int .i64 0,.int .i64 1,.int .i64 65536,.int .i64 9223372036854775807]) (ok := fun _ => True) (okp := fun _ => True) ?hr ?hp (fun _ hk => hk) trivial (Below.refl _ _) (Nat.le_refl _) (by simp) ?_;(case hd => rfl);(case hg => rfl);(case hr => first | (go_simp;done) | (go_simp;rfl));(case hp => exact (Reps.one (show Kd.M (Kd.int .i64) _ _ _ (-1) [.int .i64 (-1)] from rfl) (Reps.one (show Kd.M (Kd.int .i64) _ _ _ 0 [.int .i64 0] from rfl) (Reps.one (show Kd.M (Kd.int .i64) _ _ _ 1 [.int .i64 1] from rfl) (Reps.one (show Kd.M (Kd.int .i64) _ _ _ 65536 [.int .i64 65536] from rfl) (Reps.one (show Kd.M (Kd.int .i64) _ _ _ 9223372036854775807 [.int .i64 9223372036854775807] from rfl) (Reps.none _ _)))))));intro v120 w32 ho33 hb hg_ hnew_;clear hg_ hnew_;(first | rw [← Ny119.out] at ho33 | (simp only [Int.reduceToNat] at ho33;rw [← Ny119.out] at ho33));have n0_ := aZ_ (Kd.R_lower ho33 (keep_size (w := w) (g := g) (row := none) T33_));have n1_ := aZ_ (IsS66.below T57_ hb);have n2_ := aZ_ (blk_below (g := gb101) (o := .cells #[.int .i64 0,.int .i64 0] 25 (0,0)) T2_ hb);have n3_ := aZ_ (blk_below (g := gb109) (o := .cells #[.int .i64 t105,.int .i64 t106] 25 (0,0)) T61_ hb);have n4_ := aZ_ (KeepBut.trans T33_ (KeepBut.of_below hb g none) (.inl rfl));have n5_ := aZ_ (below_step T60_ hb);clear HI0;clear BK101;clear BK109;clear HK;clear HB;have HO121 := n0_;have HI0 := n1_;have BK101 := n2_;have BK109 := n3_;have HK := n4_;have HB := n5_;clear n0_ n1_ n2_ n3_ n4_ n5_;clear hb ho33;obtain ⟨Ao34,co34,eo34⟩ := Kd.R_slice HO121.out;subst eo34) | ((with_reducible refine gate_callee (f := 60) rfl ?_);refine goesL_ (some 20) rfl rfl Try.func60 T17_ rfl #[.pointer (some ⟨g,0,none⟩),.slice Ao34 y119.length co34] rfl T3_ ?_;(with_reducible refine (spec_l1PickInt.calls g s0_0 t111 t112 _ _ y119 t122 t123 t124 w0 _ ?side1 ?side2 ?side3 ?side4 ?side5 A23.out).mono ?_);(case side1 => repeat (first | (with_reducible first | exact HI0.out | apply IsS66.alloc | apply IsS66.drewN | apply IsS66.drew | apply IsS66.set_1 | apply IsS66.set_2 | refine IsS66.far ?_ NB0_101.out _ | refine IsS66.far ?_ NB0_109.out _) | exact HI0.out));(case side2 => repeat (first | (with_reducible first | exact HB.out | apply below_alloc | apply pw_below_drewN | apply below_drew1 | refine below_set ?_ (IsS66.ge HI0.out) | refine below_set ?_ GE101.out | refine below_set ?_ GE109.out) | exact HB.out));(case side3 => repeat (first | exact (Kd.R_reads' HO121.out).2.2 | (with_reducible refine Kd.C_alloc ?_ _) | (with_reducible refine Kd.C_drewN ?_ _) | (with_reducible refine Kd.C_drew ?_)));(case side4 => exact (Kd.R_reads' HO121.out).2.1);(case side5 => exact far_slice (IsS66.own_ne HI0.out HO121.out T58_));rintro e w35 ⟨rfl,hi,hb,hk⟩;refine ⟨_,rfl,?_⟩;have n0_ := aZ_ (KeepBut.blk hk (g' := gb101) (o := .cells #[.int .i64 0,.int .i64 0] 25 (0,0)) T2_ NB101_0.out (by simp));have n1_ := aZ_ (KeepBut.blk hk (g' := gb109) (o := .cells #[.int .i64 t105,.int .i64 t106] 25 (0,0)) T61_ NB109_0.out (by simp));have n2_ := aZ_ (Kd.R_mono (Kd.R_keep (IsS66.apart (show IsS66 w0 _ g s0_0 t111 t112 from by repeat (first | (with_reducible first | exact HI0.out | apply IsS66.alloc | apply IsS66.drewN | apply IsS66.drew | apply IsS66.set_1 | apply IsS66.set_2 | refine IsS66.far ?_ NB0_101.out _ | refine IsS66.far ?_ NB0_109.out _) | exact HI0.out)) (by (with_reducible repeat (first | apply Kd.R_alloc | apply Kd.R_drewN | apply Kd.R_drew));exact HO121.out) T58_) hk (fun _ h => h.2)) (fun _ h => h.1));have n3_ := aZ_ (KeepBut.trans T33_ hk (.inl rfl));have n4_ := aZ_ (hb);have n5_ := aZ_ (hi);clear BK101;clear BK109;clear HO121;clear HK;clear HB;clear HI0;have BK101 := n0_;have BK109 := n1_;have HO121 := n2_;have HK := n3_;have HB := n4_;have HI0 := n5_;clear n0_ n1_ n2_ n3_ n4_ n5_;(try clear hb);(try clear hb2);(try clear hk);(try clear hi);have hcz36_0 : w35.cell? ⟨gb109,0,none⟩ = some (.int .i64 t105) := (blk_cell BK109.out 0).trans rfl;have hcz36_1 : w35.cell? ⟨gb109,1,none⟩ = some (.int .i64 t106) := (blk_cell BK109.out 1).trans rfl;have hfz36_0 := blk_frozen BK109.out 0;have hfz36_1 := blk_frozen BK109.out 1;have hnb37 := NB101_0.out;have hnc37 := NB0_101.out;have hcz38_0 : w35.cell? ⟨gb101,0,none⟩ = some (.int .i64 0) := (blk_cell BK101.out 0).trans rfl;have hcz38_1 : w35.cell? ⟨gb101,1,none⟩ = some (.int .i64 0) := (blk_cell BK101.out 1).trans rfl;have hfz38_0 := blk_frozen BK101.out 0;have hfz38_1 := blk_frozen BK101.out 1))
   refine bodyPost_ret (results_cell_row rfl _ _ gb101 25 #[.int .i64 t105,.int .i64 t122] (0,0) _ rfl (by (with_reducible repeat (first | refine blk_drewN ?_ _ | refine blk_drew ?_ | refine blk_alloc ?_ _));refine blk_put (cs := #[.int .i64 t105,.int .i64 0]) ?_ 1 _ rfl;(with_reducible repeat (first | refine blk_drewN ?_ _ | refine blk_drew ?_ | refine blk_alloc ?_ _));refine blk_put (cs := #[.int .i64 0,.int .i64 0]) ?_ 0 _ rfl;(with_reducible repeat (first | refine blk_drewN ?_ _ | refine blk_drew ?_ | refine blk_alloc ?_ _));refine blk_far ?_ NB101_109.out _;(with_reducible repeat (first | refine blk_drewN ?_ _ | refine blk_drew ?_ | refine blk_alloc ?_ _));exact BK101.out) Try.underlying25 rfl T17_) rfl ?_
   exact ⟨by first | rfl | (simp [errW_none,errW_some] <;> rfl) | (simp [*,errW_none,errW_some] <;> rfl),by repeat (first | (with_reducible first | exact HI0.out | apply IsS66.alloc | apply IsS66.drewN | apply IsS66.drew | apply IsS66.set_1 | apply IsS66.set_2 | refine IsS66.far ?_ NB0_101.out _ | refine IsS66.far ?_ NB0_109.out _) | exact HI0.out),by repeat (first | (with_reducible first | exact HB.out | apply below_alloc | apply pw_below_drewN | apply below_drew1 | refine below_set ?_ (IsS66.ge HI0.out) | refine below_set ?_ GE101.out | refine below_set ?_ GE109.out) | exact HB.out),by repeat (first | (with_reducible first | exact HK.out | apply KeepBut.set_ | apply keep_drewN | apply keep_drew | apply keep_alloc | refine keep_far ?_ GW101.out _ | refine keep_far ?_ GW109.out _) | exact HK.out)⟩
  ·rw [if_neg c22] at H
   have c22b0 : (t110 == 1) = false := beq_eq_false_iff_ne.mpr c22
   have c22b1 : (t110 != 1) = true := bne_iff_ne.mpr c22
   simp only [Option.some.injEq,Prod.mk.injEq] at H
   obtain ⟨rfl,rfl,rfl,rfl⟩ := H
   go_enter Try.func48,Try.ntmps48
   go_wp2_with (first | ((with_reducible refine gate_dst (N := 2) rfl ?_);refine box_event ?hg (N := 2) ?hd (cs := #[.int .i64 0,.int .i64 0]) (t := 25) ?hr ?_;(case hd => rfl);(case hg => rfl);(case hr => first | (go_simp;done) | (go_simp;rfl));intro gb101 hg w39 hbox hb;have n0_ := aZ_ (IsS66.below T24_ hb);have n1_ := aZ_ (KeepBut.trans T10_ (KeepBut.of_below hb g none) (.inl rfl));have n2_ := aZ_ (below_step T20_ hb);have n3_ := aZ_ (hbox);have n4_ := aZ_ ((T15_ : w.heap.size ≤ gb101));have n5_ := aZ_ ((Nat.le_trans HW0.out (T15_ : w.heap.size ≤ gb101) : w0.heap.size ≤ gb101));have n6_ := aZ_ ((T30_ : g ≠ gb101));have n7_ := aZ_ ((T31_ : gb101 ≠ g));clear HI0;clear HK;clear HB;have HI0 := n0_;have HK := n1_;have HB := n2_;have BK101 := n3_;have GW101 := n4_;have GE101 := n5_;have NB0_101 := n6_;have NB101_0 := n7_;clear n0_ n1_ n2_ n3_ n4_ n5_ n6_ n7_;clear hb hbox hg) | ((with_reducible refine gate_callee (f := 51) rfl ?_);refine goesL_ (some 6) rfl rfl Try.func51 T17_ rfl #[.pointer (some ⟨g,0,none⟩),.int .i64 5] rfl T3_ ?_;(with_reducible refine (spec_l1Below.calls g s0_0 s0_1 s0_2 5 t102 t103 t104 w0 _ ?side1 ?side2 A2.out).mono ?_);(case side1 => repeat (first | (with_reducible first | exact HI0.out | apply IsS66.alloc | apply IsS66.drewN | apply IsS66.drew | apply IsS66.set_1 | apply IsS66.set_2 | refine IsS66.far ?_ NB0_101.out _) | exact HI0.out));(case side2 => repeat (first | (with_reducible first | exact HB.out | apply below_alloc | apply pw_below_drewN | apply below_drew1 | refine below_set ?_ (IsS66.ge HI0.out) | refine below_set ?_ GE101.out) | exact HB.out));rintro e w40 ⟨rfl,hi,hb,hk⟩;refine ⟨_,rfl,?_⟩;have n0_ := aZ_ (KeepBut.blk hk (g' := gb101) (o := .cells #[.int .i64 0,.int .i64 0] 25 (0,0)) T2_ NB101_0.out (by simp));have n1_ := aZ_ (KeepBut.trans T13_ hk (.inl rfl));have n2_ := aZ_ (hb);have n3_ := aZ_ (hi);clear BK101;clear HK;clear HB;clear HI0;have BK101 := n0_;have HK := n1_;have HB := n2_;have HI0 := n3_;clear n0_ n1_ n2_ n3_;(try clear hb);(try clear hb2);(try clear hk);(try clear hi)) | ((with_reducible refine gate_callee (f := 58) rfl ?_);refine goesL_ (some 7) rfl rfl Try.func58 T17_ rfl #[.pointer (some ⟨g,0,none⟩),.int .i64 t102] rfl T3_ ?_;(with_reducible refine (spec_l2Draw.calls k g s0_0 t103 t104 t102 t105 t106 t107 t108 w0 _ ?side1 ?side2 A3.out).mono ?_);(case side1 => repeat (first | (with_reducible first | exact HI0.out | apply IsS66.alloc | apply IsS66.drewN | apply IsS66.drew | apply IsS66.set_1 | apply IsS66.set_2 | refine IsS66.far ?_ NB0_101.out _) | exact HI0.out));(case side2 => repeat (first | (with_reducible first | exact HB.out | apply below_alloc | apply pw_below_drewN | apply below_drew1 | refine below_set ?_ (IsS66.ge HI0.out) | refine below_set ?_ GE101.out) | exact HB.out));rintro e w41 ⟨rfl,hi,hb,hk⟩;refine ⟨_,rfl,?_⟩;have n0_ := aZ_ (KeepBut.blk hk (g' := gb101) (o := .cells #[.int .i64 0,.int .i64 0] 25 (0,0)) T2_ NB101_0.out (by simp));have n1_ := aZ_ (KeepBut.trans T13_ hk (.inl rfl));have n2_ := aZ_ (hb);have n3_ := aZ_ (hi);clear BK101;clear HK;clear HB;clear HI0;have BK101 := n0_;have HK := n1_;have HB := n2_;have HI0 := n3_;clear n0_ n1_ n2_ n3_;(try clear hb);(try clear hb2);(try clear hk);(try clear hi)) | ((with_reducible refine gate_dst (N := 3) rfl ?_);refine box_event ?hg (N := 3) ?hd (cs := #[.int .i64 0,.int .i64 0]) (t := 25) ?hr ?_;(case hd => rfl);(case hg => rfl);(case hr => first | (go_simp;done) | (go_simp;rfl));intro gb109 hg w42 hbox hb;have n0_ := aZ_ (IsS66.below T18_ hb);have n1_ := aZ_ (blk_below (g := gb101) (o := .cells #[.int .i64 0,.int .i64 0] 25 (0,0)) T2_ hb);have n2_ := aZ_ (KeepBut.trans T13_ (KeepBut.of_below hb g none) (.inl rfl));have n3_ := aZ_ (below_step T19_ hb);have n4_ := aZ_ (hbox);have n5_ := aZ_ ((T34_ : w.heap.size ≤ gb109));have n6_ := aZ_ ((Nat.le_trans HW0.out (T34_ : w.heap.size ≤ gb109) : w0.heap.size ≤ gb109));have n7_ := aZ_ ((T26_ : gb101 ≠ gb109));have n8_ := aZ_ ((T27_ : gb109 ≠ gb101));have n9_ := aZ_ ((T49_ : g ≠ gb109));have n10_ := aZ_ ((T50_ : gb109 ≠ g));clear HI0;clear BK101;clear HK;clear HB;have HI0 := n0_;have BK101 := n1_;have HK := n2_;have HB := n3_;have BK109 := n4_;have GW109 := n5_;have GE109 := n6_;have NB101_109 := n7_;have NB109_101 := n8_;have NB0_109 := n9_;have NB109_0 := n10_;clear n0_ n1_ n2_ n3_ n4_ n5_ n6_ n7_ n8_ n9_ n10_;clear hb hbox hg;have hnb43 := NB109_101.out;have hnc43 := NB101_109.out;have hnb44 := NB109_0.out;have hnc44 := NB0_109.out;have hcz45_0 : w42.cell? ⟨gb109,0,none⟩ = some (.int .i64 0) := (blk_cell BK109.out 0).trans rfl;have hcz45_1 : w42.cell? ⟨gb109,1,none⟩ = some (.int .i64 0) := (blk_cell BK109.out 1).trans rfl;have hfz45_0 := blk_frozen BK109.out 0;have hfz45_1 := blk_frozen BK109.out 1) | ((with_reducible refine gate_callee (f := 51) rfl ?_);refine goesL_ (some 9) rfl rfl Try.func51 T17_ rfl #[.pointer (some ⟨g,0,none⟩),.int .i64 14] rfl T3_ ?_;(with_reducible refine (spec_l1Below.calls g s0_0 t107 t108 14 t110 t111 t112 w0 _ ?side1 ?side2 A4.out).mono ?_);(case side1 => repeat (first | (with_reducible first | exact HI0.out | apply IsS66.alloc | apply IsS66.drewN | apply IsS66.drew | apply IsS66.set_1 | apply IsS66.set_2 | refine IsS66.far ?_ NB0_101.out _ | refine IsS66.far ?_ NB0_109.out _) | exact HI0.out));(case side2 => repeat (first | (with_reducible first | exact HB.out | apply below_alloc | apply pw_below_drewN | apply below_drew1 | refine below_set ?_ (IsS66.ge HI0.out) | refine below_set ?_ GE101.out | refine below_set ?_ GE109.out) | exact HB.out));rintro e w46 ⟨rfl,hi,hb,hk⟩;refine ⟨_,rfl,?_⟩;have n0_ := aZ_ (KeepBut.blk hk (g' := gb101) (o := .cells #[.int .i64 0,.int .i64 0] 25 (0,0)) T41_ NB101_0.out (by simp));have n1_ := aZ_ (KeepBut.blk hk (g' := gb109) (o := .cells #[.int .i64 t105,.int .i64 t106] 25 (0,0)) T39_ NB109_0.out (by simp));have n2_ := aZ_ (KeepBut.trans T33_ hk (.inl rfl));have n3_ := aZ_ (hb);have n4_ := aZ_ (hi);clear BK101;clear BK109;clear HK;clear HB;clear HI0;have BK101 := n0_;have BK109 := n1_;have HK := n2_;have HB := n3_;have HI0 := n4_;clear n0_ n1_ n2_ n3_ n4_;(try clear hb);(try clear hb2);(try clear hk);(try clear hi);have hcz47_0 : w46.cell? ⟨gb109,0,none⟩ = some (.int .i64 t105) := (blk_cell BK109.out 0).trans rfl;have hcz47_1 : w46.cell? ⟨gb109,1,none⟩ = some (.int .i64 t106) := (blk_cell BK109.out 1).trans rfl;have hfz47_0 := blk_frozen BK109.out 0;have hfz47_1 := blk_frozen BK109.out 1;have hnb48 := NB101_0.out;have hnc48 := NB0_101.out;have hcz49_0 : w46.cell? ⟨gb101,0,none⟩ = some (.int .i64 0) := (blk_cell BK101.out 0).trans rfl;have hcz49_1 : w46.cell? ⟨gb101,1,none⟩ = some (.int .i64 0) := (blk_cell BK101.out 1).trans rfl;have hfz49_0 := blk_frozen BK101.out 0;have hfz49_1 := blk_frozen BK101.out 1))
   refine bodyPost_ret (results_cell_row rfl _ _ gb101 25 #[.int .i64 t105,.int .i64 t106] (0,0) _ rfl (by (with_reducible repeat (first | refine blk_drewN ?_ _ | refine blk_drew ?_ | refine blk_alloc ?_ _));refine blk_put (cs := #[.int .i64 t105,.int .i64 0]) ?_ 1 _ rfl;(with_reducible repeat (first | refine blk_drewN ?_ _ | refine blk_drew ?_ | refine blk_alloc ?_ _));refine blk_put (cs := #[.int .i64 0,.int .i64 0]) ?_ 0 _ rfl;(with_reducible repeat (first | refine blk_drewN ?_ _ | refine blk_drew ?_ | refine blk_alloc ?_ _));exact BK101.out) Try.underlying25 rfl T17_) rfl ?_
   exact ⟨by first | rfl | (simp [errW_none,errW_some] <;> rfl) | (simp [*,errW_none,errW_some] <;> rfl),by repeat (first | (with_reducible first | exact HI0.out | apply IsS66.alloc | apply IsS66.drewN | apply IsS66.drew | apply IsS66.set_1 | apply IsS66.set_2 | refine IsS66.far ?_ NB0_101.out _ | refine IsS66.far ?_ NB0_109.out _) | exact HI0.out),by repeat (first | (with_reducible first | exact HB.out | apply below_alloc | apply pw_below_drewN | apply below_drew1 | refine below_set ?_ (IsS66.ge HI0.out) | refine below_set ?_ GE101.out | refine below_set ?_ GE109.out) | exact HB.out),by repeat (first | (with_reducible first | exact HK.out | apply KeepBut.set_ | apply keep_drewN | apply keep_drew | apply keep_alloc | refine keep_far ?_ GW101.out _ | refine keep_far ?_ GW109.out _) | exact HK.out)⟩
def spec_l1Once.f (s0_0 : List Int) (s0_1 : Int) (s0_2 : Int) (a1 : Int) : Option (Bool × Int × Int) := (spec_l1Below.f s0_0 s0_1 s0_2 a1).bind fun bt101 => (some ((bt101.1 == 0),bt101.2.1,bt101.2.2))
set_option maxHeartbeats 8000000 in
set_option maxRecDepth 100000 in
theorem spec_l1Once.calls (g : Nat) (s0_0 : List Int) (s0_1 : Int) (s0_2 : Int) (a1 : Int) (r1 : Bool) (r2 : Int) (r3 : Int) (w0 w : World) (hI : IsS66 w0 w g s0_0 s0_1 s0_2) (hB : Below w0.heap.size w0 w) (h : spec_l1Once.f s0_0 s0_1 s0_2 a1 = some (r1,r2,r3)) :
  Calls Try.prog 49 #[.pointer (some ⟨g,0,none⟩),.int .i64 a1] w fun e w' => e = .returned (.bool r1) ∧ IsS66 w0 w' g s0_0 r2 r3 ∧ Below w0.heap.size w0 w' ∧ KeepBut w w' g none := by
 have HI0 := aZ_ hI
 have HK := aZ_ (KeepBut.refl w g none)
 have HL := aZ_ hB.size
 clear hI
 have HW0 := aZ_ hB.size
 have HB := aZ_ hB
 clear hB
 have H : ((spec_l1Below.f s0_0 s0_1 s0_2 a1).bind fun bt101 => (some ((bt101.1 == 0),bt101.2.1,bt101.2.2))) = some (r1,r2,r3) := h
 clear h
 replace H := Option.bind_eq_some_iff.mp H
 obtain ⟨⟨t101,t102,t103⟩,A30,H⟩ := H
 replace H : (some ((t101 == 0),t102,t103)) = some (r1,r2,r3) := H
 have A3 := aZ_ A30
 clear A30
 simp only [Option.some.injEq,Prod.mk.injEq] at H
 obtain ⟨rfl,rfl,rfl⟩ := H
 go_enter Try.func49,Try.ntmps49
 go_wp2_with (first | ((with_reducible refine gate_callee (f := 51) rfl ?_);refine goesL_ (some 7) rfl rfl Try.func51 T17_ rfl #[.pointer (some ⟨g,0,none⟩),.int .i64 a1] rfl T3_ ?_;(with_reducible refine (spec_l1Below.calls g s0_0 s0_1 s0_2 a1 t101 t102 t103 w0 _ ?side1 ?side2 A3.out).mono ?_);(case side1 => repeat (first | (with_reducible first | exact HI0.out | apply IsS66.alloc | apply IsS66.drewN | apply IsS66.drew | apply IsS66.set_1 | apply IsS66.set_2) | exact HI0.out));(case side2 => repeat (first | (with_reducible first | exact HB.out | apply below_alloc | apply pw_below_drewN | apply below_drew1 | refine below_set ?_ (IsS66.ge HI0.out)) | exact HB.out));rintro e w4 ⟨rfl,hi,hb,hk⟩;refine ⟨_,rfl,?_⟩;have n0_ := aZ_ (KeepBut.trans T10_ hk (.inl rfl));have n1_ := aZ_ (hb);have n2_ := aZ_ (hi);clear HK;clear HB;clear HI0;have HK := n0_;have HB := n1_;have HI0 := n2_;clear n0_ n1_ n2_;(try clear hb);(try clear hb2);(try clear hk);(try clear hi)))
 go_ret
 exact ⟨by first | rfl | (simp [errW_none,errW_some] <;> rfl) | (simp [*,errW_none,errW_some] <;> rfl),by repeat (first | (with_reducible first | exact HI0.out | apply IsS66.alloc | apply IsS66.drewN | apply IsS66.drew | apply IsS66.set_1 | apply IsS66.set_2) | exact HI0.out),by repeat (first | (with_reducible first | exact HB.out | apply below_alloc | apply pw_below_drewN | apply below_drew1 | refine below_set ?_ (IsS66.ge HI0.out)) | exact HB.out),by repeat (first | (with_reducible first | exact HK.out | apply KeepBut.set_ | apply keep_drewN | apply keep_drew | apply keep_alloc) | exact HK.out)⟩
def spec_l2Two.j0 : Nat → Bool → List Int → Int → Int → Int → Int → Option (Int × Int × Int × Int)
 | 0,_,_,_,_,_,_ => none
 | k + 1,x16,x107000,x107001,x107002,x112000,x112001 => if x16 = true then ((spec_l2Draw.f k x107000 x107001 x107002 x112000).bind fun bt116 => (some (x112000,x112001,bt116.1,bt116.2.1))) else ((spec_l2Any.f k x107000 x107001 x107002).bind fun bt120 => (some (x112000,x112001,bt120.1,bt120.2.1)))
def spec_l2Two.f (k : Nat) (l0 : List Int) : Option (Int × Int × Int × Int) := (spec_l1New.f k l0).bind fun bt103 => ((spec_l2Any.f k bt103.1 bt103.2.1 bt103.2.2).bind fun bt107 => ((spec_IsTable.f bt107.1 bt107.2.1).bind fun t112 => (if t112 = true then ((spec_l1Once.f bt103.1 bt107.2.2.1 bt107.2.2.2 6).bind fun bt113 => (spec_l2Two.j0 k (!bt113.1) bt103.1 bt113.2.1 bt113.2.2 bt107.1 bt107.2.1)) else (spec_l2Two.j0 k false bt103.1 bt107.2.2.1 bt107.2.2.2 bt107.1 bt107.2.1))))
set_option maxHeartbeats 8000000 in
set_option maxRecDepth 100000 in
theorem spec_l2Two.calls (k : Nat) (A0 : Option Addr) (c0 : Nat) (l0 : List Int) (r1 : Int) (r2 : Int) (r3 : Int) (r4 : Int) (w : World) (hr0 : Kd.C (Kd.int .u8) w A0 l0.length l0) (hc0 : l0.length ≤ c0) (h : spec_l2Two.f k l0 = some (r1,r2,r3,r4)) :
  Calls Try.prog 36 #[.slice A0 l0.length c0] w fun e w' => e = .returned (.tuple #[.agg #[.int .i64 r1,.int .i64 r2],.agg #[.int .i64 r3,.int .i64 r4]]) ∧ Below w.heap.size w w' := by
 have hu25 := Try.underlying25
 have HR0 := aZ_ hr0
 have HC0 := aZ_ hc0
 clear hr0 hc0
 have HB := aZ_ (Below.refl w.heap.size w)
 have H : ((spec_l1New.f k l0).bind fun bt103 => ((spec_l2Any.f k bt103.1 bt103.2.1 bt103.2.2).bind fun bt107 => ((spec_IsTable.f bt107.1 bt107.2.1).bind fun t112 => (if t112 = true then ((spec_l1Once.f bt103.1 bt107.2.2.1 bt107.2.2.2 6).bind fun bt113 => (spec_l2Two.j0 k (!bt113.1) bt103.1 bt113.2.1 bt113.2.2 bt107.1 bt107.2.1)) else (spec_l2Two.j0 k false bt103.1 bt107.2.2.1 bt107.2.2.2 bt107.1 bt107.2.1))))) = some (r1,r2,r3,r4) := h
 clear h
 replace H := Option.bind_eq_some_iff.mp H
 obtain ⟨⟨t103,t104,t105⟩,A20,H⟩ := H
 replace H : ((spec_l2Any.f k t103 t104 t105).bind fun bt107 => ((spec_IsTable.f bt107.1 bt107.2.1).bind fun t112 => (if t112 = true then ((spec_l1Once.f t103 bt107.2.2.1 bt107.2.2.2 6).bind fun bt113 => (spec_l2Two.j0 k (!bt113.1) t103 bt113.2.1 bt113.2.2 bt107.1 bt107.2.1)) else (spec_l2Two.j0 k false t103 bt107.2.2.1 bt107.2.2.2 bt107.1 bt107.2.1)))) = some (r1,r2,r3,r4) := H
 have A2 := aZ_ A20
 clear A20
 replace H := Option.bind_eq_some_iff.mp H
 obtain ⟨⟨t107,t108,t109,t110⟩,A30,H⟩ := H
 replace H : ((spec_IsTable.f t107 t108).bind fun t112 => (if t112 = true then ((spec_l1Once.f t103 t109 t110 6).bind fun bt113 => (spec_l2Two.j0 k (!bt113.1) t103 bt113.2.1 bt113.2.2 t107 t108)) else (spec_l2Two.j0 k false t103 t109 t110 t107 t108))) = some (r1,r2,r3,r4) := H
 have A3 := aZ_ A30
 clear A30
 have HC4 := aZ_ H
 clear H
 go_enter Try.func36,Try.ntmps36
 go_upto_region 3 with (first | ((with_reducible refine gate_dst (N := 2) rfl ?_);refine box_event ?hg (N := 2) ?hd (cs := #[.int .i64 0,.int .i64 0]) (t := 25) ?hr ?_;(case hd => rfl);(case hg => rfl);(case hr => first | (go_simp;done) | (go_simp;rfl));intro gb101 hg w5 hbox hb;have n0_ := aZ_ (below_step T6_ hb);have n1_ := aZ_ (hbox);have n2_ := aZ_ ((T1_ : w.heap.size ≤ gb101));have n3_ := aZ_ ((T1_ : w.heap.size ≤ gb101));clear HB;have HB := n0_;have BK101 := n1_;have GW101 := n2_;have GE101 := n3_;clear n0_ n1_ n2_ n3_;clear hb hbox hg) | ((with_reducible refine gate_dst (N := 3) rfl ?_);refine box_event ?hg (N := 3) ?hd (cs := #[.int .i64 0,.int .i64 0]) (t := 25) ?hr ?_;(case hd => rfl);(case hg => rfl);(case hr => first | (go_simp;done) | (go_simp;rfl));intro gb102 hg w6 hbox hb;have n0_ := aZ_ (blk_below (g := gb101) (o := .cells #[.int .i64 0,.int .i64 0] 25 (0,0)) T2_ hb);have n1_ := aZ_ (below_step T5_ hb);have n2_ := aZ_ (hbox);have n3_ := aZ_ ((T4_ : w.heap.size ≤ gb102));have n4_ := aZ_ ((T4_ : w.heap.size ≤ gb102));have n5_ := aZ_ ((T26_ : gb101 ≠ gb102));have n6_ := aZ_ ((T27_ : gb102 ≠ gb101));clear BK101;clear HB;have BK101 := n0_;have HB := n1_;have BK102 := n2_;have GW102 := n3_;have GE102 := n4_;have NB101_102 := n5_;have NB102_101 := n6_;clear n0_ n1_ n2_ n3_ n4_ n5_ n6_;clear hb hbox hg) | ((with_reducible refine gate_callee (f := 47) rfl ?_);refine goesL_ (some 7) rfl rfl Try.func47 T17_ rfl #[.slice A0 l0.length c0] rfl T3_ ?_;(with_reducible refine (spec_l1New.calls k _ _ l0 t103 t104 t105 w _ ?side1 ?side2 ?side3 A2.out).mono ?_);(case side1 => repeat (first | (with_reducible first | exact HB.out | apply below_alloc | apply pw_below_drewN | apply below_drew1 | refine below_set ?_ GE101.out | refine below_set ?_ GE102.out) | exact HB.out));(case side2 => exact HR0.out);(case side3 => exact HC0.out);rintro e w7 ⟨g106,rfl,hi,hb,hb2⟩;refine ⟨_,rfl,?_⟩;have n0_ := aZ_ (blk_below (g := gb101) (o := .cells #[.int .i64 0,.int .i64 0] 25 (0,0)) T2_ hb2);have n1_ := aZ_ (blk_below (g := gb102) (o := .cells #[.int .i64 0,.int .i64 0] 25 (0,0)) T11_ hb2);have n2_ := aZ_ (hb);have n3_ := aZ_ (hi);have n4_ := aZ_ (IsS66.ne_blk hi (blk_below (g := gb101) (o := .cells #[.int .i64 0,.int .i64 0] 25 (0,0)) T2_ hb2) T58_);have n5_ := aZ_ (Ne.symm (IsS66.ne_blk hi (blk_below (g := gb101) (o := .cells #[.int .i64 0,.int .i64 0] 25 (0,0)) T2_ hb2) T58_));have n6_ := aZ_ (IsS66.ne_blk hi (blk_below (g := gb102) (o := .cells #[.int .i64 0,.int .i64 0] 25 (0,0)) T11_ hb2) T58_);have n7_ := aZ_ (Ne.symm (IsS66.ne_blk hi (blk_below (g := gb102) (o := .cells #[.int .i64 0,.int .i64 0] 25 (0,0)) T11_ hb2) T58_));clear BK101;clear BK102;clear HB;have BK101 := n0_;have BK102 := n1_;have HB := n2_;have HI106 := n3_;have NB106_101 := n4_;have NB101_106 := n5_;have NB106_102 := n6_;have NB102_106 := n7_;clear n0_ n1_ n2_ n3_ n4_ n5_ n6_ n7_;(try clear hb);(try clear hb2);(try clear hk);(try clear hi)) | ((with_reducible refine gate_callee (f := 48) rfl ?_);refine goesL_ (some 9) rfl rfl Try.func48 T17_ rfl #[.pointer (some ⟨g106,0,none⟩)] rfl T3_ ?_;(with_reducible refine (spec_l2Any.calls k g106 t103 t104 t105 t107 t108 t109 t110 w _ ?side1 ?side2 A3.out).mono ?_);(case side1 => repeat (first | (with_reducible first | exact HI106.out | apply IsS66.alloc | apply IsS66.drewN | apply IsS66.drew | apply IsS66.set_1 | apply IsS66.set_2 | refine IsS66.far ?_ NB106_101.out _ | refine IsS66.far ?_ NB106_102.out _) | exact HI106.out));(case side2 => repeat (first | (with_reducible first | exact HB.out | apply below_alloc | apply pw_below_drewN | apply below_drew1 | refine below_set ?_ (IsS66.ge HI106.out) | refine below_set ?_ GE101.out | refine below_set ?_ GE102.out) | exact HB.out));rintro e w8 ⟨rfl,hi,hb,hk⟩;refine ⟨_,rfl,?_⟩;have n0_ := aZ_ (KeepBut.blk hk (g' := gb101) (o := .cells #[.int .i64 0,.int .i64 0] 25 (0,0)) T2_ NB101_106.out (by simp));have n1_ := aZ_ (KeepBut.blk hk (g' := gb102) (o := .cells #[.int .i64 0,.int .i64 0] 25 (0,0)) T11_ NB102_106.out (by simp));have n2_ := aZ_ (hb);have n3_ := aZ_ (hi);clear BK101;clear BK102;clear HB;clear HI106;have BK101 := n0_;have BK102 := n1_;have HB := n2_;have HI106 := n3_;clear n0_ n1_ n2_ n3_;(try clear hb);(try clear hb2);(try clear hk);(try clear hi)) | ((with_reducible refine gate_dst (N := 5) rfl ?_);refine box_event ?hg (N := 5) ?hd (cs := #[.int .i64 0,.int .i64 0]) (t := 25) ?hr ?_;(case hd => rfl);(case hg => rfl);(case hr => first | (go_simp;done) | (go_simp;rfl));intro gb111 hg w9 hbox hb;have n0_ := aZ_ (blk_below (g := gb101) (o := .cells #[.int .i64 0,.int .i64 0] 25 (0,0)) T2_ hb);have n1_ := aZ_ (blk_below (g := gb102) (o := .cells #[.int .i64 0,.int .i64 0] 25 (0,0)) T11_ hb);have n2_ := aZ_ (IsS66.below (by repeat (first | (with_reducible first | exact HI106.out | apply IsS66.alloc | apply IsS66.drewN | apply IsS66.drew | apply IsS66.set_1 | apply IsS66.set_2 | refine IsS66.far ?_ NB106_101.out _ | refine IsS66.far ?_ NB106_102.out _) | exact HI106.out)) hb);have n3_ := aZ_ (below_step (by repeat (first | (with_reducible first | exact HB.out | apply below_alloc | apply pw_below_drewN | apply below_drew1 | refine below_set ?_ (IsS66.ge HI106.out) | refine below_set ?_ GE101.out | refine below_set ?_ GE102.out) | exact HB.out)) hb);have n4_ := aZ_ (hbox);have n5_ := aZ_ ((T55_ : w.heap.size ≤ gb111));have n6_ := aZ_ ((T55_ : w.heap.size ≤ gb111));have n7_ := aZ_ ((T26_ : gb101 ≠ gb111));have n8_ := aZ_ ((T27_ : gb111 ≠ gb101));have n9_ := aZ_ ((T42_ : gb102 ≠ gb111));have n10_ := aZ_ ((T43_ : gb111 ≠ gb102));have n11_ := aZ_ ((by rw [hg];exact Nat.ne_of_lt (IsS66.lt (show IsS66 w _ g106 t103 t109 t110 from by repeat (first | (with_reducible first | exact HI106.out | apply IsS66.alloc | apply IsS66.drewN | apply IsS66.drew | apply IsS66.set_1 | apply IsS66.set_2 | refine IsS66.far ?_ NB106_101.out _ | refine IsS66.far ?_ NB106_102.out _) | exact HI106.out))) : g106 ≠ gb111));have n12_ := aZ_ ((by rw [hg];exact Nat.ne_of_gt (IsS66.lt (show IsS66 w _ g106 t103 t109 t110 from by repeat (first | (with_reducible first | exact HI106.out | apply IsS66.alloc | apply IsS66.drewN | apply IsS66.drew | apply IsS66.set_1 | apply IsS66.set_2 | refine IsS66.far ?_ NB106_101.out _ | refine IsS66.far ?_ NB106_102.out _) | exact HI106.out))) : gb111 ≠ g106));clear BK101;clear BK102;clear HI106;clear HB;have BK101 := n0_;have BK102 := n1_;have HI106 := n2_;have HB := n3_;have BK111 := n4_;have GW111 := n5_;have GE111 := n6_;have NB101_111 := n7_;have NB111_101 := n8_;have NB102_111 := n9_;have NB111_102 := n10_;have NB106_111 := n11_;have NB111_106 := n12_;clear n0_ n1_ n2_ n3_ n4_ n5_ n6_ n7_ n8_ n9_ n10_ n11_ n12_;clear hb hbox hg;have hnb10 := NB111_101.out;have hnc10 := NB101_111.out;have hnb11 := NB111_102.out;have hnc11 := NB102_111.out;have hnb12 := NB111_106.out;have hnc12 := NB106_111.out;have hcz13_0 : w9.cell? ⟨gb111,0,none⟩ = some (.int .i64 0) := (blk_cell BK111.out 0).trans rfl;have hcz13_1 : w9.cell? ⟨gb111,1,none⟩ = some (.int .i64 0) := (blk_cell BK111.out 1).trans rfl;have hfz13_0 := blk_frozen BK111.out 0;have hfz13_1 := blk_frozen BK111.out 1))
 (try simp only [Act.put,List.setIfInBounds_toArray,List.set_cons_zero,List.set_cons_succ])
 go_cut [16] (fun v16 wc => ∃ (kq : Nat) (x16_3 : Bool) (x107001_3 : Int) (x107002_3 : Int),v16 = .bool x16_3 ∧ Aside0 (spec_l2Two.j0 kq x16_3 t103 x107001_3 x107002_3 t107 t108 = some (r1,r2,r3,r4)) ∧ Aside0 (kq ≤ k) ∧ Aside0 (wc.heap[gb101]? = some (.cells #[.int .i64 0,.int .i64 0] 25 (0,0))) ∧ Aside0 (wc.heap[gb102]? = some (.cells #[.int .i64 0,.int .i64 0] 25 (0,0))) ∧ Aside0 (wc.heap[gb111]? = some (.cells #[.int .i64 t107,.int .i64 t108] 25 (0,0))) ∧ Aside0 (IsS66 w wc g106 t103 x107001_3 x107002_3) ∧ Aside0 (Below w.heap.size w wc))
 case first =>
  have H := HC4.out
  clear HC4
  replace H := Option.bind_eq_some_iff.mp H
  obtain ⟨t112,A140,H⟩ := H
  replace H : (if t112 = true then ((spec_l1Once.f t103 t109 t110 6).bind fun bt113 => (spec_l2Two.j0 k (!bt113.1) t103 bt113.2.1 bt113.2.2 t107 t108)) else (spec_l2Two.j0 k false t103 t109 t110 t107 t108)) = some (r1,r2,r3,r4) := H
  have A14 := aZ_ A140
  clear A140
  by_cases c15 : t112 = true
  ·subst c15
   have H1 : ((spec_l1Once.f t103 t109 t110 6).bind fun bt113 => (spec_l2Two.j0 k (!bt113.1) t103 bt113.2.1 bt113.2.2 t107 t108)) = some (r1,r2,r3,r4) := by rw [if_pos rfl] at H;exact H
   clear H
   have H := H1
   clear H1
   replace H := Option.bind_eq_some_iff.mp H
   obtain ⟨⟨t113,t114,t115⟩,A160,H⟩ := H
   replace H : (spec_l2Two.j0 k (!t113) t103 t114 t115 t107 t108) = some (r1,r2,r3,r4) := H
   have A16 := aZ_ A160
   clear A160
   have H' := aZ_ H
   clear H
   have hnb17 := NB111_101.out
   have hnc17 := NB101_111.out
   have hnb18 := NB111_102.out
   have hnc18 := NB102_111.out
   have hnb19 := NB111_106.out
   have hnc19 := NB106_111.out
   have hcz20_0 : w9.cell? ⟨gb111,0,none⟩ = some (.int .i64 0) := (blk_cell BK111.out 0).trans rfl
   have hcz20_1 : w9.cell? ⟨gb111,1,none⟩ = some (.int .i64 0) := (blk_cell BK111.out 1).trans rfl
   have hfz20_0 := blk_frozen BK111.out 0
   have hfz20_1 := blk_frozen BK111.out 1
   go_wp2_with (first | ((with_reducible refine gate_callee (f := 18) rfl ?_);refine goesL_ (some 11) rfl rfl Try.func18 T17_ rfl #[.agg #[.int .i64 t107,.int .i64 t108]] rfl T3_ ?_;(with_reducible refine (spec_IsTable.calls t107 t108 true _ A14.out).mono ?_);rintro e w21 ⟨rfl,hb⟩;refine ⟨_,rfl,?_⟩;have n0_ := aZ_ (blk_below (g := gb101) (o := .cells #[.int .i64 0,.int .i64 0] 25 (0,0)) T52_ hb);have n1_ := aZ_ (blk_below (g := gb102) (o := .cells #[.int .i64 0,.int .i64 0] 25 (0,0)) T53_ hb);have n2_ := aZ_ (IsS66.below (show IsS66 w ((w9.setCell ⟨gb111,0,none⟩ (.int .i64 t107)).setCell ⟨gb111,1,none⟩ (.int .i64 t108)) g106 t103 t109 t110 from by repeat (first | (with_reducible first | exact HI106.out | apply IsS66.alloc | apply IsS66.drewN | apply IsS66.drew | apply IsS66.set_1 | apply IsS66.set_2 | refine IsS66.far ?_ NB106_101.out _ | refine IsS66.far ?_ NB106_102.out _ | refine IsS66.far ?_ NB106_111.out _) | exact HI106.out)) hb);have n3_ := aZ_ (blk_below (g := gb111) (o := .cells #[.int .i64 t107,.int .i64 t108] 25 (0,0)) T47_ hb);have n4_ := aZ_ (below_step T56_ hb);clear BK101;clear BK102;clear HI106;clear BK111;clear HB;have BK101 := n0_;have BK102 := n1_;have HI106 := n2_;have BK111 := n3_;have HB := n4_;clear n0_ n1_ n2_ n3_ n4_;(try clear hb);(try clear hb2);(try clear hk);(try clear hi)) | (go_at_call 49;(with_reducible refine (spec_l1Once.calls g106 t103 t109 t110 6 t113 t114 t115 w _ ?side1 ?side2 A16.out).mono ?_);(case side1 => repeat (first | (with_reducible first | exact HI106.out | apply IsS66.alloc | apply IsS66.drewN | apply IsS66.drew | apply IsS66.set_1 | apply IsS66.set_2 | refine IsS66.far ?_ NB106_101.out _ | refine IsS66.far ?_ NB106_102.out _ | refine IsS66.far ?_ NB106_111.out _) | exact HI106.out));(case side2 => repeat (first | (with_reducible first | exact HB.out | apply below_alloc | apply pw_below_drewN | apply below_drew1 | refine below_set ?_ (IsS66.ge HI106.out) | refine below_set ?_ GE101.out | refine below_set ?_ GE102.out | refine below_set ?_ GE111.out) | exact HB.out));rintro e w22 ⟨rfl,hi,hb,hk⟩;have n0_ := aZ_ (KeepBut.blk hk (g' := gb101) (o := .cells #[.int .i64 0,.int .i64 0] 25 (0,0)) T2_ NB101_106.out (by simp));have n1_ := aZ_ (KeepBut.blk hk (g' := gb102) (o := .cells #[.int .i64 0,.int .i64 0] 25 (0,0)) T11_ NB102_106.out (by simp));have n2_ := aZ_ (KeepBut.blk hk (g' := gb111) (o := .cells #[.int .i64 t107,.int .i64 t108] 25 (0,0)) T65_ NB111_106.out (by simp));have n3_ := aZ_ (hb);have n4_ := aZ_ (hi);clear BK101;clear BK102;clear BK111;clear HB;clear HI106;have BK101 := n0_;have BK102 := n1_;have BK111 := n2_;have HB := n3_;have HI106 := n4_;clear n0_ n1_ n2_ n3_ n4_;(try clear hb);(try clear hb2);(try clear hk);(try clear hi)))
   go_meet
   case rel => exact ⟨_,(!t113),(t114),(t115),T29_,H',⟨by first | omega | exact Nat.le_refl _⟩,⟨by (with_reducible repeat (first | refine blk_drewN ?_ _ | refine blk_drew ?_ | refine blk_alloc ?_ _));exact BK101.out⟩,⟨by (with_reducible repeat (first | refine blk_drewN ?_ _ | refine blk_drew ?_ | refine blk_alloc ?_ _));exact BK102.out⟩,⟨by (with_reducible repeat (first | refine blk_drewN ?_ _ | refine blk_drew ?_ | refine blk_alloc ?_ _));exact BK111.out⟩,⟨by repeat (first | (with_reducible first | exact HI106.out | apply IsS66.alloc | apply IsS66.drewN | apply IsS66.drew | apply IsS66.set_1 | apply IsS66.set_2 | refine IsS66.far ?_ NB106_101.out _ | refine IsS66.far ?_ NB106_102.out _ | refine IsS66.far ?_ NB106_111.out _) | exact HI106.out)⟩,⟨by repeat (first | (with_reducible first | exact HB.out | apply below_alloc | apply pw_below_drewN | apply below_drew1 | refine below_set ?_ (IsS66.ge HI106.out) | refine below_set ?_ GE101.out | refine below_set ?_ GE102.out | refine below_set ?_ GE111.out) | exact HB.out)⟩⟩
  ·replace c15 := Bool.eq_false_iff.mpr c15
   subst c15
   have H1 : (spec_l2Two.j0 k false t103 t109 t110 t107 t108) = some (r1,r2,r3,r4) := by rw [if_neg (show ¬ (false = true) by decide)] at H;exact H
   clear H
   have H := H1
   clear H1
   have H' := aZ_ H
   clear H
   have hnb23 := NB111_101.out
   have hnc23 := NB101_111.out
   have hnb24 := NB111_102.out
   have hnc24 := NB102_111.out
   have hnb25 := NB111_106.out
   have hnc25 := NB106_111.out
   have hcz26_0 : w9.cell? ⟨gb111,0,none⟩ = some (.int .i64 0) := (blk_cell BK111.out 0).trans rfl
   have hcz26_1 : w9.cell? ⟨gb111,1,none⟩ = some (.int .i64 0) := (blk_cell BK111.out 1).trans rfl
   have hfz26_0 := blk_frozen BK111.out 0
   have hfz26_1 := blk_frozen BK111.out 1
   go_wp2_with (first | ((with_reducible refine gate_callee (f := 18) rfl ?_);refine goesL_ (some 11) rfl rfl Try.func18 T17_ rfl #[.agg #[.int .i64 t107,.int .i64 t108]] rfl T3_ ?_;(with_reducible refine (spec_IsTable.calls t107 t108 false _ A14.out).mono ?_);rintro e w27 ⟨rfl,hb⟩;refine ⟨_,rfl,?_⟩;have n0_ := aZ_ (blk_below (g := gb101) (o := .cells #[.int .i64 0,.int .i64 0] 25 (0,0)) T52_ hb);have n1_ := aZ_ (blk_below (g := gb102) (o := .cells #[.int .i64 0,.int .i64 0] 25 (0,0)) T53_ hb);have n2_ := aZ_ (IsS66.below (show IsS66 w ((w9.setCell ⟨gb111,0,none⟩ (.int .i64 t107)).setCell ⟨gb111,1,none⟩ (.int .i64 t108)) g106 t103 t109 t110 from by repeat (first | (with_reducible first | exact HI106.out | apply IsS66.alloc | apply IsS66.drewN | apply IsS66.drew | apply IsS66.set_1 | apply IsS66.set_2 | refine IsS66.far ?_ NB106_101.out _ | refine IsS66.far ?_ NB106_102.out _ | refine IsS66.far ?_ NB106_111.out _) | exact HI106.out)) hb);have n3_ := aZ_ (blk_below (g := gb111) (o := .cells #[.int .i64 t107,.int .i64 t108] 25 (0,0)) T47_ hb);have n4_ := aZ_ (below_step T56_ hb);clear BK101;clear BK102;clear HI106;clear BK111;clear HB;have BK101 := n0_;have BK102 := n1_;have HI106 := n2_;have BK111 := n3_;have HB := n4_;clear n0_ n1_ n2_ n3_ n4_;(try clear hb);(try clear hb2);(try clear hk);(try clear hi)))
   go_meet
   case rel => exact ⟨_,(false),(t109),(t110),T29_,H',⟨by first | omega | exact Nat.le_refl _⟩,⟨by (with_reducible repeat (first | refine blk_drewN ?_ _ | refine blk_drew ?_ | refine blk_alloc ?_ _));exact BK101.out⟩,⟨by (with_reducible repeat (first | refine blk_drewN ?_ _ | refine blk_drew ?_ | refine blk_alloc ?_ _));exact BK102.out⟩,⟨by (with_reducible repeat (first | refine blk_drewN ?_ _ | refine blk_drew ?_ | refine blk_alloc ?_ _));exact BK111.out⟩,⟨by repeat (first | (with_reducible first | exact HI106.out | apply IsS66.alloc | apply IsS66.drewN | apply IsS66.drew | apply IsS66.set_1 | apply IsS66.set_2 | refine IsS66.far ?_ NB106_101.out _ | refine IsS66.far ?_ NB106_102.out _ | refine IsS66.far ?_ NB106_111.out _) | exact HI106.out)⟩,⟨by repeat (first | (with_reducible first | exact HB.out | apply below_alloc | apply pw_below_drewN | apply below_drew1 | refine below_set ?_ (IsS66.ge HI106.out) | refine below_set ?_ GE101.out | refine below_set ?_ GE102.out | refine below_set ?_ GE111.out) | exact HB.out)⟩⟩
 case rest =>
  clear HC4
  try clear c1
  try clear c2
  try clear p2
  try clear c3
  try clear c4
  try clear c10
  try clear c11
  try clear c12
  try clear c15
  try clear c17
  try clear c18
  try clear c19
  try clear c23
  try clear c24
  try clear c25
  try clear hcz13_0
  try clear hcz13_1
  try clear hcz20_0
  try clear hcz20_1
  try clear hcz26_0
  try clear hcz26_1
  try clear hfz13_0
  try clear hfz13_1
  try clear hfz20_0
  try clear hfz20_1
  try clear hfz26_0
  try clear hfz26_1
  obtain ⟨kq,x16_3,x107001_3,x107002_3,rfl,HA,HJ3,BK101,BK102,BK111,HI106,HB⟩ := hcut
  cases kq with
  | zero => exact absurd HA.out (by simp [spec_l2Two.j0])
  | succ kj3 =>
   have H := HA.out
   clear HA
   simp only [spec_l2Two.j0] at H
   by_cases c28 : x16_3 = true
   ·subst c28
    have H1 : ((spec_l2Draw.f kj3 t103 x107001_3 x107002_3 t107).bind fun bt116 => (some (t107,t108,bt116.1,bt116.2.1))) = some (r1,r2,r3,r4) := by rw [if_pos rfl] at H;exact H
    clear H
    have H := H1
    clear H1
    replace H := Option.bind_eq_some_iff.mp H
    obtain ⟨⟨t116,t117,t118,t119⟩,A290,H⟩ := H
    replace H : (some (t107,t108,t116,t117)) = some (r1,r2,r3,r4) := H
    have A29 := aZ_ A290
    clear A290
    simp only [Option.some.injEq,Prod.mk.injEq] at H
    obtain ⟨rfl,rfl,rfl,rfl⟩ := H
    try go_wp2
    have n0_ := aZ_ (blk_drew BK101.out)
    have n1_ := aZ_ (blk_drew BK102.out)
    have n2_ := aZ_ (blk_drew BK111.out)
    have n3_ := aZ_ (IsS66.drew HI106.out)
    have n4_ := aZ_ (below_drew1 HB.out)
    clear BK101
    clear BK102
    clear BK111
    clear HI106
    clear HB
    have BK101 := n0_
    have BK102 := n1_
    have BK111 := n2_
    have HI106 := n3_
    have HB := n4_
    clear n0_ n1_ n2_ n3_ n4_
    refine start_ (n := 7) (S := fun w' => w'.cell? ⟨gb111,0,none⟩ = some (.int .i64 t107) ∧ w'.cell? ⟨gb111,1,none⟩ = some (.int .i64 t108)) (ds := []) #[false,false,false,false,false,false,false] T17_ rfl rfl ⟨(blk_cell BK111.out 0).trans rfl,(blk_cell BK111.out 1).trans rfl⟩ (fun hHeld => ?_)
    generalize wc.drew = w30 at BK101 BK102 BK111 HI106 HB hHeld ⊢
    refine pZ_ 1 (some 18) #[false,true,false,false,false,false,false] ?_
    refine pZ_ 2 (some 19) #[false,true,true,false,false,false,false] ?_
    refine tZ2_ 0 (some 17) #[true,true,true,false,false,false,false] hHeld ?_
    refine tZ2_ 3 (some 20) #[true,true,true,true,false,false,false] hHeld ?_
    refine one_ (i := 4) (N := some 21) #[true,true,true,true,true,false,false] rfl rfl T17_ T58_ (fun K hK => ?_)
    refine gZ_ Try.func58 #[.pointer (some ⟨g106,0,none⟩),.int .i64 t107] ?_
    with_reducible refine (spec_l2Draw.calls kj3 g106 t103 x107001_3 x107002_3 t107 t116 t117 t118 t119 w _ ?side1 ?side2 A29.out).mono ?_
    (case side1 => repeat (first | (with_reducible first | exact HI106.out | apply IsS66.alloc | apply IsS66.drewN | apply IsS66.drew | apply IsS66.set_1 | apply IsS66.set_2 | refine IsS66.far ?_ NB106_101.out _ | refine IsS66.far ?_ NB106_102.out _ | refine IsS66.far ?_ NB106_111.out _) | exact HI106.out))
    (case side2 => repeat (first | (with_reducible first | exact HB.out | apply below_alloc | apply pw_below_drewN | apply below_drew1 | refine below_set ?_ (IsS66.ge HI106.out) | refine below_set ?_ GE101.out | refine below_set ?_ GE102.out | refine below_set ?_ GE111.out) | exact HB.out))
    rintro e w31 ⟨rfl,hi,hb,hk⟩
    refine ⟨_,rfl,?_⟩
    have n0_ := aZ_ (KeepBut.blk hk (g' := gb101) (o := .cells #[.int .i64 0,.int .i64 0] 25 (0,0)) T2_ NB101_106.out (by simp))
    have n1_ := aZ_ (KeepBut.blk hk (g' := gb102) (o := .cells #[.int .i64 0,.int .i64 0] 25 (0,0)) T11_ NB102_106.out (by simp))
    have n2_ := aZ_ (KeepBut.blk hk (g' := gb111) (o := .cells #[.int .i64 t107,.int .i64 t108] 25 (0,0)) T65_ NB111_106.out (by simp))
    have n3_ := aZ_ (hb)
    have n4_ := aZ_ (hi)
    clear BK101
    clear BK102
    clear BK111
    clear HB
    clear HI106
    have BK101 := n0_
    have BK102 := n1_
    have BK111 := n2_
    have HB := n3_
    have HI106 := n4_
    clear n0_ n1_ n2_ n3_ n4_
    (try clear hb)
    (try clear hb2)
    (try clear hk)
    (try clear hi)
    refine hK.out _ _ ⟨(blk_cell BK111.out 0).trans rfl,(blk_cell BK111.out 1).trans rfl⟩ (fun hHeld => ?_)
    clear hK K
    refine norm_ (a' := ?_) ?_ ?_
    rotate_left
    ·show Act.put _ (some 21) _ = _
     simp only [Act.put,List.setIfInBounds_toArray,List.set_cons_zero,List.set_cons_succ,i64_w,i32_w]
     rfl
    refine one_ (i := 5) (N := none) #[true,true,true,true,true,true,false] rfl rfl T17_ T58_ (fun K hK => ?_)
    have hs32 : w31.cell? ⟨gb101,0,none⟩ = some (.int .i64 0) := (blk_cell BK101.out 0).trans rfl
    have hfs32 := blk_frozen BK101.out 0
    have hns32_1 := NB102_101.out
    have hns32_2 := NB111_101.out
    have hms32_1 := NB101_102.out
    have hms32_2 := NB101_111.out
    have hs33 : w31.cell? ⟨gb101,1,none⟩ = some (.int .i64 0) := (blk_cell BK101.out 1).trans rfl
    have hfs33 := blk_frozen BK101.out 1
    have hns33_1 := NB102_101.out
    have hns33_2 := NB111_101.out
    have hms33_1 := NB101_102.out
    have hms33_2 := NB101_111.out
    refine skip_ (w1 := ?_) (by rfl) rfl ?_ ?_
    rotate_left
    ·go_simp
     rfl
    refine hK.out _ _ ⟨((cell_far (p := ⟨gb101,_,none⟩) NB111_101.out _).trans (((cell_far (p := ⟨gb101,_,none⟩) NB111_101.out _).trans (hHeld.1)))),((cell_far (p := ⟨gb101,_,none⟩) NB111_101.out _).trans (((cell_far (p := ⟨gb101,_,none⟩) NB111_101.out _).trans (hHeld.2))))⟩ (fun hHeld => ?_)
    clear hK K
    refine one_ (i := 6) (N := none) #[true,true,true,true,true,true,true] rfl rfl T17_ T58_ (fun K hK => ?_)
    have hs34 : w31.cell? ⟨gb102,0,none⟩ = some (.int .i64 0) := (blk_cell BK102.out 0).trans rfl
    have hfs34 := blk_frozen BK102.out 0
    have hns34_0 := NB101_102.out
    have hns34_2 := NB111_102.out
    have hms34_0 := NB102_101.out
    have hms34_2 := NB102_111.out
    have hs35 : w31.cell? ⟨gb102,1,none⟩ = some (.int .i64 0) := (blk_cell BK102.out 1).trans rfl
    have hfs35 := blk_frozen BK102.out 1
    have hns35_0 := NB101_102.out
    have hns35_2 := NB111_102.out
    have hms35_0 := NB102_101.out
    have hms35_2 := NB102_111.out
    refine skip_ (w1 := ?_) (by rfl) rfl ?_ ?_
    rotate_left
    ·go_simp
     rfl
    refine hK.out _ _ ⟨((cell_far (p := ⟨gb102,_,none⟩) NB111_102.out _).trans (((cell_far (p := ⟨gb102,_,none⟩) NB111_102.out _).trans (hHeld.1)))),((cell_far (p := ⟨gb102,_,none⟩) NB111_102.out _).trans (((cell_far (p := ⟨gb102,_,none⟩) NB111_102.out _).trans (hHeld.2))))⟩ (fun hHeld => ?_)
    clear hK K
    refine done_ T17_ ?_
    try go_wp2
    refine bodyPost_ret (results_cc rfl _ _ gb101 gb102 25 25 #[.int .i64 t107,.int .i64 t108] #[.int .i64 t116,.int .i64 t117] (0,0) (0,0) _ _ rfl T35_ Try.underlying25 rfl T17_ rfl (by (with_reducible repeat (first | refine blk_drewN ?_ _ | refine blk_drew ?_ | refine blk_alloc ?_ _));refine blk_put (cs := #[.int .i64 t116,.int .i64 0]) ?_ 1 _ rfl;(with_reducible repeat (first | refine blk_drewN ?_ _ | refine blk_drew ?_ | refine blk_alloc ?_ _));refine blk_put (cs := #[.int .i64 0,.int .i64 0]) ?_ 0 _ rfl;(with_reducible repeat (first | refine blk_drewN ?_ _ | refine blk_drew ?_ | refine blk_alloc ?_ _));refine blk_far ?_ NB102_101.out _;(with_reducible repeat (first | refine blk_drewN ?_ _ | refine blk_drew ?_ | refine blk_alloc ?_ _));refine blk_far ?_ NB102_101.out _;(with_reducible repeat (first | refine blk_drewN ?_ _ | refine blk_drew ?_ | refine blk_alloc ?_ _));exact BK102.out) Try.underlying25 rfl T17_) rfl ?_
    exact ⟨by first | rfl | (simp [errW_none,errW_some] <;> rfl) | (simp [*,errW_none,errW_some] <;> rfl),by repeat (first | (with_reducible first | exact HB.out | apply below_alloc | apply pw_below_drewN | apply below_drew1 | refine below_set ?_ (IsS66.ge HI106.out) | refine below_set ?_ GE101.out | refine below_set ?_ GE102.out | refine below_set ?_ GE111.out) | exact HB.out)⟩
   ·replace c28 := Bool.eq_false_iff.mpr c28
    subst c28
    have H1 : ((spec_l2Any.f kj3 t103 x107001_3 x107002_3).bind fun bt120 => (some (t107,t108,bt120.1,bt120.2.1))) = some (r1,r2,r3,r4) := by rw [if_neg (show ¬ (false = true) by decide)] at H;exact H
    clear H
    have H := H1
    clear H1
    replace H := Option.bind_eq_some_iff.mp H
    obtain ⟨⟨t120,t121,t122,t123⟩,A360,H⟩ := H
    replace H : (some (t107,t108,t120,t121)) = some (r1,r2,r3,r4) := H
    have A36 := aZ_ A360
    clear A360
    simp only [Option.some.injEq,Prod.mk.injEq] at H
    obtain ⟨rfl,rfl,rfl,rfl⟩ := H
    try go_wp2
    have n0_ := aZ_ (blk_drew BK101.out)
    have n1_ := aZ_ (blk_drew BK102.out)
    have n2_ := aZ_ (blk_drew BK111.out)
    have n3_ := aZ_ (IsS66.drew HI106.out)
    have n4_ := aZ_ (below_drew1 HB.out)
    clear BK101
    clear BK102
    clear BK111
    clear HI106
    clear HB
    have BK101 := n0_
    have BK102 := n1_
    have BK111 := n2_
    have HI106 := n3_
    have HB := n4_
    clear n0_ n1_ n2_ n3_ n4_
    refine start_ (n := 5) (S := fun w' => w'.cell? ⟨gb111,0,none⟩ = some (.int .i64 t107) ∧ w'.cell? ⟨gb111,1,none⟩ = some (.int .i64 t108)) (ds := []) #[false,false,false,false,false] T17_ rfl rfl ⟨(blk_cell BK111.out 0).trans rfl,(blk_cell BK111.out 1).trans rfl⟩ (fun hHeld => ?_)
    generalize wc.drew = w37 at BK101 BK102 BK111 HI106 HB hHeld ⊢
    refine pZ_ 1 (some 23) #[false,true,false,false,false] ?_
    refine tZ2_ 0 (some 22) #[true,true,false,false,false] hHeld ?_
    refine one_ (i := 2) (N := some 24) #[true,true,true,false,false] rfl rfl T17_ T58_ (fun K hK => ?_)
    refine gZ_ Try.func48 #[.pointer (some ⟨g106,0,none⟩)] ?_
    with_reducible refine (spec_l2Any.calls kj3 g106 t103 x107001_3 x107002_3 t120 t121 t122 t123 w _ ?side1 ?side2 A36.out).mono ?_
    (case side1 => repeat (first | (with_reducible first | exact HI106.out | apply IsS66.alloc | apply IsS66.drewN | apply IsS66.drew | apply IsS66.set_1 | apply IsS66.set_2 | refine IsS66.far ?_ NB106_101.out _ | refine IsS66.far ?_ NB106_102.out _ | refine IsS66.far ?_ NB106_111.out _) | exact HI106.out))
    (case side2 => repeat (first | (with_reducible first | exact HB.out | apply below_alloc | apply pw_below_drewN | apply below_drew1 | refine below_set ?_ (IsS66.ge HI106.out) | refine below_set ?_ GE101.out | refine below_set ?_ GE102.out | refine below_set ?_ GE111.out) | exact HB.out))
    rintro e w38 ⟨rfl,hi,hb,hk⟩
    refine ⟨_,rfl,?_⟩
    have n0_ := aZ_ (KeepBut.blk hk (g' := gb101) (o := .cells #[.int .i64 0,.int .i64 0] 25 (0,0)) T2_ NB101_106.out (by simp))
    have n1_ := aZ_ (KeepBut.blk hk (g' := gb102) (o := .cells #[.int .i64 0,.int .i64 0] 25 (0,0)) T11_ NB102_106.out (by simp))
    have n2_ := aZ_ (KeepBut.blk hk (g' := gb111) (o := .cells #[.int .i64 t107,.int .i64 t108] 25 (0,0)) T65_ NB111_106.out (by simp))
    have n3_ := aZ_ (hb)
    have n4_ := aZ_ (hi)
    clear BK101
    clear BK102
    clear BK111
    clear HB
    clear HI106
    have BK101 := n0_
    have BK102 := n1_
    have BK111 := n2_
    have HB := n3_
    have HI106 := n4_
    clear n0_ n1_ n2_ n3_ n4_
    (try clear hb)
    (try clear hb2)
    (try clear hk)
    (try clear hi)
    refine hK.out _ _ ⟨(blk_cell BK111.out 0).trans rfl,(blk_cell BK111.out 1).trans rfl⟩ (fun hHeld => ?_)
    clear hK K
    refine norm_ (a' := ?_) ?_ ?_
    rotate_left
    ·show Act.put _ (some 24) _ = _
     simp only [Act.put,List.setIfInBounds_toArray,List.set_cons_zero,List.set_cons_succ,i64_w,i32_w]
     rfl
    refine one_ (i := 3) (N := none) #[true,true,true,true,false] rfl rfl T17_ T58_ (fun K hK => ?_)
    have hs39 : w38.cell? ⟨gb101,0,none⟩ = some (.int .i64 0) := (blk_cell BK101.out 0).trans rfl
    have hfs39 := blk_frozen BK101.out 0
    have hns39_1 := NB102_101.out
    have hns39_2 := NB111_101.out
    have hms39_1 := NB101_102.out
    have hms39_2 := NB101_111.out
    have hs40 : w38.cell? ⟨gb101,1,none⟩ = some (.int .i64 0) := (blk_cell BK101.out 1).trans rfl
    have hfs40 := blk_frozen BK101.out 1
    have hns40_1 := NB102_101.out
    have hns40_2 := NB111_101.out
    have hms40_1 := NB101_102.out
    have hms40_2 := NB101_111.out
    refine skip_ (w1 := ?_) (by rfl) rfl ?_ ?_
    rotate_left
    ·go_simp
     rfl
    refine hK.out _ _ ⟨((cell_far (p := ⟨gb101,_,none⟩) NB111_101.out _).trans (((cell_far (p := ⟨gb101,_,none⟩) NB111_101.out _).trans (hHeld.1)))),((cell_far (p := ⟨gb101,_,none⟩) NB111_101.out _).trans (((cell_far (p := ⟨gb101,_,none⟩) NB111_101.out _).trans (hHeld.2))))⟩ (fun hHeld => ?_)
    clear hK K
    refine one_ (i := 4) (N := none) #[true,true,true,true,true] rfl rfl T17_ T58_ (fun K hK => ?_)
    have hs41 : w38.cell? ⟨gb102,0,none⟩ = some (.int .i64 0) := (blk_cell BK102.out 0).trans rfl
    have hfs41 := blk_frozen BK102.out 0
    have hns41_0 := NB101_102.out
    have hns41_2 := NB111_102.out
    have hms41_0 := NB102_101.out
    have hms41_2 := NB102_111.out
    have hs42 : w38.cell? ⟨gb102,1,none⟩ = some (.int .i64 0) := (blk_cell BK102.out 1).trans rfl
    have hfs42 := blk_frozen BK102.out 1
    have hns42_0 := NB101_102.out
    have hns42_2 := NB111_102.out
    have hms42_0 := NB102_101.out
    have hms42_2 := NB102_111.out
    refine skip_ (w1 := ?_) (by rfl) rfl ?_ ?_
    rotate_left
    ·go_simp
     rfl
    refine hK.out _ _ ⟨((cell_far (p := ⟨gb102,_,none⟩) NB111_102.out _).trans (((cell_far (p := ⟨gb102,_,none⟩) NB111_102.out _).trans (hHeld.1)))),((cell_far (p := ⟨gb102,_,none⟩) NB111_102.out _).trans (((cell_far (p := ⟨gb102,_,none⟩) NB111_102.out _).trans (hHeld.2))))⟩ (fun hHeld => ?_)
    clear hK K
    refine done_ T17_ ?_
    try go_wp2
    refine bodyPost_ret (results_cc rfl _ _ gb101 gb102 25 25 #[.int .i64 t107,.int .i64 t108] #[.int .i64 t120,.int .i64 t121] (0,0) (0,0) _ _ rfl T35_ Try.underlying25 rfl T17_ rfl (by (with_reducible repeat (first | refine blk_drewN ?_ _ | refine blk_drew ?_ | refine blk_alloc ?_ _));refine blk_put (cs := #[.int .i64 t120,.int .i64 0]) ?_ 1 _ rfl;(with_reducible repeat (first | refine blk_drewN ?_ _ | refine blk_drew ?_ | refine blk_alloc ?_ _));refine blk_put (cs := #[.int .i64 0,.int .i64 0]) ?_ 0 _ rfl;(with_reducible repeat (first | refine blk_drewN ?_ _ | refine blk_drew ?_ | refine blk_alloc ?_ _));refine blk_far ?_ NB102_101.out _;(with_reducible repeat (first | refine blk_drewN ?_ _ | refine blk_drew ?_ | refine blk_alloc ?_ _));refine blk_far ?_ NB102_101.out _;(with_reducible repeat (first | refine blk_drewN ?_ _ | refine blk_drew ?_ | refine blk_alloc ?_ _));exact BK102.out) Try.underlying25 rfl T17_) rfl ?_
    exact ⟨by first | rfl | (simp [errW_none,errW_some] <;> rfl) | (simp [*,errW_none,errW_some] <;> rfl),by repeat (first | (with_reducible first | exact HB.out | apply below_alloc | apply pw_below_drewN | apply below_drew1 | refine below_set ?_ (IsS66.ge HI106.out) | refine below_set ?_ GE101.out | refine below_set ?_ GE102.out | refine below_set ?_ GE111.out) | exact HB.out)⟩
def spec_DrawAndTables.f (k : Nat) (l0 : List Int) : Option (Int × Int × Int × Int) := (spec_l2Two.f k l0).bind fun bt103 => (some (bt103.1,bt103.2.1,bt103.2.2.1,bt103.2.2.2))
set_option maxHeartbeats 8000000 in
set_option maxRecDepth 100000 in
theorem spec_DrawAndTables.calls (k : Nat) (A0 : Option Addr) (c0 : Nat) (l0 : List Int) (r1 : Int) (r2 : Int) (r3 : Int) (r4 : Int) (w : World) (hr0 : Kd.C (Kd.int .u8) w A0 l0.length l0) (hc0 : l0.length ≤ c0) (h : spec_DrawAndTables.f k l0 = some (r1,r2,r3,r4)) :
  Calls Try.prog 5 #[.slice A0 l0.length c0] w fun e w' => e = .returned (.tuple #[.agg #[.int .i64 r1,.int .i64 r2],.agg #[.int .i64 r3,.int .i64 r4]]) ∧ Below w.heap.size w w' := by
 have hu25 := Try.underlying25
 have HR0 := aZ_ hr0
 have HC0 := aZ_ hc0
 clear hr0 hc0
 have HB := aZ_ (Below.refl w.heap.size w)
 have H : ((spec_l2Two.f k l0).bind fun bt103 => (some (bt103.1,bt103.2.1,bt103.2.2.1,bt103.2.2.2))) = some (r1,r2,r3,r4) := h
 clear h
 replace H := Option.bind_eq_some_iff.mp H
 obtain ⟨⟨t103,t104,t105,t106⟩,A20,H⟩ := H
 replace H : (some (t103,t104,t105,t106)) = some (r1,r2,r3,r4) := H
 have A2 := aZ_ A20
 clear A20
 simp only [Option.some.injEq,Prod.mk.injEq] at H
 obtain ⟨rfl,rfl,rfl,rfl⟩ := H
 go_enter Try.func5,Try.ntmps5
 try go_wp2_with (first | ((with_reducible refine gate_dst (N := 2) rfl ?_);refine box_event ?hg (N := 2) ?hd (cs := #[.int .i64 0,.int .i64 0]) (t := 25) ?hr ?_;(case hd => rfl);(case hg => rfl);(case hr => first | (go_simp;done) | (go_simp;rfl));intro gb101 hg w3 hbox hb;have n0_ := aZ_ (below_step T6_ hb);have n1_ := aZ_ (hbox);have n2_ := aZ_ ((T1_ : w.heap.size ≤ gb101));have n3_ := aZ_ ((T1_ : w.heap.size ≤ gb101));clear HB;have HB := n0_;have BK101 := n1_;have GW101 := n2_;have GE101 := n3_;clear n0_ n1_ n2_ n3_;clear hb hbox hg) | ((with_reducible refine gate_dst (N := 3) rfl ?_);refine box_event ?hg (N := 3) ?hd (cs := #[.int .i64 0,.int .i64 0]) (t := 25) ?hr ?_;(case hd => rfl);(case hg => rfl);(case hr => first | (go_simp;done) | (go_simp;rfl));intro gb102 hg w4 hbox hb;have n0_ := aZ_ (blk_below (g := gb101) (o := .cells #[.int .i64 0,.int .i64 0] 25 (0,0)) T2_ hb);have n1_ := aZ_ (below_step T5_ hb);have n2_ := aZ_ (hbox);have n3_ := aZ_ ((T4_ : w.heap.size ≤ gb102));have n4_ := aZ_ ((T4_ : w.heap.size ≤ gb102));have n5_ := aZ_ ((T26_ : gb101 ≠ gb102));have n6_ := aZ_ ((T27_ : gb102 ≠ gb101));clear BK101;clear HB;have BK101 := n0_;have HB := n1_;have BK102 := n2_;have GW102 := n3_;have GE102 := n4_;have NB101_102 := n5_;have NB102_101 := n6_;clear n0_ n1_ n2_ n3_ n4_ n5_ n6_;clear hb hbox hg) | ((with_reducible refine gate_callee (f := 36) rfl ?_);refine goesL_ (some 8) rfl rfl Try.func36 T17_ rfl #[.slice A0 l0.length c0] rfl T3_ ?_;(with_reducible refine (spec_l2Two.calls k _ _ l0 t103 t104 t105 t106 _ ?side1 ?side2 A2.out).mono ?_);(case side1 => repeat (first | exact (Kd.C_below HR0.out HB.out) | (with_reducible refine Kd.C_alloc ?_ _) | (with_reducible refine Kd.C_drewN ?_ _) | (with_reducible refine Kd.C_drew ?_)));(case side2 => exact HC0.out);rintro e w5 ⟨rfl,hb⟩;refine ⟨_,rfl,?_⟩;have n0_ := aZ_ (blk_below (g := gb101) (o := .cells #[.int .i64 0,.int .i64 0] 25 (0,0)) T2_ hb);have n1_ := aZ_ (blk_below (g := gb102) (o := .cells #[.int .i64 0,.int .i64 0] 25 (0,0)) T11_ hb);have n2_ := aZ_ (below_step T9_ hb);clear BK101;clear BK102;clear HB;have BK101 := n0_;have BK102 := n1_;have HB := n2_;clear n0_ n1_ n2_;(try clear hb);(try clear hb2);(try clear hk);(try clear hi)) | ((with_reducible refine gate_dst (N := 4) rfl ?_);refine box_event ?hg (N := 4) ?hd (cs := #[.int .i64 0,.int .i64 0]) (t := 25) ?hr ?_;(case hd => rfl);(case hg => rfl);(case hr => first | (go_simp;done) | (go_simp;rfl));intro gb107 hg w6 hbox hb;have n0_ := aZ_ (blk_below (g := gb101) (o := .cells #[.int .i64 0,.int .i64 0] 25 (0,0)) T2_ hb);have n1_ := aZ_ (blk_below (g := gb102) (o := .cells #[.int .i64 0,.int .i64 0] 25 (0,0)) T11_ hb);have n2_ := aZ_ (below_step T9_ hb);have n3_ := aZ_ (hbox);have n4_ := aZ_ ((T12_ : w.heap.size ≤ gb107));have n5_ := aZ_ ((T12_ : w.heap.size ≤ gb107));have n6_ := aZ_ ((T26_ : gb101 ≠ gb107));have n7_ := aZ_ ((T27_ : gb107 ≠ gb101));have n8_ := aZ_ ((T42_ : gb102 ≠ gb107));have n9_ := aZ_ ((T43_ : gb107 ≠ gb102));clear BK101;clear BK102;clear HB;have BK101 := n0_;have BK102 := n1_;have HB := n2_;have BK107 := n3_;have GW107 := n4_;have GE107 := n5_;have NB101_107 := n6_;have NB107_101 := n7_;have NB102_107 := n8_;have NB107_102 := n9_;clear n0_ n1_ n2_ n3_ n4_ n5_ n6_ n7_ n8_ n9_;clear hb hbox hg) | ((with_reducible refine gate_dst (N := 5) rfl ?_);refine box_event ?hg (N := 5) ?hd (cs := #[.int .i64 0,.int .i64 0]) (t := 25) ?hr ?_;(case hd => rfl);(case hg => rfl);(case hr => first | (go_simp;done) | (go_simp;rfl));intro gb108 hg w7 hbox hb;have n0_ := aZ_ (blk_below (g := gb101) (o := .cells #[.int .i64 0,.int .i64 0] 25 (0,0)) T2_ hb);have n1_ := aZ_ (blk_below (g := gb102) (o := .cells #[.int .i64 0,.int .i64 0] 25 (0,0)) T11_ hb);have n2_ := aZ_ (blk_below (g := gb107) (o := .cells #[.int .i64 0,.int .i64 0] 25 (0,0)) T70_ hb);have n3_ := aZ_ (below_step T62_ hb);have n4_ := aZ_ (hbox);have n5_ := aZ_ ((T45_ : w.heap.size ≤ gb108));have n6_ := aZ_ ((T45_ : w.heap.size ≤ gb108));have n7_ := aZ_ ((T26_ : gb101 ≠ gb108));have n8_ := aZ_ ((T27_ : gb108 ≠ gb101));have n9_ := aZ_ ((T42_ : gb102 ≠ gb108));have n10_ := aZ_ ((T43_ : gb108 ≠ gb102));have n11_ := aZ_ ((T63_ : gb107 ≠ gb108));have n12_ := aZ_ ((T64_ : gb108 ≠ gb107));clear BK101;clear BK102;clear BK107;clear HB;have BK101 := n0_;have BK102 := n1_;have BK107 := n2_;have HB := n3_;have BK108 := n4_;have GW108 := n5_;have GE108 := n6_;have NB101_108 := n7_;have NB108_101 := n8_;have NB102_108 := n9_;have NB108_102 := n10_;have NB107_108 := n11_;have NB108_107 := n12_;clear n0_ n1_ n2_ n3_ n4_ n5_ n6_ n7_ n8_ n9_ n10_ n11_ n12_;clear hb hbox hg;have hnb8 := NB107_101.out;have hnc8 := NB101_107.out;have hnb9 := NB107_102.out;have hnc9 := NB102_107.out;have hnb10 := NB107_108.out;have hnc10 := NB108_107.out;have hcz11_0 : w7.cell? ⟨gb107,0,none⟩ = some (.int .i64 0) := (blk_cell BK107.out 0).trans rfl;have hcz11_1 : w7.cell? ⟨gb107,1,none⟩ = some (.int .i64 0) := (blk_cell BK107.out 1).trans rfl;have hfz11_0 := blk_frozen BK107.out 0;have hfz11_1 := blk_frozen BK107.out 1;have hnb12 := NB108_101.out;have hnc12 := NB101_108.out;have hnb13 := NB108_102.out;have hnc13 := NB102_108.out;have hcz14_0 : w7.cell? ⟨gb108,0,none⟩ = some (.int .i64 0) := (blk_cell BK108.out 0).trans rfl;have hcz14_1 : w7.cell? ⟨gb108,1,none⟩ = some (.int .i64 0) := (blk_cell BK108.out 1).trans rfl;have hfz14_0 := blk_frozen BK108.out 0;have hfz14_1 := blk_frozen BK108.out 1))
 have n0_ : Aside0 (((((w7.setCell ⟨gb107,0,none⟩ (.int .i64 t103)).setCell ⟨gb107,1,none⟩ (.int .i64 t104)).setCell ⟨gb108,0,none⟩ (.int .i64 t105)).setCell ⟨gb108,1,none⟩ (.int .i64 t106)).heap[gb101]? = some (.cells #[.int .i64 0,.int .i64 0] 25 (0,0))) := ⟨by (with_reducible repeat (first | refine blk_drewN ?_ _ | refine blk_drew ?_ | refine blk_alloc ?_ _));refine blk_far ?_ NB101_108.out _;(with_reducible repeat (first | refine blk_drewN ?_ _ | refine blk_drew ?_ | refine blk_alloc ?_ _));refine blk_far ?_ NB101_108.out _;(with_reducible repeat (first | refine blk_drewN ?_ _ | refine blk_drew ?_ | refine blk_alloc ?_ _));refine blk_far ?_ NB101_107.out _;(with_reducible repeat (first | refine blk_drewN ?_ _ | refine blk_drew ?_ | refine blk_alloc ?_ _));refine blk_far ?_ NB101_107.out _;(with_reducible repeat (first | refine blk_drewN ?_ _ | refine blk_drew ?_ | refine blk_alloc ?_ _));exact BK101.out⟩
 have n1_ : Aside0 (((((w7.setCell ⟨gb107,0,none⟩ (.int .i64 t103)).setCell ⟨gb107,1,none⟩ (.int .i64 t104)).setCell ⟨gb108,0,none⟩ (.int .i64 t105)).setCell ⟨gb108,1,none⟩ (.int .i64 t106)).heap[gb102]? = some (.cells #[.int .i64 0,.int .i64 0] 25 (0,0))) := ⟨by (with_reducible repeat (first | refine blk_drewN ?_ _ | refine blk_drew ?_ | refine blk_alloc ?_ _));refine blk_far ?_ NB102_108.out _;(with_reducible repeat (first | refine blk_drewN ?_ _ | refine blk_drew ?_ | refine blk_alloc ?_ _));refine blk_far ?_ NB102_108.out _;(with_reducible repeat (first | refine blk_drewN ?_ _ | refine blk_drew ?_ | refine blk_alloc ?_ _));refine blk_far ?_ NB102_107.out _;(with_reducible repeat (first | refine blk_drewN ?_ _ | refine blk_drew ?_ | refine blk_alloc ?_ _));refine blk_far ?_ NB102_107.out _;(with_reducible repeat (first | refine blk_drewN ?_ _ | refine blk_drew ?_ | refine blk_alloc ?_ _));exact BK102.out⟩
 have n2_ : Aside0 (((((w7.setCell ⟨gb107,0,none⟩ (.int .i64 t103)).setCell ⟨gb107,1,none⟩ (.int .i64 t104)).setCell ⟨gb108,0,none⟩ (.int .i64 t105)).setCell ⟨gb108,1,none⟩ (.int .i64 t106)).heap[gb107]? = some (.cells #[.int .i64 t103,.int .i64 t104] 25 (0,0))) := ⟨by (with_reducible repeat (first | refine blk_drewN ?_ _ | refine blk_drew ?_ | refine blk_alloc ?_ _));refine blk_far ?_ NB107_108.out _;(with_reducible repeat (first | refine blk_drewN ?_ _ | refine blk_drew ?_ | refine blk_alloc ?_ _));refine blk_far ?_ NB107_108.out _;(with_reducible repeat (first | refine blk_drewN ?_ _ | refine blk_drew ?_ | refine blk_alloc ?_ _));refine blk_put (cs := #[.int .i64 t103,.int .i64 0]) ?_ 1 _ rfl;(with_reducible repeat (first | refine blk_drewN ?_ _ | refine blk_drew ?_ | refine blk_alloc ?_ _));refine blk_put (cs := #[.int .i64 0,.int .i64 0]) ?_ 0 _ rfl;(with_reducible repeat (first | refine blk_drewN ?_ _ | refine blk_drew ?_ | refine blk_alloc ?_ _));exact BK107.out⟩
 have n3_ : Aside0 (((((w7.setCell ⟨gb107,0,none⟩ (.int .i64 t103)).setCell ⟨gb107,1,none⟩ (.int .i64 t104)).setCell ⟨gb108,0,none⟩ (.int .i64 t105)).setCell ⟨gb108,1,none⟩ (.int .i64 t106)).heap[gb108]? = some (.cells #[.int .i64 t105,.int .i64 t106] 25 (0,0))) := ⟨by (with_reducible repeat (first | refine blk_drewN ?_ _ | refine blk_drew ?_ | refine blk_alloc ?_ _));refine blk_put (cs := #[.int .i64 t105,.int .i64 0]) ?_ 1 _ rfl;(with_reducible repeat (first | refine blk_drewN ?_ _ | refine blk_drew ?_ | refine blk_alloc ?_ _));refine blk_put (cs := #[.int .i64 0,.int .i64 0]) ?_ 0 _ rfl;(with_reducible repeat (first | refine blk_drewN ?_ _ | refine blk_drew ?_ | refine blk_alloc ?_ _));refine blk_far ?_ NB108_107.out _;(with_reducible repeat (first | refine blk_drewN ?_ _ | refine blk_drew ?_ | refine blk_alloc ?_ _));refine blk_far ?_ NB108_107.out _;(with_reducible repeat (first | refine blk_drewN ?_ _ | refine blk_drew ?_ | refine blk_alloc ?_ _));exact BK108.out⟩
 have n4_ : Aside0 (Below w.heap.size w ((((w7.setCell ⟨gb107,0,none⟩ (.int .i64 t103)).setCell ⟨gb107,1,none⟩ (.int .i64 t104)).setCell ⟨gb108,0,none⟩ (.int .i64 t105)).setCell ⟨gb108,1,none⟩ (.int .i64 t106))) := ⟨by repeat (first | (with_reducible first | exact HB.out | apply below_alloc | apply pw_below_drewN | apply below_drew1 | refine below_set ?_ GE101.out | refine below_set ?_ GE102.out | refine below_set ?_ GE107.out | refine below_set ?_ GE108.out) | exact HB.out)⟩
 (try clear BK101)
 (try clear BK102)
 (try clear BK107)
 (try clear BK108)
 (try clear HB)
 generalize ((((w7.setCell ⟨gb107,0,none⟩ (.int .i64 t103)).setCell ⟨gb107,1,none⟩ (.int .i64 t104)).setCell ⟨gb108,0,none⟩ (.int .i64 t105)).setCell ⟨gb108,1,none⟩ (.int .i64 t106)) = w15 at n0_ n1_ n2_ n3_ n4_ ⊢
 have BK101 := n0_
 have BK102 := n1_
 have BK107 := n2_
 have BK108 := n3_
 have HB := n4_
 clear n0_ n1_ n2_ n3_ n4_
 have n0_ := aZ_ (blk_drew BK101.out)
 have n1_ := aZ_ (blk_drew BK102.out)
 have n2_ := aZ_ (blk_drew BK107.out)
 have n3_ := aZ_ (blk_drew BK108.out)
 have n4_ := aZ_ (below_drew1 HB.out)
 clear BK101
 clear BK102
 clear BK107
 clear BK108
 clear HB
 have BK101 := n0_
 have BK102 := n1_
 have BK107 := n2_
 have BK108 := n3_
 have HB := n4_
 clear n0_ n1_ n2_ n3_ n4_
 refine start_ (n := 4) (S := fun w' => w'.cell? ⟨gb107,0,none⟩ = some (.int .i64 t103) ∧ w'.cell? ⟨gb107,1,none⟩ = some (.int .i64 t104) ∧ w'.cell? ⟨gb108,0,none⟩ = some (.int .i64 t105) ∧ w'.cell? ⟨gb108,1,none⟩ = some (.int .i64 t106)) (ds := []) #[false,false,false,false] T17_ rfl rfl ⟨(blk_cell BK107.out 0).trans rfl,(blk_cell BK107.out 1).trans rfl,(blk_cell BK108.out 0).trans rfl,(blk_cell BK108.out 1).trans rfl⟩ (fun hHeld => ?_)
 generalize w15.drew = w16 at BK101 BK102 BK107 BK108 HB hHeld ⊢
 refine tZ4_ 0 (some 11) #[true,false,false,false] hHeld ?_
 refine tZ4_ 1 (some 12) #[true,true,false,false] hHeld ?_
 refine one_ (i := 2) (N := none) #[true,true,true,false] rfl rfl T17_ T58_ (fun K hK => ?_)
 have hs17 : w16.cell? ⟨gb101,0,none⟩ = some (.int .i64 0) := (blk_cell BK101.out 0).trans rfl
 have hfs17 := blk_frozen BK101.out 0
 have hns17_1 := NB102_101.out
 have hns17_2 := NB107_101.out
 have hns17_3 := NB108_101.out
 have hms17_1 := NB101_102.out
 have hms17_2 := NB101_107.out
 have hms17_3 := NB101_108.out
 have hs18 : w16.cell? ⟨gb101,1,none⟩ = some (.int .i64 0) := (blk_cell BK101.out 1).trans rfl
 have hfs18 := blk_frozen BK101.out 1
 have hns18_1 := NB102_101.out
 have hns18_2 := NB107_101.out
 have hns18_3 := NB108_101.out
 have hms18_1 := NB101_102.out
 have hms18_2 := NB101_107.out
 have hms18_3 := NB101_108.out
 refine skip_ (w1 := ?_) (by rfl) rfl ?_ ?_
 rotate_left
 ·go_simp
  rfl
 refine hK.out _ _ ⟨((cell_far (p := ⟨gb101,_,none⟩) NB107_101.out _).trans (((cell_far (p := ⟨gb101,_,none⟩) NB107_101.out _).trans (hHeld.1)))),((cell_far (p := ⟨gb101,_,none⟩) NB107_101.out _).trans (((cell_far (p := ⟨gb101,_,none⟩) NB107_101.out _).trans (hHeld.2.1)))),((cell_far (p := ⟨gb101,_,none⟩) NB108_101.out _).trans (((cell_far (p := ⟨gb101,_,none⟩) NB108_101.out _).trans (hHeld.2.2.1)))),((cell_far (p := ⟨gb101,_,none⟩) NB108_101.out _).trans (((cell_far (p := ⟨gb101,_,none⟩) NB108_101.out _).trans (hHeld.2.2.2))))⟩ (fun hHeld => ?_)
 clear hK K
 refine one_ (i := 3) (N := none) #[true,true,true,true] rfl rfl T17_ T58_ (fun K hK => ?_)
 have hs19 : w16.cell? ⟨gb102,0,none⟩ = some (.int .i64 0) := (blk_cell BK102.out 0).trans rfl
 have hfs19 := blk_frozen BK102.out 0
 have hns19_0 := NB101_102.out
 have hns19_2 := NB107_102.out
 have hns19_3 := NB108_102.out
 have hms19_0 := NB102_101.out
 have hms19_2 := NB102_107.out
 have hms19_3 := NB102_108.out
 have hs20 : w16.cell? ⟨gb102,1,none⟩ = some (.int .i64 0) := (blk_cell BK102.out 1).trans rfl
 have hfs20 := blk_frozen BK102.out 1
 have hns20_0 := NB101_102.out
 have hns20_2 := NB107_102.out
 have hns20_3 := NB108_102.out
 have hms20_0 := NB102_101.out
 have hms20_2 := NB102_107.out
 have hms20_3 := NB102_108.out
 refine skip_ (w1 := ?_) (by rfl) rfl ?_ ?_
 rotate_left
 ·go_simp
  rfl
 refine hK.out _ _ ⟨((cell_far (p := ⟨gb102,_,none⟩) NB107_102.out _).trans (((cell_far (p := ⟨gb102,_,none⟩) NB107_102.out _).trans (hHeld.1)))),((cell_far (p := ⟨gb102,_,none⟩) NB107_102.out _).trans (((cell_far (p := ⟨gb102,_,none⟩) NB107_102.out _).trans (hHeld.2.1)))),((cell_far (p := ⟨gb102,_,none⟩) NB108_102.out _).trans (((cell_far (p := ⟨gb102,_,none⟩) NB108_102.out _).trans (hHeld.2.2.1)))),((cell_far (p := ⟨gb102,_,none⟩) NB108_102.out _).trans (((cell_far (p := ⟨gb102,_,none⟩) NB108_102.out _).trans (hHeld.2.2.2))))⟩ (fun hHeld => ?_)
 clear hK K
 refine done_ T17_ ?_
 try go_wp2
 refine bodyPost_ret (results_cc rfl _ _ gb101 gb102 25 25 #[.int .i64 t103,.int .i64 t104] #[.int .i64 t105,.int .i64 t106] (0,0) (0,0) _ _ rfl T36_ Try.underlying25 rfl T17_ rfl T37_ Try.underlying25 rfl T17_) rfl ?_
 exact ⟨by first | rfl | (simp [errW_none,errW_some] <;> rfl) | (simp [*,errW_none,errW_some] <;> rfl),by repeat (first | (with_reducible first | exact HB.out | apply below_alloc | apply pw_below_drewN | apply below_drew1 | refine below_set ?_ GE101.out | refine below_set ?_ GE102.out | refine below_set ?_ GE107.out | refine below_set ?_ GE108.out) | exact HB.out)⟩
end Go.Proofs.Ytgojehaneegaeaa.F
