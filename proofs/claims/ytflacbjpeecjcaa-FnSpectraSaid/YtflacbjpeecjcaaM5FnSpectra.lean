/- Walks of Go functions and lemmas on what they compute, for the row of FnSpectra (a part of several): each call ends as the Lean function of its name tells; the conditions are those of each theorem. -/
import Derived.Test.YtflacbjpeecjcaaM1FnSpectra
import Derived.Test.YtflacbjpeecjcaaM2FnSpectra
import Derived.Test.YtflacbjpeecjcaaM3FnSpectra
import Derived.Test.YtflacbjpeecjcaaM4FnSpectra
namespace Go.Proofs.Ytflacbjpeecjcaa.F
open Go.RowKit Go.Proofs.YtflacbjpeecjcaaW.PrintWords Go.Proofs.YtflacbjpeecjcaaW.PrintLast Go.Proofs.YtflacbjpeecjcaaW.PrintMore
attribute [local go_sem] max2_int min2_int max_two min_two max_three min_three max_four min_four 
set_option linter.unusedVariables false
set_option linter.unusedSimpArgs false
mutual
def spec_l2Draw.l0 : Nat → Int → Int → Int → List Int → Int → Int → Option (Int × Int × Int × Int)
 | 0,_,_,_,_,_,_ => none
 | k + 1,x1,x5,x6,x1000,x1001,x1002 => if 0 ≤ x1 then (if x6 < (shl .i64 1 x1) then ((spec_l2Count.f k x6).bind fun t111 => (if (wrap64 (2 * t111)) > x1 then (if 0 ≤ x6 then (spec_l2Draw.l0 k x1 (Go.bits .or .i64 x5 (shl .i64 1 x6)) (wrap64 (x6 + 1)) x1000 x1001 x1002) else (none)) else (spec_l2Draw.l0 k x1 x5 (wrap64 (x6 + 1)) x1000 x1001 x1002))) else (if x1 = 0 then ((spec_l2Full.f x1).bind fun t112 => (some (x1,Go.bits .and .i64 (Go.bits .and .i64 x5 1) t112,x1001,x1002))) else ((spec_l2Full.f x1).bind fun t113 => (some (x1,Go.bits .and .i64 x5 t113,x1001,x1002))))) else (none)
def spec_l2Draw.l1 : Nat → Int → Int → Int → List Int → Int → Int → Option (Int × Int × Int × Int)
 | 0,_,_,_,_,_,_ => none
 | k + 1,x1,x5,x7,x1000,x1001,x1002 => if 0 ≤ x1 then (if x7 < (shl .i64 1 x1) then ((spec_l2Count.f k x7).bind fun t114 => (if (Int.tmod t114 2) = 1 then (if 0 ≤ x7 then (spec_l2Draw.l1 k x1 (Go.bits .or .i64 x5 (shl .i64 1 x7)) (wrap64 (x7 + 1)) x1000 x1001 x1002) else (none)) else (spec_l2Draw.l1 k x1 x5 (wrap64 (x7 + 1)) x1000 x1001 x1002))) else (if x1 = 0 then ((spec_l2Full.f x1).bind fun t115 => (some (x1,Go.bits .and .i64 (Go.bits .and .i64 x5 1) t115,x1001,x1002))) else ((spec_l2Full.f x1).bind fun t116 => (some (x1,Go.bits .and .i64 x5 t116,x1001,x1002))))) else (none)
def spec_l2Draw.l2 : Nat → Int → Int → Int → Int → List Int → Int → Int → Option (Int × Int × Int × Int)
 | 0,_,_,_,_,_,_,_ => none
 | k + 1,x1,x5,x8,x9,x1000,x1001,x1002 => if 0 ≤ x1 then (if x9 < (shl .i64 1 x1) then (if (Go.bits .and .i64 x9 x8) = x8 then (if 0 ≤ x9 then (spec_l2Draw.l2 k x1 (Go.bits .or .i64 x5 (shl .i64 1 x9)) x8 (wrap64 (x9 + 1)) x1000 x1001 x1002) else (none)) else (spec_l2Draw.l2 k x1 x5 x8 (wrap64 (x9 + 1)) x1000 x1001 x1002)) else (if x1 = 0 then ((spec_l2Full.f x1).bind fun t120 => (some (x1,Go.bits .and .i64 (Go.bits .and .i64 x5 1) t120,x1001,x1002))) else ((spec_l2Full.f x1).bind fun t121 => (some (x1,Go.bits .and .i64 x5 t121,x1001,x1002))))) else (none)
def spec_l2Draw.l3 : Nat → Int → Int → Int → List Int → Int → Int → Option (Int × Int × Int × Int)
 | 0,_,_,_,_,_,_ => none
 | k + 1,x1,x5,x10,x1000,x1001,x1002 => if 0 ≤ x1 then (if x10 < (shl .i64 1 x1) then ((spec_l1Below.f x1000 x1001 x1002 2).bind fun bt122 => (if 0 ≤ x10 then (spec_l2Draw.l3 k x1 (Go.bits .or .i64 x5 (shl .i64 bt122.1 x10)) (wrap64 (x10 + 1)) x1000 bt122.2.1 bt122.2.2) else (none))) else (if x1 = 0 then ((spec_l2Full.f x1).bind fun t125 => (some (x1,Go.bits .and .i64 (Go.bits .and .i64 x5 1) t125,x1001,x1002))) else ((spec_l2Full.f x1).bind fun t126 => (some (x1,Go.bits .and .i64 x5 t126,x1001,x1002))))) else (none)
end
def spec_l2Draw.f (k : Nat) (s0_0 : List Int) (s0_1 : Int) (s0_2 : Int) (a1 : Int) : Option (Int × Int × Int × Int) := (spec_l1Below.f s0_0 s0_1 s0_2 6).bind fun bt102 => (if bt102.1 = 0 then ((spec_l1Below.f s0_0 bt102.2.1 bt102.2.2 (mx 1 a1)).bind fun bt105 => ((spec_l2Variable.f k a1 bt105.1).bind fun t108 => (if a1 = 0 then ((spec_l2Full.f a1).bind fun t109 => (some (a1,Go.bits .and .i64 (Go.bits .and .i64 t108 1) t109,bt105.2.1,bt105.2.2))) else ((spec_l2Full.f a1).bind fun t110 => (some (a1,Go.bits .and .i64 t108 t110,bt105.2.1,bt105.2.2)))))) else (if bt102.1 = 1 then (spec_l2Draw.l0 k a1 0 0 s0_0 bt102.2.1 bt102.2.2) else (if bt102.1 = 2 then (spec_l2Draw.l1 k a1 0 0 s0_0 bt102.2.1 bt102.2.2) else (if bt102.1 = 3 then (if 0 ≤ a1 then ((spec_l1Below.f s0_0 bt102.2.1 bt102.2.2 (shl .i64 1 a1)).bind fun bt117 => (spec_l2Draw.l2 k a1 0 bt117.1 0 s0_0 bt117.2.1 bt117.2.2)) else (none)) else (spec_l2Draw.l3 k a1 0 0 s0_0 bt102.2.1 bt102.2.2)))))
set_option maxHeartbeats 8000000 in
set_option maxRecDepth 100000 in
theorem spec_l2Draw.calls (k : Nat) (g : Nat) (s0_0 : List Int) (s0_1 : Int) (s0_2 : Int) (a1 : Int) (r1 : Int) (r2 : Int) (r3 : Int) (r4 : Int) (w0 w : World) (hI : IsS58 w0 w g s0_0 s0_1 s0_2) (hB : Below w0.heap.size w0 w) (h : spec_l2Draw.f k s0_0 s0_1 s0_2 a1 = some (r1,r2,r3,r4)) :
  Calls Try.prog 56 #[.pointer (some ⟨g,0,none⟩),.int .i64 a1] w fun e w' => e = .returned (.agg #[.int .i64 r1,.int .i64 r2]) ∧ IsS58 w0 w' g s0_0 r3 r4 ∧ Below w0.heap.size w0 w' ∧ KeepBut w w' g none := by
 have hu25 := Try.underlying25
 have HI0 := aZ_ hI
 have HK := aZ_ (KeepBut.refl w g none)
 have HL := aZ_ hB.size
 clear hI
 have HW0 := aZ_ hB.size
 have HB := aZ_ hB
 clear hB
 have H : ((spec_l1Below.f s0_0 s0_1 s0_2 6).bind fun bt102 => (if bt102.1 = 0 then ((spec_l1Below.f s0_0 bt102.2.1 bt102.2.2 (mx 1 a1)).bind fun bt105 => ((spec_l2Variable.f k a1 bt105.1).bind fun t108 => (if a1 = 0 then ((spec_l2Full.f a1).bind fun t109 => (some (a1,Go.bits .and .i64 (Go.bits .and .i64 t108 1) t109,bt105.2.1,bt105.2.2))) else ((spec_l2Full.f a1).bind fun t110 => (some (a1,Go.bits .and .i64 t108 t110,bt105.2.1,bt105.2.2)))))) else (if bt102.1 = 1 then (spec_l2Draw.l0 k a1 0 0 s0_0 bt102.2.1 bt102.2.2) else (if bt102.1 = 2 then (spec_l2Draw.l1 k a1 0 0 s0_0 bt102.2.1 bt102.2.2) else (if bt102.1 = 3 then (if 0 ≤ a1 then ((spec_l1Below.f s0_0 bt102.2.1 bt102.2.2 (shl .i64 1 a1)).bind fun bt117 => (spec_l2Draw.l2 k a1 0 bt117.1 0 s0_0 bt117.2.1 bt117.2.2)) else (none)) else (spec_l2Draw.l3 k a1 0 0 s0_0 bt102.2.1 bt102.2.2)))))) = some (r1,r2,r3,r4) := h
 clear h
 replace H := Option.bind_eq_some_iff.mp H
 obtain ⟨⟨t102,t103,t104⟩,A30,H⟩ := H
 replace H : (if t102 = 0 then ((spec_l1Below.f s0_0 t103 t104 (mx 1 a1)).bind fun bt105 => ((spec_l2Variable.f k a1 bt105.1).bind fun t108 => (if a1 = 0 then ((spec_l2Full.f a1).bind fun t109 => (some (a1,Go.bits .and .i64 (Go.bits .and .i64 t108 1) t109,bt105.2.1,bt105.2.2))) else ((spec_l2Full.f a1).bind fun t110 => (some (a1,Go.bits .and .i64 t108 t110,bt105.2.1,bt105.2.2)))))) else (if t102 = 1 then (spec_l2Draw.l0 k a1 0 0 s0_0 t103 t104) else (if t102 = 2 then (spec_l2Draw.l1 k a1 0 0 s0_0 t103 t104) else (if t102 = 3 then (if 0 ≤ a1 then ((spec_l1Below.f s0_0 t103 t104 (shl .i64 1 a1)).bind fun bt117 => (spec_l2Draw.l2 k a1 0 bt117.1 0 s0_0 bt117.2.1 bt117.2.2)) else (none)) else (spec_l2Draw.l3 k a1 0 0 s0_0 t103 t104))))) = some (r1,r2,r3,r4) := H
 have A3 := aZ_ A30
 clear A30
 by_cases c4 : t102 = 0
 ·rw [if_pos c4] at H
  have c4b0 : (t102 == 0) = true := beq_iff_eq.mpr c4
  have c4b1 : (t102 != 0) = false := bne_eq_false_iff_eq.mpr c4
  clear c4
  obtain ⟨ji5,hji5⟩ : ∃ j_ : Int,(mx 1 a1) = j_ := ⟨_,rfl⟩
  replace H : ((spec_l1Below.f s0_0 t103 t104 (ji5)).bind fun bt105 => ((spec_l2Variable.f k a1 bt105.1).bind fun t108 => (if a1 = 0 then ((spec_l2Full.f a1).bind fun t109 => (some (a1,Go.bits .and .i64 (Go.bits .and .i64 t108 1) t109,bt105.2.1,bt105.2.2))) else ((spec_l2Full.f a1).bind fun t110 => (some (a1,Go.bits .and .i64 t108 t110,bt105.2.1,bt105.2.2)))))) = some (r1,r2,r3,r4) := by first | (rw [hji5] at H;exact H) | (simp only [hji5] at H ⊢;exact H)
  (try rw [hji5] at A3)
  (try (have hji5l : 1 ≤ ji5 := by (rw [← hji5];unfold mx;(repeat' split) <;> omega)))
  (try (have hji5m : 0 ≤ ji5 := by omega))
  have hji5_ : (if 1 < a1 then a1 else 1) = ji5 := hji5
  replace H := Option.bind_eq_some_iff.mp H
  obtain ⟨⟨t105,t106,t107⟩,A60,H⟩ := H
  replace H : ((spec_l2Variable.f k a1 t105).bind fun t108 => (if a1 = 0 then ((spec_l2Full.f a1).bind fun t109 => (some (a1,Go.bits .and .i64 (Go.bits .and .i64 t108 1) t109,t106,t107))) else ((spec_l2Full.f a1).bind fun t110 => (some (a1,Go.bits .and .i64 t108 t110,t106,t107))))) = some (r1,r2,r3,r4) := H
  have A6 := aZ_ A60
  clear A60
  replace H := Option.bind_eq_some_iff.mp H
  obtain ⟨t108,A70,H⟩ := H
  replace H : (if a1 = 0 then ((spec_l2Full.f a1).bind fun t109 => (some (a1,Go.bits .and .i64 (Go.bits .and .i64 t108 1) t109,t106,t107))) else ((spec_l2Full.f a1).bind fun t110 => (some (a1,Go.bits .and .i64 t108 t110,t106,t107)))) = some (r1,r2,r3,r4) := H
  have A7 := aZ_ A70
  clear A70
  by_cases c8 : a1 = 0
  ·rw [if_pos c8] at H
   have c8b0 : (a1 == 0) = true := beq_iff_eq.mpr c8
   have c8b1 : (a1 != 0) = false := bne_eq_false_iff_eq.mpr c8
   clear c8
   replace H := Option.bind_eq_some_iff.mp H
   obtain ⟨t109,A90,H⟩ := H
   replace H : (some (a1,Go.bits .and .i64 (Go.bits .and .i64 t108 1) t109,t106,t107)) = some (r1,r2,r3,r4) := H
   have A9 := aZ_ A90
   clear A90
   simp only [Option.some.injEq,Prod.mk.injEq] at H
   obtain ⟨rfl,rfl,rfl,rfl⟩ := H
   go_enter Try.func56,Try.ntmps56
   go_wp2_with (first | ((with_reducible refine gate_dst (N := 4) rfl ?_);refine box_event ?hg (N := 4) ?hd (cs := #[.int .i64 0,.int .i64 0]) (t := 25) ?hr ?_;(case hd => rfl);(case hg => rfl);(case hr => first | (go_simp;done) | (go_simp;rfl));intro gb101 hg w10 hbox hb;have n0_ := aZ_ (IsS58.below T19_ hb);have n1_ := aZ_ (KeepBut.trans T15_ (KeepBut.of_below hb g none) (.inl rfl));have n2_ := aZ_ (below_step T18_ hb);have n3_ := aZ_ (hbox);have n4_ := aZ_ ((T8_ : w.heap.size ≤ gb101));have n5_ := aZ_ ((Nat.le_trans HW0.out (T8_ : w.heap.size ≤ gb101) : w0.heap.size ≤ gb101));have n6_ := aZ_ ((T13_ : g ≠ gb101));have n7_ := aZ_ ((T14_ : gb101 ≠ g));clear HI0;clear HK;clear HB;have HI0 := n0_;have HK := n1_;have HB := n2_;have BK101 := n3_;have GW101 := n4_;have GE101 := n5_;have NB0_101 := n6_;have NB101_0 := n7_;clear n0_ n1_ n2_ n3_ n4_ n5_ n6_ n7_;clear hb hbox hg) | ((with_reducible refine gate_callee (f := 47) rfl ?_);refine goesL_ (some 12) rfl rfl Try.func47 T16_ rfl #[.pointer (some ⟨g,0,none⟩),.int .i64 6] rfl T3_ ?_;(with_reducible refine (spec_l1Below.calls g s0_0 s0_1 s0_2 6 t102 t103 t104 w0 _ ?side1 ?side2 A3.out).mono ?_);(case side1 => repeat (first | (with_reducible first | exact HI0.out | apply IsS58.alloc | apply IsS58.drewN | apply IsS58.drew | apply IsS58.set_1 | apply IsS58.set_2 | refine IsS58.far ?_ NB0_101.out _) | exact HI0.out));(case side2 => repeat (first | (with_reducible first | exact HB.out | apply below_alloc | apply pw_below_drewN | apply below_drew1 | refine below_set ?_ (IsS58.ge HI0.out) | refine below_set ?_ GE101.out) | exact HB.out));rintro e w11 ⟨rfl,hi,hb,hk⟩;refine ⟨_,rfl,?_⟩;have n0_ := aZ_ (KeepBut.blk hk (g' := gb101) (o := .cells #[.int .i64 0,.int .i64 0] 25 (0,0)) T2_ NB101_0.out T42_);have n1_ := aZ_ (KeepBut.trans T5_ hk (.inl rfl));have n2_ := aZ_ (hb);have n3_ := aZ_ (hi);clear BK101;clear HK;clear HB;clear HI0;have BK101 := n0_;have HK := n1_;have HB := n2_;have HI0 := n3_;clear n0_ n1_ n2_ n3_;(try clear hb);(try clear hb2);(try clear hk);(try clear hi)) | ((with_reducible refine gate_callee (f := 47) rfl ?_);refine goesL_ (some 31) rfl rfl Try.func47 T16_ rfl #[.pointer (some ⟨g,0,none⟩),.int .i64 ji5] rfl T47_ ?_;(with_reducible refine (spec_l1Below.calls g s0_0 t103 t104 ji5 t105 t106 t107 w0 _ ?side1 ?side2 A6.out).mono ?_);(case side1 => repeat (first | (with_reducible first | exact HI0.out | apply IsS58.alloc | apply IsS58.drewN | apply IsS58.drew | apply IsS58.set_1 | apply IsS58.set_2 | refine IsS58.far ?_ NB0_101.out _) | exact HI0.out));(case side2 => repeat (first | (with_reducible first | exact HB.out | apply below_alloc | apply pw_below_drewN | apply below_drew1 | refine below_set ?_ (IsS58.ge HI0.out) | refine below_set ?_ GE101.out) | exact HB.out));rintro e w12 ⟨rfl,hi,hb,hk⟩;refine ⟨_,rfl,?_⟩;have n0_ := aZ_ (KeepBut.blk hk (g' := gb101) (o := .cells #[.int .i64 0,.int .i64 0] 25 (0,0)) T2_ NB101_0.out T42_);have n1_ := aZ_ (KeepBut.trans T5_ hk (.inl rfl));have n2_ := aZ_ (hb);have n3_ := aZ_ (hi);clear BK101;clear HK;clear HB;clear HI0;have BK101 := n0_;have HK := n1_;have HB := n2_;have HI0 := n3_;clear n0_ n1_ n2_ n3_;(try clear hb);(try clear hb2);(try clear hk);(try clear hi)) | ((with_reducible refine gate_callee (f := 63) rfl ?_);refine goesL_ (some 32) rfl rfl Try.func63 T16_ rfl #[.int .i64 a1,.int .i64 t105] rfl T3_ ?_;(with_reducible refine (spec_l2Variable.calls k a1 t105 t108 _ A7.out).mono ?_);rintro e w' ⟨rfl,⟨nd,rfl⟩⟩;refine ⟨_,rfl,?_⟩;(try (rw [drewN_self w12];generalize hq_ : World.drewN w12 _ = w12;have n0_ : Aside0 (w12.heap[gb101]? = some (.cells #[.int .i64 0,.int .i64 0] 25 (0,0))) := ⟨by rw [← hq_];exact T2_⟩;have n1_ : Aside0 (IsS58 w0 w12 g s0_0 t106 t107) := ⟨by rw [← hq_];exact T11_⟩;have n2_ : Aside0 (KeepBut w w12 g none) := ⟨by rw [← hq_];exact T5_⟩;have n3_ : Aside0 (Below w0.heap.size w0 w12) := ⟨by rw [← hq_];exact T12_⟩;clear BK101 HI0 HK HB hq_;have BK101 := n0_;have HI0 := n1_;have HK := n2_;have HB := n3_;clear n0_ n1_ n2_ n3_))) | ((with_reducible refine gate_callee (f := 64) rfl ?_);refine goesL_ (some 94) rfl rfl Try.func64 T16_ rfl #[.int .i64 a1] rfl T3_ ?_;(with_reducible refine (spec_l2Full.calls a1 t109 _ A9.out).mono ?_);rintro e w' ⟨rfl,⟨nd,rfl⟩⟩;refine ⟨_,rfl,?_⟩;(try (rw [drewN_self w12];generalize hq_ : World.drewN w12 _ = w12;have n0_ : Aside0 (w12.heap[gb101]? = some (.cells #[.int .i64 0,.int .i64 0] 25 (0,0))) := ⟨by rw [← hq_];exact T2_⟩;have n1_ : Aside0 (IsS58 w0 w12 g s0_0 t106 t107) := ⟨by rw [← hq_];exact T11_⟩;have n2_ : Aside0 (KeepBut w w12 g none) := ⟨by rw [← hq_];exact T5_⟩;have n3_ : Aside0 (Below w0.heap.size w0 w12) := ⟨by rw [← hq_];exact T12_⟩;clear BK101 HI0 HK HB hq_;have BK101 := n0_;have HI0 := n1_;have HK := n2_;have HB := n3_;clear n0_ n1_ n2_ n3_));have hnb13 := NB101_0.out;have hnc13 := NB0_101.out;have hcz14_0 : w12.cell? ⟨gb101,0,none⟩ = some (.int .i64 0) := (blk_cell BK101.out 0).trans rfl;have hcz14_1 : w12.cell? ⟨gb101,1,none⟩ = some (.int .i64 0) := (blk_cell BK101.out 1).trans rfl;have hfz14_0 := blk_frozen BK101.out 0;have hfz14_1 := blk_frozen BK101.out 1))
   refine bodyPost_ret (results_cell_row rfl _ _ gb101 25 #[.int .i64 a1,.int .i64 (Go.bits .and .i64 (Go.bits .and .i64 t108 1) t109)] (0,0) _ rfl T9_ Try.underlying25 rfl T16_) rfl ?_
   exact ⟨by first | rfl | (simp [errW_none,errW_some] <;> rfl) | (simp only [← hji5];first | rfl | (simp [errW_none,errW_some] <;> rfl)) | (simp [*,errW_none,errW_some] <;> rfl),by repeat (first | (with_reducible first | exact HI0.out | apply IsS58.alloc | apply IsS58.drewN | apply IsS58.drew | apply IsS58.set_1 | apply IsS58.set_2 | refine IsS58.far ?_ NB0_101.out _) | exact HI0.out),by repeat (first | (with_reducible first | exact HB.out | apply below_alloc | apply pw_below_drewN | apply below_drew1 | refine below_set ?_ (IsS58.ge HI0.out) | refine below_set ?_ GE101.out) | exact HB.out),by repeat (first | (with_reducible first | exact HK.out | apply KeepBut.set_ | apply keep_drewN | apply keep_drew | apply keep_alloc | refine keep_far ?_ GW101.out _) | exact HK.out)⟩
  ·rw [if_neg c8] at H
   have c8b0 : (a1 == 0) = false := beq_eq_false_iff_ne.mpr c8
   have c8b1 : (a1 != 0) = true := bne_iff_ne.mpr c8
   replace H := Option.bind_eq_some_iff.mp H
   obtain ⟨t110,A150,H⟩ := H
   replace H : (some (a1,Go.bits .and .i64 t108 t110,t106,t107)) = some (r1,r2,r3,r4) := H
   have A15 := aZ_ A150
   clear A150
   simp only [Option.some.injEq,Prod.mk.injEq] at H
   obtain ⟨rfl,rfl,rfl,rfl⟩ := H
   go_enter Try.func56,Try.ntmps56
   go_wp2_with (first | ((with_reducible refine gate_dst (N := 4) rfl ?_);refine box_event ?hg (N := 4) ?hd (cs := #[.int .i64 0,.int .i64 0]) (t := 25) ?hr ?_;(case hd => rfl);(case hg => rfl);(case hr => first | (go_simp;done) | (go_simp;rfl));intro gb101 hg w16 hbox hb;have n0_ := aZ_ (IsS58.below T19_ hb);have n1_ := aZ_ (KeepBut.trans T15_ (KeepBut.of_below hb g none) (.inl rfl));have n2_ := aZ_ (below_step T18_ hb);have n3_ := aZ_ (hbox);have n4_ := aZ_ ((T8_ : w.heap.size ≤ gb101));have n5_ := aZ_ ((Nat.le_trans HW0.out (T8_ : w.heap.size ≤ gb101) : w0.heap.size ≤ gb101));have n6_ := aZ_ ((T13_ : g ≠ gb101));have n7_ := aZ_ ((T14_ : gb101 ≠ g));clear HI0;clear HK;clear HB;have HI0 := n0_;have HK := n1_;have HB := n2_;have BK101 := n3_;have GW101 := n4_;have GE101 := n5_;have NB0_101 := n6_;have NB101_0 := n7_;clear n0_ n1_ n2_ n3_ n4_ n5_ n6_ n7_;clear hb hbox hg) | ((with_reducible refine gate_callee (f := 47) rfl ?_);refine goesL_ (some 12) rfl rfl Try.func47 T16_ rfl #[.pointer (some ⟨g,0,none⟩),.int .i64 6] rfl T3_ ?_;(with_reducible refine (spec_l1Below.calls g s0_0 s0_1 s0_2 6 t102 t103 t104 w0 _ ?side1 ?side2 A3.out).mono ?_);(case side1 => repeat (first | (with_reducible first | exact HI0.out | apply IsS58.alloc | apply IsS58.drewN | apply IsS58.drew | apply IsS58.set_1 | apply IsS58.set_2 | refine IsS58.far ?_ NB0_101.out _) | exact HI0.out));(case side2 => repeat (first | (with_reducible first | exact HB.out | apply below_alloc | apply pw_below_drewN | apply below_drew1 | refine below_set ?_ (IsS58.ge HI0.out) | refine below_set ?_ GE101.out) | exact HB.out));rintro e w17 ⟨rfl,hi,hb,hk⟩;refine ⟨_,rfl,?_⟩;have n0_ := aZ_ (KeepBut.blk hk (g' := gb101) (o := .cells #[.int .i64 0,.int .i64 0] 25 (0,0)) T2_ NB101_0.out T42_);have n1_ := aZ_ (KeepBut.trans T5_ hk (.inl rfl));have n2_ := aZ_ (hb);have n3_ := aZ_ (hi);clear BK101;clear HK;clear HB;clear HI0;have BK101 := n0_;have HK := n1_;have HB := n2_;have HI0 := n3_;clear n0_ n1_ n2_ n3_;(try clear hb);(try clear hb2);(try clear hk);(try clear hi)) | ((with_reducible refine gate_callee (f := 47) rfl ?_);refine goesL_ (some 31) rfl rfl Try.func47 T16_ rfl #[.pointer (some ⟨g,0,none⟩),.int .i64 ji5] rfl T47_ ?_;(with_reducible refine (spec_l1Below.calls g s0_0 t103 t104 ji5 t105 t106 t107 w0 _ ?side1 ?side2 A6.out).mono ?_);(case side1 => repeat (first | (with_reducible first | exact HI0.out | apply IsS58.alloc | apply IsS58.drewN | apply IsS58.drew | apply IsS58.set_1 | apply IsS58.set_2 | refine IsS58.far ?_ NB0_101.out _) | exact HI0.out));(case side2 => repeat (first | (with_reducible first | exact HB.out | apply below_alloc | apply pw_below_drewN | apply below_drew1 | refine below_set ?_ (IsS58.ge HI0.out) | refine below_set ?_ GE101.out) | exact HB.out));rintro e w18 ⟨rfl,hi,hb,hk⟩;refine ⟨_,rfl,?_⟩;have n0_ := aZ_ (KeepBut.blk hk (g' := gb101) (o := .cells #[.int .i64 0,.int .i64 0] 25 (0,0)) T2_ NB101_0.out T42_);have n1_ := aZ_ (KeepBut.trans T5_ hk (.inl rfl));have n2_ := aZ_ (hb);have n3_ := aZ_ (hi);clear BK101;clear HK;clear HB;clear HI0;have BK101 := n0_;have HK := n1_;have HB := n2_;have HI0 := n3_;clear n0_ n1_ n2_ n3_;(try clear hb);(try clear hb2);(try clear hk);(try clear hi)) | ((with_reducible refine gate_callee (f := 63) rfl ?_);refine goesL_ (some 32) rfl rfl Try.func63 T16_ rfl #[.int .i64 a1,.int .i64 t105] rfl T3_ ?_;(with_reducible refine (spec_l2Variable.calls k a1 t105 t108 _ A7.out).mono ?_);rintro e w' ⟨rfl,⟨nd,rfl⟩⟩;refine ⟨_,rfl,?_⟩;(try (rw [drewN_self w18];generalize hq_ : World.drewN w18 _ = w18;have n0_ : Aside0 (w18.heap[gb101]? = some (.cells #[.int .i64 0,.int .i64 0] 25 (0,0))) := ⟨by rw [← hq_];exact T2_⟩;have n1_ : Aside0 (IsS58 w0 w18 g s0_0 t106 t107) := ⟨by rw [← hq_];exact T11_⟩;have n2_ : Aside0 (KeepBut w w18 g none) := ⟨by rw [← hq_];exact T5_⟩;have n3_ : Aside0 (Below w0.heap.size w0 w18) := ⟨by rw [← hq_];exact T12_⟩;clear BK101 HI0 HK HB hq_;have BK101 := n0_;have HI0 := n1_;have HK := n2_;have HB := n3_;clear n0_ n1_ n2_ n3_))) | ((with_reducible refine gate_callee (f := 64) rfl ?_);refine goesL_ (some 94) rfl rfl Try.func64 T16_ rfl #[.int .i64 a1] rfl T3_ ?_;(with_reducible refine (spec_l2Full.calls a1 t110 _ A15.out).mono ?_);rintro e w' ⟨rfl,⟨nd,rfl⟩⟩;refine ⟨_,rfl,?_⟩;(try (rw [drewN_self w18];generalize hq_ : World.drewN w18 _ = w18;have n0_ : Aside0 (w18.heap[gb101]? = some (.cells #[.int .i64 0,.int .i64 0] 25 (0,0))) := ⟨by rw [← hq_];exact T2_⟩;have n1_ : Aside0 (IsS58 w0 w18 g s0_0 t106 t107) := ⟨by rw [← hq_];exact T11_⟩;have n2_ : Aside0 (KeepBut w w18 g none) := ⟨by rw [← hq_];exact T5_⟩;have n3_ : Aside0 (Below w0.heap.size w0 w18) := ⟨by rw [← hq_];exact T12_⟩;clear BK101 HI0 HK HB hq_;have BK101 := n0_;have HI0 := n1_;have HK := n2_;have HB := n3_;clear n0_ n1_ n2_ n3_));have hnb19 := NB101_0.out;have hnc19 := NB0_101.out;have hcz20_0 : w18.cell? ⟨gb101,0,none⟩ = some (.int .i64 0) := (blk_cell BK101.out 0).trans rfl;have hcz20_1 : w18.cell? ⟨gb101,1,none⟩ = some (.int .i64 0) := (blk_cell BK101.out 1).trans rfl;have hfz20_0 := blk_frozen BK101.out 0;have hfz20_1 := blk_frozen BK101.out 1))
   refine bodyPost_ret (results_cell_row rfl _ _ gb101 25 #[.int .i64 a1,.int .i64 (Go.bits .and .i64 t108 t110)] (0,0) _ rfl T9_ Try.underlying25 rfl T16_) rfl ?_
   exact ⟨by first | rfl | (simp [errW_none,errW_some] <;> rfl) | (simp only [← hji5];first | rfl | (simp [errW_none,errW_some] <;> rfl)) | (simp [*,errW_none,errW_some] <;> rfl),by repeat (first | (with_reducible first | exact HI0.out | apply IsS58.alloc | apply IsS58.drewN | apply IsS58.drew | apply IsS58.set_1 | apply IsS58.set_2 | refine IsS58.far ?_ NB0_101.out _) | exact HI0.out),by repeat (first | (with_reducible first | exact HB.out | apply below_alloc | apply pw_below_drewN | apply below_drew1 | refine below_set ?_ (IsS58.ge HI0.out) | refine below_set ?_ GE101.out) | exact HB.out),by repeat (first | (with_reducible first | exact HK.out | apply KeepBut.set_ | apply keep_drewN | apply keep_drew | apply keep_alloc | refine keep_far ?_ GW101.out _) | exact HK.out)⟩
 ·rw [if_neg c4] at H
  have c4b0 : (t102 == 0) = false := beq_eq_false_iff_ne.mpr c4
  have c4b1 : (t102 != 0) = true := bne_iff_ne.mpr c4
  by_cases c21 : t102 = 1
  ·rw [if_pos c21] at H
   have c21b0 : (t102 == 1) = true := beq_iff_eq.mpr c21
   have c21b1 : (t102 != 1) = false := bne_eq_false_iff_eq.mpr c21
   clear c21
   have H' := aZ_ H
   clear H
   go_enter Try.func56,Try.ntmps56
   go_wp2_with (first | ((with_reducible refine gate_dst (N := 4) rfl ?_);refine box_event ?hg (N := 4) ?hd (cs := #[.int .i64 0,.int .i64 0]) (t := 25) ?hr ?_;(case hd => rfl);(case hg => rfl);(case hr => first | (go_simp;done) | (go_simp;rfl));intro gb101 hg w22 hbox hb;have n0_ := aZ_ (IsS58.below T19_ hb);have n1_ := aZ_ (KeepBut.trans T15_ (KeepBut.of_below hb g none) (.inl rfl));have n2_ := aZ_ (below_step T18_ hb);have n3_ := aZ_ (hbox);have n4_ := aZ_ ((T8_ : w.heap.size ≤ gb101));have n5_ := aZ_ ((Nat.le_trans HW0.out (T8_ : w.heap.size ≤ gb101) : w0.heap.size ≤ gb101));have n6_ := aZ_ ((T13_ : g ≠ gb101));have n7_ := aZ_ ((T14_ : gb101 ≠ g));clear HI0;clear HK;clear HB;have HI0 := n0_;have HK := n1_;have HB := n2_;have BK101 := n3_;have GW101 := n4_;have GE101 := n5_;have NB0_101 := n6_;have NB101_0 := n7_;clear n0_ n1_ n2_ n3_ n4_ n5_ n6_ n7_;clear hb hbox hg) | ((with_reducible refine gate_callee (f := 47) rfl ?_);refine goesL_ (some 12) rfl rfl Try.func47 T16_ rfl #[.pointer (some ⟨g,0,none⟩),.int .i64 6] rfl T3_ ?_;(with_reducible refine (spec_l1Below.calls g s0_0 s0_1 s0_2 6 t102 t103 t104 w0 _ ?side1 ?side2 A3.out).mono ?_);(case side1 => repeat (first | (with_reducible first | exact HI0.out | apply IsS58.alloc | apply IsS58.drewN | apply IsS58.drew | apply IsS58.set_1 | apply IsS58.set_2 | refine IsS58.far ?_ NB0_101.out _) | exact HI0.out));(case side2 => repeat (first | (with_reducible first | exact HB.out | apply below_alloc | apply pw_below_drewN | apply below_drew1 | refine below_set ?_ (IsS58.ge HI0.out) | refine below_set ?_ GE101.out) | exact HB.out));rintro e w23 ⟨rfl,hi,hb,hk⟩;refine ⟨_,rfl,?_⟩;have n0_ := aZ_ (KeepBut.blk hk (g' := gb101) (o := .cells #[.int .i64 0,.int .i64 0] 25 (0,0)) T2_ NB101_0.out T42_);have n1_ := aZ_ (KeepBut.trans T5_ hk (.inl rfl));have n2_ := aZ_ (hb);have n3_ := aZ_ (hi);clear BK101;clear HK;clear HB;clear HI0;have BK101 := n0_;have HK := n1_;have HB := n2_;have HI0 := n3_;clear n0_ n1_ n2_ n3_;(try clear hb);(try clear hb2);(try clear hk);(try clear hi)))
   go_loopg [5,6] k (fun kq v5 v6 w' => ∃ (x5_1 : Int) (x6_1 : Int),v5 = .int .i64 x5_1 ∧ v6 = .int .i64 x6_1 ∧ Aside0 (spec_l2Draw.l0 kq a1 x5_1 x6_1 s0_0 t103 t104 = some (r1,r2,r3,r4)) ∧ Aside0 (kq ≤ k) ∧ Aside0 (w'.heap[gb101]? = some (.cells #[.int .i64 0,.int .i64 0] 25 (0,0))) ∧ Aside0 (IsS58 w0 w' g s0_0 t103 t104) ∧ Aside0 (KeepBut w w' g none) ∧ Aside0 (Below w0.heap.size w0 w'))
   case atStart => exact ⟨(0),(0),T6_,T6_,H',⟨Nat.le_refl _⟩,⟨by (with_reducible repeat (first | refine blk_drewN ?_ _ | refine blk_drew ?_ | refine blk_alloc ?_ _));exact BK101.out⟩,⟨by repeat (first | (with_reducible first | exact HI0.out | apply IsS58.alloc | apply IsS58.drewN | apply IsS58.drew | apply IsS58.set_1 | apply IsS58.set_2 | refine IsS58.far ?_ NB0_101.out _) | exact HI0.out)⟩,⟨by repeat (first | (with_reducible first | exact HK.out | apply KeepBut.set_ | apply keep_drewN | apply keep_drew | apply keep_alloc | refine keep_far ?_ GW101.out _) | exact HK.out)⟩,⟨by repeat (first | (with_reducible first | exact HB.out | apply below_alloc | apply pw_below_drewN | apply below_drew1 | refine below_set ?_ (IsS58.ge HI0.out) | refine below_set ?_ GE101.out) | exact HB.out)⟩⟩
   case round =>
    clear H'
    try clear c1
    try clear c2
    try clear p2
    try clear c4
    try clear c4b0
    try clear c4b1
    try clear c5
    try clear c6
    try clear c8
    try clear c8b0
    try clear c8b1
    try clear c13
    try clear c19
    try clear c21
    try clear c21b0
    try clear c21b1
    try clear hcz14_0
    try clear hcz14_1
    try clear hcz20_0
    try clear hcz20_1
    try clear hfz14_0
    try clear hfz14_1
    try clear hfz20_0
    try clear hfz20_1
    obtain ⟨x5_1,x6_1,rfl,rfl,HA,HK1,BK101,HI0,HK,HB⟩ := hrel
    cases gk with
    | zero => exact absurd HA.out (by simp [spec_l2Draw.l0])
    | succ k1 =>
     have H := HA.out
     clear HA
     simp only [spec_l2Draw.l0] at H
     by_cases c24 : 0 ≤ a1
     ·rw [if_pos c24] at H
      have c24b0 := eq_true c24
      have c24b1 : decide (0 ≤ a1) = true := decide_eq_true c24
      clear c24
      obtain ⟨ji25,hji25⟩ : ∃ j_ : Int,(shl .i64 1 a1) = j_ := ⟨_,rfl⟩
      replace H : (if x6_1 < (ji25) then ((spec_l2Count.f k1 x6_1).bind fun t111 => (if (wrap64 (2 * t111)) > a1 then (if 0 ≤ x6_1 then (spec_l2Draw.l0 k1 a1 (Go.bits .or .i64 x5_1 (shl .i64 1 x6_1)) (wrap64 (x6_1 + 1)) s0_0 t103 t104) else (none)) else (spec_l2Draw.l0 k1 a1 x5_1 (wrap64 (x6_1 + 1)) s0_0 t103 t104))) else (if a1 = 0 then ((spec_l2Full.f a1).bind fun t112 => (some (a1,Go.bits .and .i64 (Go.bits .and .i64 x5_1 1) t112,t103,t104))) else ((spec_l2Full.f a1).bind fun t113 => (some (a1,Go.bits .and .i64 x5_1 t113,t103,t104))))) = some (r1,r2,r3,r4) := by first | (rw [hji25] at H;exact H) | (simp only [hji25] at H ⊢;exact H)
      have hji25_ : (IntKind.i64.wrap (1 * 2 ^ min a1.toNat 64)) = ji25 := hji25
      have hji25z : a1 ≤ 64 → (IntKind.i64.wrap (1 * 2 ^ a1.toNat)) = ji25 := shl_small hji25
      have hji25u : (IntKind.i64.wrap (2 ^ min a1.toNat 64)) = ji25 := by have h_ := hji25_;rw [Int.one_mul] at h_;exact h_
      have hji25v : a1 ≤ 64 → (IntKind.i64.wrap (2 ^ a1.toNat)) = ji25 := fun hle_ => by have h_ := hji25z hle_;rw [Int.one_mul] at h_;exact h_
      have hji25y : (wrap64 (1 * 2 ^ min a1.toNat 64)) = ji25 := (i64_w _).symm.trans hji25_
      have hji25x : a1 ≤ 64 → (wrap64 (1 * 2 ^ a1.toNat)) = ji25 := fun h_ => (i64_w _).symm.trans (hji25z h_)
      have hji25w : a1 ≤ 64 → (wrap64 (2 ^ a1.toNat)) = ji25 := fun h_ => by have q_ := hji25x h_;rw [Int.one_mul] at q_;exact q_
      have hji25t : (wrap64 (2 ^ min a1.toNat 64)) = ji25 := (i64_w _).symm.trans hji25u
      by_cases c26 : x6_1 < (ji25)
      ·rw [if_pos c26] at H
       have c26b0 : decide (x6_1 < (ji25)) = true := decide_eq_true c26
       clear c26
       replace H := Option.bind_eq_some_iff.mp H
       obtain ⟨t111,A270,H⟩ := H
       replace H : (if (wrap64 (2 * t111)) > a1 then (if 0 ≤ x6_1 then (spec_l2Draw.l0 k1 a1 (Go.bits .or .i64 x5_1 (shl .i64 1 x6_1)) (wrap64 (x6_1 + 1)) s0_0 t103 t104) else (none)) else (spec_l2Draw.l0 k1 a1 x5_1 (wrap64 (x6_1 + 1)) s0_0 t103 t104)) = some (r1,r2,r3,r4) := H
       have A27 := aZ_ A270
       clear A270
       by_cases c28 : (wrap64 (2 * t111)) > a1
       ·rw [if_pos c28] at H
        have c28b0 : decide (a1 < (wrap64 (2 * t111))) = true := decide_eq_true c28
        clear c28
        by_cases c29 : 0 ≤ x6_1
        ·rw [if_pos c29] at H
         have c29b0 := eq_true c29
         have c29b1 : decide (0 ≤ x6_1) = true := decide_eq_true c29
         clear c29
         obtain ⟨ji30,hji30⟩ : ∃ j_ : Int,(shl .i64 1 x6_1) = j_ := ⟨_,rfl⟩
         replace H : (spec_l2Draw.l0 k1 a1 (Go.bits .or .i64 x5_1 (ji30)) (wrap64 (x6_1 + 1)) s0_0 t103 t104) = some (r1,r2,r3,r4) := by first | (rw [hji30] at H;exact H) | (simp only [hji30] at H ⊢;exact H)
         (try rw [hji30] at A27)
         have hji30_ : (IntKind.i64.wrap (1 * 2 ^ min x6_1.toNat 64)) = ji30 := hji30
         have hji30z : x6_1 ≤ 64 → (IntKind.i64.wrap (1 * 2 ^ x6_1.toNat)) = ji30 := shl_small hji30
         have hji30u : (IntKind.i64.wrap (2 ^ min x6_1.toNat 64)) = ji30 := by have h_ := hji30_;rw [Int.one_mul] at h_;exact h_
         have hji30v : x6_1 ≤ 64 → (IntKind.i64.wrap (2 ^ x6_1.toNat)) = ji30 := fun hle_ => by have h_ := hji30z hle_;rw [Int.one_mul] at h_;exact h_
         have hji30y : (wrap64 (1 * 2 ^ min x6_1.toNat 64)) = ji30 := (i64_w _).symm.trans hji30_
         have hji30x : x6_1 ≤ 64 → (wrap64 (1 * 2 ^ x6_1.toNat)) = ji30 := fun h_ => (i64_w _).symm.trans (hji30z h_)
         have hji30w : x6_1 ≤ 64 → (wrap64 (2 ^ x6_1.toNat)) = ji30 := fun h_ => by have q_ := hji30x h_;rw [Int.one_mul] at q_;exact q_
         have hji30t : (wrap64 (2 ^ min x6_1.toNat 64)) = ji30 := (i64_w _).symm.trans hji30u
         have H' := aZ_ H
         clear H
         go_wp2_with (first | ((with_reducible refine gate_callee (f := 39) rfl ?_);refine goesL_ (some 42) rfl rfl Try.func39 T16_ rfl #[.int .i64 x6_1] rfl T3_ ?_;(with_reducible refine (spec_l2Count.calls k1 x6_1 t111 _ A27.out).mono ?_);rintro e w' ⟨rfl,⟨nd,rfl⟩⟩;refine ⟨_,rfl,?_⟩))
         go_roundg k1
         case measure => have := HK1.out;omega
         case rel => exact ⟨(Go.bits .or .i64 x5_1 (ji30)),(wrap64 (x6_1 + 1)),(by first | rfl | (simp;done) | (simp only [← hji30] <;> (first | rfl | simp)) | (simp [*];done)),T6_,H',⟨by have := HK1.out;omega⟩,⟨by (with_reducible repeat (first | refine blk_drewN ?_ _ | refine blk_drew ?_ | refine blk_alloc ?_ _));exact BK101.out⟩,⟨by repeat (first | (with_reducible first | exact HI0.out | apply IsS58.alloc | apply IsS58.drewN | apply IsS58.drew | apply IsS58.set_1 | apply IsS58.set_2 | refine IsS58.far ?_ NB0_101.out _) | exact HI0.out)⟩,⟨by repeat (first | (with_reducible first | exact HK.out | apply KeepBut.set_ | apply keep_drewN | apply keep_drew | apply keep_alloc | refine keep_far ?_ GW101.out _) | exact HK.out)⟩,⟨by repeat (first | (with_reducible first | exact HB.out | apply below_alloc | apply pw_below_drewN | apply below_drew1 | refine below_set ?_ (IsS58.ge HI0.out) | refine below_set ?_ GE101.out) | exact HB.out)⟩⟩
        ·rw [if_neg c29] at H
         exact absurd H T42_
       ·rw [if_neg c28] at H
        have c28b0 : decide (a1 < (wrap64 (2 * t111))) = false := decide_eq_false c28
        clear c28
        have H' := aZ_ H
        clear H
        go_wp2_with (first | ((with_reducible refine gate_callee (f := 39) rfl ?_);refine goesL_ (some 42) rfl rfl Try.func39 T16_ rfl #[.int .i64 x6_1] rfl T3_ ?_;(with_reducible refine (spec_l2Count.calls k1 x6_1 t111 _ A27.out).mono ?_);rintro e w' ⟨rfl,⟨nd,rfl⟩⟩;refine ⟨_,rfl,?_⟩))
        go_roundg k1
        case measure => have := HK1.out;omega
        case rel => exact ⟨(x5_1),(wrap64 (x6_1 + 1)),T6_,T6_,H',⟨by have := HK1.out;omega⟩,⟨by (with_reducible repeat (first | refine blk_drewN ?_ _ | refine blk_drew ?_ | refine blk_alloc ?_ _));exact BK101.out⟩,⟨by repeat (first | (with_reducible first | exact HI0.out | apply IsS58.alloc | apply IsS58.drewN | apply IsS58.drew | apply IsS58.set_1 | apply IsS58.set_2 | refine IsS58.far ?_ NB0_101.out _) | exact HI0.out)⟩,⟨by repeat (first | (with_reducible first | exact HK.out | apply KeepBut.set_ | apply keep_drewN | apply keep_drew | apply keep_alloc | refine keep_far ?_ GW101.out _) | exact HK.out)⟩,⟨by repeat (first | (with_reducible first | exact HB.out | apply below_alloc | apply pw_below_drewN | apply below_drew1 | refine below_set ?_ (IsS58.ge HI0.out) | refine below_set ?_ GE101.out) | exact HB.out)⟩⟩
      ·rw [if_neg c26] at H
       have c26b0 : decide (x6_1 < (ji25)) = false := decide_eq_false c26
       clear c26
       by_cases c31 : a1 = 0
       ·rw [if_pos c31] at H
        have c31b0 : (a1 == 0) = true := beq_iff_eq.mpr c31
        have c31b1 : (a1 != 0) = false := bne_eq_false_iff_eq.mpr c31
        have hz_ji25 : (wrap64 (2 ^ a1.toNat)) = ji25 := hji25w (by rw [c31];decide)
        clear c31
        replace H := Option.bind_eq_some_iff.mp H
        obtain ⟨t112,A320,H⟩ := H
        replace H : (some (a1,Go.bits .and .i64 (Go.bits .and .i64 x5_1 1) t112,t103,t104)) = some (r1,r2,r3,r4) := H
        have A32 := aZ_ A320
        clear A320
        simp only [Option.some.injEq,Prod.mk.injEq] at H
        obtain ⟨rfl,rfl,rfl,rfl⟩ := H
        go_wp2_with (first | ((with_reducible refine gate_callee (f := 64) rfl ?_);refine goesL_ (some 94) rfl rfl Try.func64 T16_ rfl #[.int .i64 a1] rfl T3_ ?_;(with_reducible refine (spec_l2Full.calls a1 t112 _ A32.out).mono ?_);rintro e w' ⟨rfl,⟨nd,rfl⟩⟩;refine ⟨_,rfl,?_⟩;(try (rw [drewN_self wr];generalize hq_ : World.drewN wr _ = wr;have n0_ : Aside0 (wr.heap[gb101]? = some (.cells #[.int .i64 0,.int .i64 0] 25 (0,0))) := ⟨by rw [← hq_];exact T2_⟩;have n1_ : Aside0 (IsS58 w0 wr g s0_0 t103 t104) := ⟨by rw [← hq_];exact T11_⟩;have n2_ : Aside0 (KeepBut w wr g none) := ⟨by rw [← hq_];exact T5_⟩;have n3_ : Aside0 (Below w0.heap.size w0 wr) := ⟨by rw [← hq_];exact T12_⟩;clear BK101 HI0 HK HB hq_;have BK101 := n0_;have HI0 := n1_;have HK := n2_;have HB := n3_;clear n0_ n1_ n2_ n3_));have hnb33 := NB101_0.out;have hnc33 := NB0_101.out;have hcz34_0 : wr.cell? ⟨gb101,0,none⟩ = some (.int .i64 0) := (blk_cell BK101.out 0).trans rfl;have hcz34_1 : wr.cell? ⟨gb101,1,none⟩ = some (.int .i64 0) := (blk_cell BK101.out 1).trans rfl;have hfz34_0 := blk_frozen BK101.out 0;have hfz34_1 := blk_frozen BK101.out 1))
        refine bodyPost_ret (results_cell_row rfl _ _ gb101 25 #[.int .i64 a1,.int .i64 (Go.bits .and .i64 (Go.bits .and .i64 x5_1 1) t112)] (0,0) _ rfl T9_ Try.underlying25 rfl T16_) rfl ?_
        exact ⟨by first | rfl | (simp [errW_none,errW_some] <;> rfl) | (simp only [← hji25];first | rfl | (simp [errW_none,errW_some] <;> rfl)) | (simp [*,errW_none,errW_some] <;> rfl),by repeat (first | (with_reducible first | exact HI0.out | apply IsS58.alloc | apply IsS58.drewN | apply IsS58.drew | apply IsS58.set_1 | apply IsS58.set_2 | refine IsS58.far ?_ NB0_101.out _) | exact HI0.out),by repeat (first | (with_reducible first | exact HB.out | apply below_alloc | apply pw_below_drewN | apply below_drew1 | refine below_set ?_ (IsS58.ge HI0.out) | refine below_set ?_ GE101.out) | exact HB.out),by repeat (first | (with_reducible first | exact HK.out | apply KeepBut.set_ | apply keep_drewN | apply keep_drew | apply keep_alloc | refine keep_far ?_ GW101.out _) | exact HK.out)⟩
       ·rw [if_neg c31] at H
        have c31b0 : (a1 == 0) = false := beq_eq_false_iff_ne.mpr c31
        have c31b1 : (a1 != 0) = true := bne_iff_ne.mpr c31
        replace H := Option.bind_eq_some_iff.mp H
        obtain ⟨t113,A350,H⟩ := H
        replace H : (some (a1,Go.bits .and .i64 x5_1 t113,t103,t104)) = some (r1,r2,r3,r4) := H
        have A35 := aZ_ A350
        clear A350
        simp only [Option.some.injEq,Prod.mk.injEq] at H
        obtain ⟨rfl,rfl,rfl,rfl⟩ := H
        go_wp2_with (first | ((with_reducible refine gate_callee (f := 64) rfl ?_);refine goesL_ (some 94) rfl rfl Try.func64 T16_ rfl #[.int .i64 a1] rfl T3_ ?_;(with_reducible refine (spec_l2Full.calls a1 t113 _ A35.out).mono ?_);rintro e w' ⟨rfl,⟨nd,rfl⟩⟩;refine ⟨_,rfl,?_⟩;(try (rw [drewN_self wr];generalize hq_ : World.drewN wr _ = wr;have n0_ : Aside0 (wr.heap[gb101]? = some (.cells #[.int .i64 0,.int .i64 0] 25 (0,0))) := ⟨by rw [← hq_];exact T2_⟩;have n1_ : Aside0 (IsS58 w0 wr g s0_0 t103 t104) := ⟨by rw [← hq_];exact T11_⟩;have n2_ : Aside0 (KeepBut w wr g none) := ⟨by rw [← hq_];exact T5_⟩;have n3_ : Aside0 (Below w0.heap.size w0 wr) := ⟨by rw [← hq_];exact T12_⟩;clear BK101 HI0 HK HB hq_;have BK101 := n0_;have HI0 := n1_;have HK := n2_;have HB := n3_;clear n0_ n1_ n2_ n3_));have hnb36 := NB101_0.out;have hnc36 := NB0_101.out;have hcz37_0 : wr.cell? ⟨gb101,0,none⟩ = some (.int .i64 0) := (blk_cell BK101.out 0).trans rfl;have hcz37_1 : wr.cell? ⟨gb101,1,none⟩ = some (.int .i64 0) := (blk_cell BK101.out 1).trans rfl;have hfz37_0 := blk_frozen BK101.out 0;have hfz37_1 := blk_frozen BK101.out 1))
        refine bodyPost_ret (results_cell_row rfl _ _ gb101 25 #[.int .i64 a1,.int .i64 (Go.bits .and .i64 x5_1 t113)] (0,0) _ rfl T9_ Try.underlying25 rfl T16_) rfl ?_
        exact ⟨by first | rfl | (simp [errW_none,errW_some] <;> rfl) | (simp only [← hji25];first | rfl | (simp [errW_none,errW_some] <;> rfl)) | (simp [*,errW_none,errW_some] <;> rfl),by repeat (first | (with_reducible first | exact HI0.out | apply IsS58.alloc | apply IsS58.drewN | apply IsS58.drew | apply IsS58.set_1 | apply IsS58.set_2 | refine IsS58.far ?_ NB0_101.out _) | exact HI0.out),by repeat (first | (with_reducible first | exact HB.out | apply below_alloc | apply pw_below_drewN | apply below_drew1 | refine below_set ?_ (IsS58.ge HI0.out) | refine below_set ?_ GE101.out) | exact HB.out),by repeat (first | (with_reducible first | exact HK.out | apply KeepBut.set_ | apply keep_drewN | apply keep_drew | apply keep_alloc | refine keep_far ?_ GW101.out _) | exact HK.out)⟩
     ·rw [if_neg c24] at H
      exact absurd H T42_
  ·rw [if_neg c21] at H
   have c21b0 : (t102 == 1) = false := beq_eq_false_iff_ne.mpr c21
   have c21b1 : (t102 != 1) = true := bne_iff_ne.mpr c21
   by_cases c38 : t102 = 2
   ·rw [if_pos c38] at H
    have c38b0 : (t102 == 2) = true := beq_iff_eq.mpr c38
    have c38b1 : (t102 != 2) = false := bne_eq_false_iff_eq.mpr c38
    clear c38
    have H' := aZ_ H
    clear H
    go_enter Try.func56,Try.ntmps56
    go_wp2_with (first | ((with_reducible refine gate_dst (N := 4) rfl ?_);refine box_event ?hg (N := 4) ?hd (cs := #[.int .i64 0,.int .i64 0]) (t := 25) ?hr ?_;(case hd => rfl);(case hg => rfl);(case hr => first | (go_simp;done) | (go_simp;rfl));intro gb101 hg w39 hbox hb;have n0_ := aZ_ (IsS58.below T19_ hb);have n1_ := aZ_ (KeepBut.trans T15_ (KeepBut.of_below hb g none) (.inl rfl));have n2_ := aZ_ (below_step T18_ hb);have n3_ := aZ_ (hbox);have n4_ := aZ_ ((T8_ : w.heap.size ≤ gb101));have n5_ := aZ_ ((Nat.le_trans HW0.out (T8_ : w.heap.size ≤ gb101) : w0.heap.size ≤ gb101));have n6_ := aZ_ ((T13_ : g ≠ gb101));have n7_ := aZ_ ((T14_ : gb101 ≠ g));clear HI0;clear HK;clear HB;have HI0 := n0_;have HK := n1_;have HB := n2_;have BK101 := n3_;have GW101 := n4_;have GE101 := n5_;have NB0_101 := n6_;have NB101_0 := n7_;clear n0_ n1_ n2_ n3_ n4_ n5_ n6_ n7_;clear hb hbox hg) | ((with_reducible refine gate_callee (f := 47) rfl ?_);refine goesL_ (some 12) rfl rfl Try.func47 T16_ rfl #[.pointer (some ⟨g,0,none⟩),.int .i64 6] rfl T3_ ?_;(with_reducible refine (spec_l1Below.calls g s0_0 s0_1 s0_2 6 t102 t103 t104 w0 _ ?side1 ?side2 A3.out).mono ?_);(case side1 => repeat (first | (with_reducible first | exact HI0.out | apply IsS58.alloc | apply IsS58.drewN | apply IsS58.drew | apply IsS58.set_1 | apply IsS58.set_2 | refine IsS58.far ?_ NB0_101.out _) | exact HI0.out));(case side2 => repeat (first | (with_reducible first | exact HB.out | apply below_alloc | apply pw_below_drewN | apply below_drew1 | refine below_set ?_ (IsS58.ge HI0.out) | refine below_set ?_ GE101.out) | exact HB.out));rintro e w40 ⟨rfl,hi,hb,hk⟩;refine ⟨_,rfl,?_⟩;have n0_ := aZ_ (KeepBut.blk hk (g' := gb101) (o := .cells #[.int .i64 0,.int .i64 0] 25 (0,0)) T2_ NB101_0.out T42_);have n1_ := aZ_ (KeepBut.trans T5_ hk (.inl rfl));have n2_ := aZ_ (hb);have n3_ := aZ_ (hi);clear BK101;clear HK;clear HB;clear HI0;have BK101 := n0_;have HK := n1_;have HB := n2_;have HI0 := n3_;clear n0_ n1_ n2_ n3_;(try clear hb);(try clear hb2);(try clear hk);(try clear hi)))
    go_loopg [5,7] k (fun kq v5 v7 w' => ∃ (x5_1 : Int) (x7_1 : Int),v5 = .int .i64 x5_1 ∧ v7 = .int .i64 x7_1 ∧ Aside0 (spec_l2Draw.l1 kq a1 x5_1 x7_1 s0_0 t103 t104 = some (r1,r2,r3,r4)) ∧ Aside0 (kq ≤ k) ∧ Aside0 (w'.heap[gb101]? = some (.cells #[.int .i64 0,.int .i64 0] 25 (0,0))) ∧ Aside0 (IsS58 w0 w' g s0_0 t103 t104) ∧ Aside0 (KeepBut w w' g none) ∧ Aside0 (Below w0.heap.size w0 w'))
    case atStart => exact ⟨(0),(0),T6_,T6_,H',⟨Nat.le_refl _⟩,⟨by (with_reducible repeat (first | refine blk_drewN ?_ _ | refine blk_drew ?_ | refine blk_alloc ?_ _));exact BK101.out⟩,⟨by repeat (first | (with_reducible first | exact HI0.out | apply IsS58.alloc | apply IsS58.drewN | apply IsS58.drew | apply IsS58.set_1 | apply IsS58.set_2 | refine IsS58.far ?_ NB0_101.out _) | exact HI0.out)⟩,⟨by repeat (first | (with_reducible first | exact HK.out | apply KeepBut.set_ | apply keep_drewN | apply keep_drew | apply keep_alloc | refine keep_far ?_ GW101.out _) | exact HK.out)⟩,⟨by repeat (first | (with_reducible first | exact HB.out | apply below_alloc | apply pw_below_drewN | apply below_drew1 | refine below_set ?_ (IsS58.ge HI0.out) | refine below_set ?_ GE101.out) | exact HB.out)⟩⟩
    case round =>
     clear H'
     try clear c1
     try clear c2
     try clear p2
     try clear c3
     try clear c4
     try clear c4b0
     try clear c4b1
     try clear c5
     try clear c6
     try clear p6
     try clear c8
     try clear c8b0
     try clear c8b1
     try clear c13
     try clear c19
     try clear c21
     try clear c21b0
     try clear c21b1
     try clear c24
     try clear c24b0
     try clear c24b1
     try clear c26
     try clear c26b0
     try clear c28
     try clear c28b0
     try clear c29
     try clear c29b0
     try clear c29b1
     try clear c31
     try clear c31b0
     try clear c31b1
     try clear c33
     try clear c36
     try clear c38
     try clear c38b0
     try clear c38b1
     try clear c39
     try clear hcz14_0
     try clear hcz14_1
     try clear hcz20_0
     try clear hcz20_1
     try clear hcz34_0
     try clear hcz34_1
     try clear hcz37_0
     try clear hcz37_1
     try clear hfz14_0
     try clear hfz14_1
     try clear hfz20_0
     try clear hfz20_1
     try clear hfz34_0
     try clear hfz34_1
     try clear hfz37_0
     try clear hfz37_1
     try clear p2
     obtain ⟨x5_1,x7_1,rfl,rfl,HA,HK1,BK101,HI0,HK,HB⟩ := hrel
     cases gk with
     | zero => exact absurd HA.out (by simp [spec_l2Draw.l1])
     | succ k1 =>
      have H := HA.out
      clear HA
      simp only [spec_l2Draw.l1] at H
      by_cases c41 : 0 ≤ a1
      ·rw [if_pos c41] at H
       have c41b0 := eq_true c41
       have c41b1 : decide (0 ≤ a1) = true := decide_eq_true c41
       clear c41
       obtain ⟨ji42,hji42⟩ : ∃ j_ : Int,(shl .i64 1 a1) = j_ := ⟨_,rfl⟩
       replace H : (if x7_1 < (ji42) then ((spec_l2Count.f k1 x7_1).bind fun t114 => (if (Int.tmod t114 2) = 1 then (if 0 ≤ x7_1 then (spec_l2Draw.l1 k1 a1 (Go.bits .or .i64 x5_1 (shl .i64 1 x7_1)) (wrap64 (x7_1 + 1)) s0_0 t103 t104) else (none)) else (spec_l2Draw.l1 k1 a1 x5_1 (wrap64 (x7_1 + 1)) s0_0 t103 t104))) else (if a1 = 0 then ((spec_l2Full.f a1).bind fun t115 => (some (a1,Go.bits .and .i64 (Go.bits .and .i64 x5_1 1) t115,t103,t104))) else ((spec_l2Full.f a1).bind fun t116 => (some (a1,Go.bits .and .i64 x5_1 t116,t103,t104))))) = some (r1,r2,r3,r4) := by first | (rw [hji42] at H;exact H) | (simp only [hji42] at H ⊢;exact H)
       have hji42_ : (IntKind.i64.wrap (1 * 2 ^ min a1.toNat 64)) = ji42 := hji42
       have hji42z : a1 ≤ 64 → (IntKind.i64.wrap (1 * 2 ^ a1.toNat)) = ji42 := shl_small hji42
       have hji42u : (IntKind.i64.wrap (2 ^ min a1.toNat 64)) = ji42 := by have h_ := hji42_;rw [Int.one_mul] at h_;exact h_
       have hji42v : a1 ≤ 64 → (IntKind.i64.wrap (2 ^ a1.toNat)) = ji42 := fun hle_ => by have h_ := hji42z hle_;rw [Int.one_mul] at h_;exact h_
       have hji42y : (wrap64 (1 * 2 ^ min a1.toNat 64)) = ji42 := (i64_w _).symm.trans hji42_
       have hji42x : a1 ≤ 64 → (wrap64 (1 * 2 ^ a1.toNat)) = ji42 := fun h_ => (i64_w _).symm.trans (hji42z h_)
       have hji42w : a1 ≤ 64 → (wrap64 (2 ^ a1.toNat)) = ji42 := fun h_ => by have q_ := hji42x h_;rw [Int.one_mul] at q_;exact q_
       have hji42t : (wrap64 (2 ^ min a1.toNat 64)) = ji42 := (i64_w _).symm.trans hji42u
       by_cases c43 : x7_1 < (ji42)
       ·rw [if_pos c43] at H
        have c43b0 : decide (x7_1 < (ji42)) = true := decide_eq_true c43
        clear c43
        replace H := Option.bind_eq_some_iff.mp H
        obtain ⟨t114,A440,H⟩ := H
        replace H : (if (Int.tmod t114 2) = 1 then (if 0 ≤ x7_1 then (spec_l2Draw.l1 k1 a1 (Go.bits .or .i64 x5_1 (shl .i64 1 x7_1)) (wrap64 (x7_1 + 1)) s0_0 t103 t104) else (none)) else (spec_l2Draw.l1 k1 a1 x5_1 (wrap64 (x7_1 + 1)) s0_0 t103 t104)) = some (r1,r2,r3,r4) := H
        have A44 := aZ_ A440
        clear A440
        by_cases c45 : (Int.tmod t114 2) = 1
        ·rw [if_pos c45] at H
         have c45b0 : ((Int.tmod t114 2) == 1) = true := beq_iff_eq.mpr c45
         have c45b1 : ((Int.tmod t114 2) != 1) = false := bne_eq_false_iff_eq.mpr c45
         clear c45
         by_cases c46 : 0 ≤ x7_1
         ·rw [if_pos c46] at H
          have c46b0 := eq_true c46
          have c46b1 : decide (0 ≤ x7_1) = true := decide_eq_true c46
          clear c46
          obtain ⟨ji47,hji47⟩ : ∃ j_ : Int,(shl .i64 1 x7_1) = j_ := ⟨_,rfl⟩
          replace H : (spec_l2Draw.l1 k1 a1 (Go.bits .or .i64 x5_1 (ji47)) (wrap64 (x7_1 + 1)) s0_0 t103 t104) = some (r1,r2,r3,r4) := by first | (rw [hji47] at H;exact H) | (simp only [hji47] at H ⊢;exact H)
          (try rw [hji47] at A44)
          have hji47_ : (IntKind.i64.wrap (1 * 2 ^ min x7_1.toNat 64)) = ji47 := hji47
          have hji47z : x7_1 ≤ 64 → (IntKind.i64.wrap (1 * 2 ^ x7_1.toNat)) = ji47 := shl_small hji47
          have hji47u : (IntKind.i64.wrap (2 ^ min x7_1.toNat 64)) = ji47 := by have h_ := hji47_;rw [Int.one_mul] at h_;exact h_
          have hji47v : x7_1 ≤ 64 → (IntKind.i64.wrap (2 ^ x7_1.toNat)) = ji47 := fun hle_ => by have h_ := hji47z hle_;rw [Int.one_mul] at h_;exact h_
          have hji47y : (wrap64 (1 * 2 ^ min x7_1.toNat 64)) = ji47 := (i64_w _).symm.trans hji47_
          have hji47x : x7_1 ≤ 64 → (wrap64 (1 * 2 ^ x7_1.toNat)) = ji47 := fun h_ => (i64_w _).symm.trans (hji47z h_)
          have hji47w : x7_1 ≤ 64 → (wrap64 (2 ^ x7_1.toNat)) = ji47 := fun h_ => by have q_ := hji47x h_;rw [Int.one_mul] at q_;exact q_
          have hji47t : (wrap64 (2 ^ min x7_1.toNat 64)) = ji47 := (i64_w _).symm.trans hji47u
          have H' := aZ_ H
          clear H
          go_wp2_with (first | ((with_reducible refine gate_callee (f := 39) rfl ?_);refine goesL_ (some 59) rfl rfl Try.func39 T16_ rfl #[.int .i64 x7_1] rfl T3_ ?_;(with_reducible refine (spec_l2Count.calls k1 x7_1 t114 _ A44.out).mono ?_);rintro e w' ⟨rfl,⟨nd,rfl⟩⟩;refine ⟨_,rfl,?_⟩))
          go_roundg k1
          case measure => have := HK1.out;omega
          case rel => exact ⟨(Go.bits .or .i64 x5_1 (ji47)),(wrap64 (x7_1 + 1)),(by first | rfl | (simp;done) | (simp only [← hji47] <;> (first | rfl | simp)) | (simp [*];done)),T6_,H',⟨by have := HK1.out;omega⟩,⟨by (with_reducible repeat (first | refine blk_drewN ?_ _ | refine blk_drew ?_ | refine blk_alloc ?_ _));exact BK101.out⟩,⟨by repeat (first | (with_reducible first | exact HI0.out | apply IsS58.alloc | apply IsS58.drewN | apply IsS58.drew | apply IsS58.set_1 | apply IsS58.set_2 | refine IsS58.far ?_ NB0_101.out _) | exact HI0.out)⟩,⟨by repeat (first | (with_reducible first | exact HK.out | apply KeepBut.set_ | apply keep_drewN | apply keep_drew | apply keep_alloc | refine keep_far ?_ GW101.out _) | exact HK.out)⟩,⟨by repeat (first | (with_reducible first | exact HB.out | apply below_alloc | apply pw_below_drewN | apply below_drew1 | refine below_set ?_ (IsS58.ge HI0.out) | refine below_set ?_ GE101.out) | exact HB.out)⟩⟩
         ·rw [if_neg c46] at H
          exact absurd H T42_
        ·rw [if_neg c45] at H
         have c45b0 : ((Int.tmod t114 2) == 1) = false := beq_eq_false_iff_ne.mpr c45
         have c45b1 : ((Int.tmod t114 2) != 1) = true := bne_iff_ne.mpr c45
         have H' := aZ_ H
         clear H
         go_wp2_with (first | ((with_reducible refine gate_callee (f := 39) rfl ?_);refine goesL_ (some 59) rfl rfl Try.func39 T16_ rfl #[.int .i64 x7_1] rfl T3_ ?_;(with_reducible refine (spec_l2Count.calls k1 x7_1 t114 _ A44.out).mono ?_);rintro e w' ⟨rfl,⟨nd,rfl⟩⟩;refine ⟨_,rfl,?_⟩))
         go_roundg k1
         case measure => have := HK1.out;omega
         case rel => exact ⟨(x5_1),(wrap64 (x7_1 + 1)),T6_,T6_,H',⟨by have := HK1.out;omega⟩,⟨by (with_reducible repeat (first | refine blk_drewN ?_ _ | refine blk_drew ?_ | refine blk_alloc ?_ _));exact BK101.out⟩,⟨by repeat (first | (with_reducible first | exact HI0.out | apply IsS58.alloc | apply IsS58.drewN | apply IsS58.drew | apply IsS58.set_1 | apply IsS58.set_2 | refine IsS58.far ?_ NB0_101.out _) | exact HI0.out)⟩,⟨by repeat (first | (with_reducible first | exact HK.out | apply KeepBut.set_ | apply keep_drewN | apply keep_drew | apply keep_alloc | refine keep_far ?_ GW101.out _) | exact HK.out)⟩,⟨by repeat (first | (with_reducible first | exact HB.out | apply below_alloc | apply pw_below_drewN | apply below_drew1 | refine below_set ?_ (IsS58.ge HI0.out) | refine below_set ?_ GE101.out) | exact HB.out)⟩⟩
       ·rw [if_neg c43] at H
        have c43b0 : decide (x7_1 < (ji42)) = false := decide_eq_false c43
        clear c43
        by_cases c48 : a1 = 0
        ·rw [if_pos c48] at H
         have c48b0 : (a1 == 0) = true := beq_iff_eq.mpr c48
         have c48b1 : (a1 != 0) = false := bne_eq_false_iff_eq.mpr c48
         have hz_ji42 : (wrap64 (2 ^ a1.toNat)) = ji42 := hji42w (by rw [c48];decide)
         clear c48
         replace H := Option.bind_eq_some_iff.mp H
         obtain ⟨t115,A490,H⟩ := H
         replace H : (some (a1,Go.bits .and .i64 (Go.bits .and .i64 x5_1 1) t115,t103,t104)) = some (r1,r2,r3,r4) := H
         have A49 := aZ_ A490
         clear A490
         simp only [Option.some.injEq,Prod.mk.injEq] at H
         obtain ⟨rfl,rfl,rfl,rfl⟩ := H
         go_wp2_with (first | ((with_reducible refine gate_callee (f := 64) rfl ?_);refine goesL_ (some 94) rfl rfl Try.func64 T16_ rfl #[.int .i64 a1] rfl T3_ ?_;(with_reducible refine (spec_l2Full.calls a1 t115 _ A49.out).mono ?_);rintro e w' ⟨rfl,⟨nd,rfl⟩⟩;refine ⟨_,rfl,?_⟩;(try (rw [drewN_self wr];generalize hq_ : World.drewN wr _ = wr;have n0_ : Aside0 (wr.heap[gb101]? = some (.cells #[.int .i64 0,.int .i64 0] 25 (0,0))) := ⟨by rw [← hq_];exact T2_⟩;have n1_ : Aside0 (IsS58 w0 wr g s0_0 t103 t104) := ⟨by rw [← hq_];exact T11_⟩;have n2_ : Aside0 (KeepBut w wr g none) := ⟨by rw [← hq_];exact T5_⟩;have n3_ : Aside0 (Below w0.heap.size w0 wr) := ⟨by rw [← hq_];exact T12_⟩;clear BK101 HI0 HK HB hq_;have BK101 := n0_;have HI0 := n1_;have HK := n2_;have HB := n3_;clear n0_ n1_ n2_ n3_));have hnb50 := NB101_0.out;have hnc50 := NB0_101.out;have hcz51_0 : wr.cell? ⟨gb101,0,none⟩ = some (.int .i64 0) := (blk_cell BK101.out 0).trans rfl;have hcz51_1 : wr.cell? ⟨gb101,1,none⟩ = some (.int .i64 0) := (blk_cell BK101.out 1).trans rfl;have hfz51_0 := blk_frozen BK101.out 0;have hfz51_1 := blk_frozen BK101.out 1))
         refine bodyPost_ret (results_cell_row rfl _ _ gb101 25 #[.int .i64 a1,.int .i64 (Go.bits .and .i64 (Go.bits .and .i64 x5_1 1) t115)] (0,0) _ rfl T9_ Try.underlying25 rfl T16_) rfl ?_
         exact ⟨by first | rfl | (simp [errW_none,errW_some] <;> rfl) | (simp only [← hji42];first | rfl | (simp [errW_none,errW_some] <;> rfl)) | (simp [*,errW_none,errW_some] <;> rfl),by repeat (first | (with_reducible first | exact HI0.out | apply IsS58.alloc | apply IsS58.drewN | apply IsS58.drew | apply IsS58.set_1 | apply IsS58.set_2 | refine IsS58.far ?_ NB0_101.out _) | exact HI0.out),by repeat (first | (with_reducible first | exact HB.out | apply below_alloc | apply pw_below_drewN | apply below_drew1 | refine below_set ?_ (IsS58.ge HI0.out) | refine below_set ?_ GE101.out) | exact HB.out),by repeat (first | (with_reducible first | exact HK.out | apply KeepBut.set_ | apply keep_drewN | apply keep_drew | apply keep_alloc | refine keep_far ?_ GW101.out _) | exact HK.out)⟩
        ·rw [if_neg c48] at H
         have c48b0 : (a1 == 0) = false := beq_eq_false_iff_ne.mpr c48
         have c48b1 : (a1 != 0) = true := bne_iff_ne.mpr c48
         replace H := Option.bind_eq_some_iff.mp H
         obtain ⟨t116,A520,H⟩ := H
         replace H : (some (a1,Go.bits .and .i64 x5_1 t116,t103,t104)) = some (r1,r2,r3,r4) := H
         have A52 := aZ_ A520
         clear A520
         simp only [Option.some.injEq,Prod.mk.injEq] at H
         obtain ⟨rfl,rfl,rfl,rfl⟩ := H
         go_wp2_with (first | ((with_reducible refine gate_callee (f := 64) rfl ?_);refine goesL_ (some 94) rfl rfl Try.func64 T16_ rfl #[.int .i64 a1] rfl T3_ ?_;(with_reducible refine (spec_l2Full.calls a1 t116 _ A52.out).mono ?_);rintro e w' ⟨rfl,⟨nd,rfl⟩⟩;refine ⟨_,rfl,?_⟩;(try (rw [drewN_self wr];generalize hq_ : World.drewN wr _ = wr;have n0_ : Aside0 (wr.heap[gb101]? = some (.cells #[.int .i64 0,.int .i64 0] 25 (0,0))) := ⟨by rw [← hq_];exact T2_⟩;have n1_ : Aside0 (IsS58 w0 wr g s0_0 t103 t104) := ⟨by rw [← hq_];exact T11_⟩;have n2_ : Aside0 (KeepBut w wr g none) := ⟨by rw [← hq_];exact T5_⟩;have n3_ : Aside0 (Below w0.heap.size w0 wr) := ⟨by rw [← hq_];exact T12_⟩;clear BK101 HI0 HK HB hq_;have BK101 := n0_;have HI0 := n1_;have HK := n2_;have HB := n3_;clear n0_ n1_ n2_ n3_));have hnb53 := NB101_0.out;have hnc53 := NB0_101.out;have hcz54_0 : wr.cell? ⟨gb101,0,none⟩ = some (.int .i64 0) := (blk_cell BK101.out 0).trans rfl;have hcz54_1 : wr.cell? ⟨gb101,1,none⟩ = some (.int .i64 0) := (blk_cell BK101.out 1).trans rfl;have hfz54_0 := blk_frozen BK101.out 0;have hfz54_1 := blk_frozen BK101.out 1))
         refine bodyPost_ret (results_cell_row rfl _ _ gb101 25 #[.int .i64 a1,.int .i64 (Go.bits .and .i64 x5_1 t116)] (0,0) _ rfl T9_ Try.underlying25 rfl T16_) rfl ?_
         exact ⟨by first | rfl | (simp [errW_none,errW_some] <;> rfl) | (simp only [← hji42];first | rfl | (simp [errW_none,errW_some] <;> rfl)) | (simp [*,errW_none,errW_some] <;> rfl),by repeat (first | (with_reducible first | exact HI0.out | apply IsS58.alloc | apply IsS58.drewN | apply IsS58.drew | apply IsS58.set_1 | apply IsS58.set_2 | refine IsS58.far ?_ NB0_101.out _) | exact HI0.out),by repeat (first | (with_reducible first | exact HB.out | apply below_alloc | apply pw_below_drewN | apply below_drew1 | refine below_set ?_ (IsS58.ge HI0.out) | refine below_set ?_ GE101.out) | exact HB.out),by repeat (first | (with_reducible first | exact HK.out | apply KeepBut.set_ | apply keep_drewN | apply keep_drew | apply keep_alloc | refine keep_far ?_ GW101.out _) | exact HK.out)⟩
      ·rw [if_neg c41] at H
       exact absurd H T42_
   ·rw [if_neg c38] at H
    have c38b0 : (t102 == 2) = false := beq_eq_false_iff_ne.mpr c38
    have c38b1 : (t102 != 2) = true := bne_iff_ne.mpr c38
    by_cases c55 : t102 = 3
    ·rw [if_pos c55] at H
     have c55b0 : (t102 == 3) = true := beq_iff_eq.mpr c55
     have c55b1 : (t102 != 3) = false := bne_eq_false_iff_eq.mpr c55
     clear c55
     by_cases c56 : 0 ≤ a1
     ·rw [if_pos c56] at H
      have c56b0 := eq_true c56
      have c56b1 : decide (0 ≤ a1) = true := decide_eq_true c56
      clear c56
      obtain ⟨ji57,hji57⟩ : ∃ j_ : Int,(shl .i64 1 a1) = j_ := ⟨_,rfl⟩
      replace H : ((spec_l1Below.f s0_0 t103 t104 (ji57)).bind fun bt117 => (spec_l2Draw.l2 k a1 0 bt117.1 0 s0_0 bt117.2.1 bt117.2.2)) = some (r1,r2,r3,r4) := by first | (rw [hji57] at H;exact H) | (simp only [hji57] at H ⊢;exact H)
      (try rw [hji57] at A3)
      have hji57_ : (IntKind.i64.wrap (1 * 2 ^ min a1.toNat 64)) = ji57 := hji57
      have hji57z : a1 ≤ 64 → (IntKind.i64.wrap (1 * 2 ^ a1.toNat)) = ji57 := shl_small hji57
      have hji57u : (IntKind.i64.wrap (2 ^ min a1.toNat 64)) = ji57 := by have h_ := hji57_;rw [Int.one_mul] at h_;exact h_
      have hji57v : a1 ≤ 64 → (IntKind.i64.wrap (2 ^ a1.toNat)) = ji57 := fun hle_ => by have h_ := hji57z hle_;rw [Int.one_mul] at h_;exact h_
      have hji57y : (wrap64 (1 * 2 ^ min a1.toNat 64)) = ji57 := (i64_w _).symm.trans hji57_
      have hji57x : a1 ≤ 64 → (wrap64 (1 * 2 ^ a1.toNat)) = ji57 := fun h_ => (i64_w _).symm.trans (hji57z h_)
      have hji57w : a1 ≤ 64 → (wrap64 (2 ^ a1.toNat)) = ji57 := fun h_ => by have q_ := hji57x h_;rw [Int.one_mul] at q_;exact q_
      have hji57t : (wrap64 (2 ^ min a1.toNat 64)) = ji57 := (i64_w _).symm.trans hji57u
      replace H := Option.bind_eq_some_iff.mp H
      obtain ⟨⟨t117,t118,t119⟩,A580,H⟩ := H
      replace H : (spec_l2Draw.l2 k a1 0 t117 0 s0_0 t118 t119) = some (r1,r2,r3,r4) := H
      have A58 := aZ_ A580
      clear A580
      have H' := aZ_ H
      clear H
      go_enter Try.func56,Try.ntmps56
      go_wp2_with (first | ((with_reducible refine gate_dst (N := 4) rfl ?_);refine box_event ?hg (N := 4) ?hd (cs := #[.int .i64 0,.int .i64 0]) (t := 25) ?hr ?_;(case hd => rfl);(case hg => rfl);(case hr => first | (go_simp;done) | (go_simp;rfl));intro gb101 hg w59 hbox hb;have n0_ := aZ_ (IsS58.below T19_ hb);have n1_ := aZ_ (KeepBut.trans T15_ (KeepBut.of_below hb g none) (.inl rfl));have n2_ := aZ_ (below_step T18_ hb);have n3_ := aZ_ (hbox);have n4_ := aZ_ ((T8_ : w.heap.size ≤ gb101));have n5_ := aZ_ ((Nat.le_trans HW0.out (T8_ : w.heap.size ≤ gb101) : w0.heap.size ≤ gb101));have n6_ := aZ_ ((T13_ : g ≠ gb101));have n7_ := aZ_ ((T14_ : gb101 ≠ g));clear HI0;clear HK;clear HB;have HI0 := n0_;have HK := n1_;have HB := n2_;have BK101 := n3_;have GW101 := n4_;have GE101 := n5_;have NB0_101 := n6_;have NB101_0 := n7_;clear n0_ n1_ n2_ n3_ n4_ n5_ n6_ n7_;clear hb hbox hg) | ((with_reducible refine gate_callee (f := 47) rfl ?_);refine goesL_ (some 12) rfl rfl Try.func47 T16_ rfl #[.pointer (some ⟨g,0,none⟩),.int .i64 6] rfl T3_ ?_;(with_reducible refine (spec_l1Below.calls g s0_0 s0_1 s0_2 6 t102 t103 t104 w0 _ ?side1 ?side2 A3.out).mono ?_);(case side1 => repeat (first | (with_reducible first | exact HI0.out | apply IsS58.alloc | apply IsS58.drewN | apply IsS58.drew | apply IsS58.set_1 | apply IsS58.set_2 | refine IsS58.far ?_ NB0_101.out _) | exact HI0.out));(case side2 => repeat (first | (with_reducible first | exact HB.out | apply below_alloc | apply pw_below_drewN | apply below_drew1 | refine below_set ?_ (IsS58.ge HI0.out) | refine below_set ?_ GE101.out) | exact HB.out));rintro e w60 ⟨rfl,hi,hb,hk⟩;refine ⟨_,rfl,?_⟩;have n0_ := aZ_ (KeepBut.blk hk (g' := gb101) (o := .cells #[.int .i64 0,.int .i64 0] 25 (0,0)) T2_ NB101_0.out T42_);have n1_ := aZ_ (KeepBut.trans T5_ hk (.inl rfl));have n2_ := aZ_ (hb);have n3_ := aZ_ (hi);clear BK101;clear HK;clear HB;clear HI0;have BK101 := n0_;have HK := n1_;have HB := n2_;have HI0 := n3_;clear n0_ n1_ n2_ n3_;(try clear hb);(try clear hb2);(try clear hk);(try clear hi)) | ((with_reducible refine gate_callee (f := 47) rfl ?_);refine goesL_ (some 71) rfl rfl Try.func47 T16_ rfl #[.pointer (some ⟨g,0,none⟩),.int .i64 ji57] rfl (by (try simp only [List.map_toArray,List.map_cons,List.map_nil]);first | done | (simp only [hji57];rfl) | rfl | (simp only [List.length_drop,List.length_take];rfl)) ?_;(with_reducible refine (spec_l1Below.calls g s0_0 t103 t104 ji57 t117 t118 t119 w0 _ ?side1 ?side2 A58.out).mono ?_);(case side1 => repeat (first | (with_reducible first | exact HI0.out | apply IsS58.alloc | apply IsS58.drewN | apply IsS58.drew | apply IsS58.set_1 | apply IsS58.set_2 | refine IsS58.far ?_ NB0_101.out _) | exact HI0.out));(case side2 => repeat (first | (with_reducible first | exact HB.out | apply below_alloc | apply pw_below_drewN | apply below_drew1 | refine below_set ?_ (IsS58.ge HI0.out) | refine below_set ?_ GE101.out) | exact HB.out));rintro e w61 ⟨rfl,hi,hb,hk⟩;refine ⟨_,rfl,?_⟩;have n0_ := aZ_ (KeepBut.blk hk (g' := gb101) (o := .cells #[.int .i64 0,.int .i64 0] 25 (0,0)) T2_ NB101_0.out T42_);have n1_ := aZ_ (KeepBut.trans T5_ hk (.inl rfl));have n2_ := aZ_ (hb);have n3_ := aZ_ (hi);clear BK101;clear HK;clear HB;clear HI0;have BK101 := n0_;have HK := n1_;have HB := n2_;have HI0 := n3_;clear n0_ n1_ n2_ n3_;(try clear hb);(try clear hb2);(try clear hk);(try clear hi)))
      go_loopg [5,9] k (fun kq v5 v9 w' => ∃ (x5_1 : Int) (x9_1 : Int),v5 = .int .i64 x5_1 ∧ v9 = .int .i64 x9_1 ∧ Aside0 (spec_l2Draw.l2 kq a1 x5_1 t117 x9_1 s0_0 t118 t119 = some (r1,r2,r3,r4)) ∧ Aside0 (kq ≤ k) ∧ Aside0 (w'.heap[gb101]? = some (.cells #[.int .i64 0,.int .i64 0] 25 (0,0))) ∧ Aside0 (IsS58 w0 w' g s0_0 t118 t119) ∧ Aside0 (KeepBut w w' g none) ∧ Aside0 (Below w0.heap.size w0 w'))
      case atStart => exact ⟨(0),(0),T6_,T6_,H',⟨Nat.le_refl _⟩,⟨by (with_reducible repeat (first | refine blk_drewN ?_ _ | refine blk_drew ?_ | refine blk_alloc ?_ _));exact BK101.out⟩,⟨by repeat (first | (with_reducible first | exact HI0.out | apply IsS58.alloc | apply IsS58.drewN | apply IsS58.drew | apply IsS58.set_1 | apply IsS58.set_2 | refine IsS58.far ?_ NB0_101.out _) | exact HI0.out)⟩,⟨by repeat (first | (with_reducible first | exact HK.out | apply KeepBut.set_ | apply keep_drewN | apply keep_drew | apply keep_alloc | refine keep_far ?_ GW101.out _) | exact HK.out)⟩,⟨by repeat (first | (with_reducible first | exact HB.out | apply below_alloc | apply pw_below_drewN | apply below_drew1 | refine below_set ?_ (IsS58.ge HI0.out) | refine below_set ?_ GE101.out) | exact HB.out)⟩⟩
      case round =>
       clear H'
       try clear c1
       try clear c2
       try clear p2
       try clear c3
       try clear c4
       try clear c4b0
       try clear c4b1
       try clear c5
       try clear c6
       try clear p6
       try clear c8
       try clear c8b0
       try clear c8b1
       try clear c13
       try clear c19
       try clear c21
       try clear c21b0
       try clear c21b1
       try clear c24
       try clear c24b0
       try clear c24b1
       try clear c26
       try clear c26b0
       try clear c28
       try clear c28b0
       try clear c29
       try clear c29b0
       try clear c29b1
       try clear c31
       try clear c31b0
       try clear c31b1
       try clear c33
       try clear c36
       try clear c38
       try clear c38b0
       try clear c38b1
       try clear c39
       try clear c41
       try clear c41b0
       try clear c41b1
       try clear c43
       try clear c43b0
       try clear c45
       try clear c45b0
       try clear c45b1
       try clear c46
       try clear c46b0
       try clear c46b1
       try clear c47
       try clear c48
       try clear c48b0
       try clear c48b1
       try clear c50
       try clear c53
       try clear c55
       try clear c55b0
       try clear c55b1
       try clear c56
       try clear c56b0
       try clear c56b1
       try clear hcz14_0
       try clear hcz14_1
       try clear hcz20_0
       try clear hcz20_1
       try clear hcz34_0
       try clear hcz34_1
       try clear hcz37_0
       try clear hcz37_1
       try clear hcz51_0
       try clear hcz51_1
       try clear hcz54_0
       try clear hcz54_1
       try clear hfz14_0
       try clear hfz14_1
       try clear hfz20_0
       try clear hfz20_1
       try clear hfz34_0
       try clear hfz34_1
       try clear hfz37_0
       try clear hfz37_1
       try clear hfz51_0
       try clear hfz51_1
       try clear hfz54_0
       try clear hfz54_1
       try clear p2
       try clear p6
       obtain ⟨x5_1,x9_1,rfl,rfl,HA,HK1,BK101,HI0,HK,HB⟩ := hrel
       cases gk with
       | zero => exact absurd HA.out (by simp [spec_l2Draw.l2])
       | succ k1 =>
        have H := HA.out
        clear HA
        simp only [spec_l2Draw.l2] at H
        by_cases c62 : 0 ≤ a1
        ·rw [if_pos c62] at H
         have c62b0 := eq_true c62
         have c62b1 : decide (0 ≤ a1) = true := decide_eq_true c62
         clear c62
         obtain ⟨ji63,hji63⟩ : ∃ j_ : Int,(shl .i64 1 a1) = j_ := ⟨_,rfl⟩
         (try (obtain rfl : ji63 = ji57 := hji63.symm.trans hji57))
         replace H : (if x9_1 < (ji63) then (if (Go.bits .and .i64 x9_1 t117) = t117 then (if 0 ≤ x9_1 then (spec_l2Draw.l2 k1 a1 (Go.bits .or .i64 x5_1 (shl .i64 1 x9_1)) t117 (wrap64 (x9_1 + 1)) s0_0 t118 t119) else (none)) else (spec_l2Draw.l2 k1 a1 x5_1 t117 (wrap64 (x9_1 + 1)) s0_0 t118 t119)) else (if a1 = 0 then ((spec_l2Full.f a1).bind fun t120 => (some (a1,Go.bits .and .i64 (Go.bits .and .i64 x5_1 1) t120,t118,t119))) else ((spec_l2Full.f a1).bind fun t121 => (some (a1,Go.bits .and .i64 x5_1 t121,t118,t119))))) = some (r1,r2,r3,r4) := by first | (rw [hji63] at H;exact H) | (simp only [hji63] at H ⊢;exact H)
         have hji63_ : (IntKind.i64.wrap (1 * 2 ^ min a1.toNat 64)) = ji63 := hji63
         have hji63z : a1 ≤ 64 → (IntKind.i64.wrap (1 * 2 ^ a1.toNat)) = ji63 := shl_small hji63
         have hji63u : (IntKind.i64.wrap (2 ^ min a1.toNat 64)) = ji63 := by have h_ := hji63_;rw [Int.one_mul] at h_;exact h_
         have hji63v : a1 ≤ 64 → (IntKind.i64.wrap (2 ^ a1.toNat)) = ji63 := fun hle_ => by have h_ := hji63z hle_;rw [Int.one_mul] at h_;exact h_
         have hji63y : (wrap64 (1 * 2 ^ min a1.toNat 64)) = ji63 := (i64_w _).symm.trans hji63_
         have hji63x : a1 ≤ 64 → (wrap64 (1 * 2 ^ a1.toNat)) = ji63 := fun h_ => (i64_w _).symm.trans (hji63z h_)
         have hji63w : a1 ≤ 64 → (wrap64 (2 ^ a1.toNat)) = ji63 := fun h_ => by have q_ := hji63x h_;rw [Int.one_mul] at q_;exact q_
         have hji63t : (wrap64 (2 ^ min a1.toNat 64)) = ji63 := (i64_w _).symm.trans hji63u
         by_cases c64 : x9_1 < (ji63)
         ·rw [if_pos c64] at H
          have c64b0 : decide (x9_1 < (ji63)) = true := decide_eq_true c64
          clear c64
          by_cases c65 : (Go.bits .and .i64 x9_1 t117) = t117
          ·rw [if_pos c65] at H
           have c65b0 : ((Go.bits .and .i64 x9_1 t117) == t117) = true := beq_iff_eq.mpr c65
           have c65b1 : ((Go.bits .and .i64 x9_1 t117) != t117) = false := bne_eq_false_iff_eq.mpr c65
           clear c65
           by_cases c66 : 0 ≤ x9_1
           ·rw [if_pos c66] at H
            have c66b0 := eq_true c66
            have c66b1 : decide (0 ≤ x9_1) = true := decide_eq_true c66
            clear c66
            obtain ⟨ji67,hji67⟩ : ∃ j_ : Int,(shl .i64 1 x9_1) = j_ := ⟨_,rfl⟩
            replace H : (spec_l2Draw.l2 k1 a1 (Go.bits .or .i64 x5_1 (ji67)) t117 (wrap64 (x9_1 + 1)) s0_0 t118 t119) = some (r1,r2,r3,r4) := by first | (rw [hji67] at H;exact H) | (simp only [hji67] at H ⊢;exact H)
            have hji67_ : (IntKind.i64.wrap (1 * 2 ^ min x9_1.toNat 64)) = ji67 := hji67
            have hji67z : x9_1 ≤ 64 → (IntKind.i64.wrap (1 * 2 ^ x9_1.toNat)) = ji67 := shl_small hji67
            have hji67u : (IntKind.i64.wrap (2 ^ min x9_1.toNat 64)) = ji67 := by have h_ := hji67_;rw [Int.one_mul] at h_;exact h_
            have hji67v : x9_1 ≤ 64 → (IntKind.i64.wrap (2 ^ x9_1.toNat)) = ji67 := fun hle_ => by have h_ := hji67z hle_;rw [Int.one_mul] at h_;exact h_
            have hji67y : (wrap64 (1 * 2 ^ min x9_1.toNat 64)) = ji67 := (i64_w _).symm.trans hji67_
            have hji67x : x9_1 ≤ 64 → (wrap64 (1 * 2 ^ x9_1.toNat)) = ji67 := fun h_ => (i64_w _).symm.trans (hji67z h_)
            have hji67w : x9_1 ≤ 64 → (wrap64 (2 ^ x9_1.toNat)) = ji67 := fun h_ => by have q_ := hji67x h_;rw [Int.one_mul] at q_;exact q_
            have hji67t : (wrap64 (2 ^ min x9_1.toNat 64)) = ji67 := (i64_w _).symm.trans hji67u
            have H' := aZ_ H
            clear H
            go_wp2
            go_roundg k1
            case measure => have := HK1.out;omega
            case rel => exact ⟨(Go.bits .or .i64 x5_1 (ji67)),(wrap64 (x9_1 + 1)),(by first | rfl | (simp;done) | (simp only [← hji67] <;> (first | rfl | simp)) | (simp [*];done)),T6_,H',⟨by have := HK1.out;omega⟩,⟨by (with_reducible repeat (first | refine blk_drewN ?_ _ | refine blk_drew ?_ | refine blk_alloc ?_ _));exact BK101.out⟩,⟨by repeat (first | (with_reducible first | exact HI0.out | apply IsS58.alloc | apply IsS58.drewN | apply IsS58.drew | apply IsS58.set_1 | apply IsS58.set_2 | refine IsS58.far ?_ NB0_101.out _) | exact HI0.out)⟩,⟨by repeat (first | (with_reducible first | exact HK.out | apply KeepBut.set_ | apply keep_drewN | apply keep_drew | apply keep_alloc | refine keep_far ?_ GW101.out _) | exact HK.out)⟩,⟨by repeat (first | (with_reducible first | exact HB.out | apply below_alloc | apply pw_below_drewN | apply below_drew1 | refine below_set ?_ (IsS58.ge HI0.out) | refine below_set ?_ GE101.out) | exact HB.out)⟩⟩
           ·rw [if_neg c66] at H
            exact absurd H T42_
          ·rw [if_neg c65] at H
           have c65b0 : ((Go.bits .and .i64 x9_1 t117) == t117) = false := beq_eq_false_iff_ne.mpr c65
           have c65b1 : ((Go.bits .and .i64 x9_1 t117) != t117) = true := bne_iff_ne.mpr c65
           have H' := aZ_ H
           clear H
           go_wp2
           go_roundg k1
           case measure => have := HK1.out;omega
           case rel => exact ⟨(x5_1),(wrap64 (x9_1 + 1)),T6_,T6_,H',⟨by have := HK1.out;omega⟩,⟨by (with_reducible repeat (first | refine blk_drewN ?_ _ | refine blk_drew ?_ | refine blk_alloc ?_ _));exact BK101.out⟩,⟨by repeat (first | (with_reducible first | exact HI0.out | apply IsS58.alloc | apply IsS58.drewN | apply IsS58.drew | apply IsS58.set_1 | apply IsS58.set_2 | refine IsS58.far ?_ NB0_101.out _) | exact HI0.out)⟩,⟨by repeat (first | (with_reducible first | exact HK.out | apply KeepBut.set_ | apply keep_drewN | apply keep_drew | apply keep_alloc | refine keep_far ?_ GW101.out _) | exact HK.out)⟩,⟨by repeat (first | (with_reducible first | exact HB.out | apply below_alloc | apply pw_below_drewN | apply below_drew1 | refine below_set ?_ (IsS58.ge HI0.out) | refine below_set ?_ GE101.out) | exact HB.out)⟩⟩
         ·rw [if_neg c64] at H
          have c64b0 : decide (x9_1 < (ji63)) = false := decide_eq_false c64
          clear c64
          by_cases c68 : a1 = 0
          ·rw [if_pos c68] at H
           have c68b0 : (a1 == 0) = true := beq_iff_eq.mpr c68
           have c68b1 : (a1 != 0) = false := bne_eq_false_iff_eq.mpr c68
           have hz_ji63 : (wrap64 (2 ^ a1.toNat)) = ji63 := hji63w (by rw [c68];decide)
           clear c68
           replace H := Option.bind_eq_some_iff.mp H
           obtain ⟨t120,A690,H⟩ := H
           replace H : (some (a1,Go.bits .and .i64 (Go.bits .and .i64 x5_1 1) t120,t118,t119)) = some (r1,r2,r3,r4) := H
           have A69 := aZ_ A690
           clear A690
           simp only [Option.some.injEq,Prod.mk.injEq] at H
           obtain ⟨rfl,rfl,rfl,rfl⟩ := H
           go_wp2_with (first | ((with_reducible refine gate_callee (f := 64) rfl ?_);refine goesL_ (some 94) rfl rfl Try.func64 T16_ rfl #[.int .i64 a1] rfl T3_ ?_;(with_reducible refine (spec_l2Full.calls a1 t120 _ A69.out).mono ?_);rintro e w' ⟨rfl,⟨nd,rfl⟩⟩;refine ⟨_,rfl,?_⟩;(try (rw [drewN_self wr];generalize hq_ : World.drewN wr _ = wr;have n0_ : Aside0 (wr.heap[gb101]? = some (.cells #[.int .i64 0,.int .i64 0] 25 (0,0))) := ⟨by rw [← hq_];exact T2_⟩;have n1_ : Aside0 (IsS58 w0 wr g s0_0 t118 t119) := ⟨by rw [← hq_];exact T11_⟩;have n2_ : Aside0 (KeepBut w wr g none) := ⟨by rw [← hq_];exact T5_⟩;have n3_ : Aside0 (Below w0.heap.size w0 wr) := ⟨by rw [← hq_];exact T12_⟩;clear BK101 HI0 HK HB hq_;have BK101 := n0_;have HI0 := n1_;have HK := n2_;have HB := n3_;clear n0_ n1_ n2_ n3_));have hnb70 := NB101_0.out;have hnc70 := NB0_101.out;have hcz71_0 : wr.cell? ⟨gb101,0,none⟩ = some (.int .i64 0) := (blk_cell BK101.out 0).trans rfl;have hcz71_1 : wr.cell? ⟨gb101,1,none⟩ = some (.int .i64 0) := (blk_cell BK101.out 1).trans rfl;have hfz71_0 := blk_frozen BK101.out 0;have hfz71_1 := blk_frozen BK101.out 1))
           refine bodyPost_ret (results_cell_row rfl _ _ gb101 25 #[.int .i64 a1,.int .i64 (Go.bits .and .i64 (Go.bits .and .i64 x5_1 1) t120)] (0,0) _ rfl T9_ Try.underlying25 rfl T16_) rfl ?_
           exact ⟨by first | rfl | (simp [errW_none,errW_some] <;> rfl) | (simp only [← hji57,← hji63];first | rfl | (simp [errW_none,errW_some] <;> rfl)) | (simp [*,errW_none,errW_some] <;> rfl),by repeat (first | (with_reducible first | exact HI0.out | apply IsS58.alloc | apply IsS58.drewN | apply IsS58.drew | apply IsS58.set_1 | apply IsS58.set_2 | refine IsS58.far ?_ NB0_101.out _) | exact HI0.out),by repeat (first | (with_reducible first | exact HB.out | apply below_alloc | apply pw_below_drewN | apply below_drew1 | refine below_set ?_ (IsS58.ge HI0.out) | refine below_set ?_ GE101.out) | exact HB.out),by repeat (first | (with_reducible first | exact HK.out | apply KeepBut.set_ | apply keep_drewN | apply keep_drew | apply keep_alloc | refine keep_far ?_ GW101.out _) | exact HK.out)⟩
          ·rw [if_neg c68] at H
           have c68b0 : (a1 == 0) = false := beq_eq_false_iff_ne.mpr c68
           have c68b1 : (a1 != 0) = true := bne_iff_ne.mpr c68
           replace H := Option.bind_eq_some_iff.mp H
           obtain ⟨t121,A720,H⟩ := H
           replace H : (some (a1,Go.bits .and .i64 x5_1 t121,t118,t119)) = some (r1,r2,r3,r4) := H
           have A72 := aZ_ A720
           clear A720
           simp only [Option.some.injEq,Prod.mk.injEq] at H
           obtain ⟨rfl,rfl,rfl,rfl⟩ := H
           go_wp2_with (first | ((with_reducible refine gate_callee (f := 64) rfl ?_);refine goesL_ (some 94) rfl rfl Try.func64 T16_ rfl #[.int .i64 a1] rfl T3_ ?_;(with_reducible refine (spec_l2Full.calls a1 t121 _ A72.out).mono ?_);rintro e w' ⟨rfl,⟨nd,rfl⟩⟩;refine ⟨_,rfl,?_⟩;(try (rw [drewN_self wr];generalize hq_ : World.drewN wr _ = wr;have n0_ : Aside0 (wr.heap[gb101]? = some (.cells #[.int .i64 0,.int .i64 0] 25 (0,0))) := ⟨by rw [← hq_];exact T2_⟩;have n1_ : Aside0 (IsS58 w0 wr g s0_0 t118 t119) := ⟨by rw [← hq_];exact T11_⟩;have n2_ : Aside0 (KeepBut w wr g none) := ⟨by rw [← hq_];exact T5_⟩;have n3_ : Aside0 (Below w0.heap.size w0 wr) := ⟨by rw [← hq_];exact T12_⟩;clear BK101 HI0 HK HB hq_;have BK101 := n0_;have HI0 := n1_;have HK := n2_;have HB := n3_;clear n0_ n1_ n2_ n3_));have hnb73 := NB101_0.out;have hnc73 := NB0_101.out;have hcz74_0 : wr.cell? ⟨gb101,0,none⟩ = some (.int .i64 0) := (blk_cell BK101.out 0).trans rfl;have hcz74_1 : wr.cell? ⟨gb101,1,none⟩ = some (.int .i64 0) := (blk_cell BK101.out 1).trans rfl;have hfz74_0 := blk_frozen BK101.out 0;have hfz74_1 := blk_frozen BK101.out 1))
           refine bodyPost_ret (results_cell_row rfl _ _ gb101 25 #[.int .i64 a1,.int .i64 (Go.bits .and .i64 x5_1 t121)] (0,0) _ rfl T9_ Try.underlying25 rfl T16_) rfl ?_
           exact ⟨by first | rfl | (simp [errW_none,errW_some] <;> rfl) | (simp only [← hji57,← hji63];first | rfl | (simp [errW_none,errW_some] <;> rfl)) | (simp [*,errW_none,errW_some] <;> rfl),by repeat (first | (with_reducible first | exact HI0.out | apply IsS58.alloc | apply IsS58.drewN | apply IsS58.drew | apply IsS58.set_1 | apply IsS58.set_2 | refine IsS58.far ?_ NB0_101.out _) | exact HI0.out),by repeat (first | (with_reducible first | exact HB.out | apply below_alloc | apply pw_below_drewN | apply below_drew1 | refine below_set ?_ (IsS58.ge HI0.out) | refine below_set ?_ GE101.out) | exact HB.out),by repeat (first | (with_reducible first | exact HK.out | apply KeepBut.set_ | apply keep_drewN | apply keep_drew | apply keep_alloc | refine keep_far ?_ GW101.out _) | exact HK.out)⟩
        ·rw [if_neg c62] at H
         exact absurd H T42_
     ·rw [if_neg c56] at H
      exact absurd H T42_
    ·rw [if_neg c55] at H
     have c55b0 : (t102 == 3) = false := beq_eq_false_iff_ne.mpr c55
     have c55b1 : (t102 != 3) = true := bne_iff_ne.mpr c55
     have H' := aZ_ H
     clear H
     go_enter Try.func56,Try.ntmps56
     go_wp2_with (first | ((with_reducible refine gate_dst (N := 4) rfl ?_);refine box_event ?hg (N := 4) ?hd (cs := #[.int .i64 0,.int .i64 0]) (t := 25) ?hr ?_;(case hd => rfl);(case hg => rfl);(case hr => first | (go_simp;done) | (go_simp;rfl));intro gb101 hg w75 hbox hb;have n0_ := aZ_ (IsS58.below T19_ hb);have n1_ := aZ_ (KeepBut.trans T15_ (KeepBut.of_below hb g none) (.inl rfl));have n2_ := aZ_ (below_step T18_ hb);have n3_ := aZ_ (hbox);have n4_ := aZ_ ((T8_ : w.heap.size ≤ gb101));have n5_ := aZ_ ((Nat.le_trans HW0.out (T8_ : w.heap.size ≤ gb101) : w0.heap.size ≤ gb101));have n6_ := aZ_ ((T13_ : g ≠ gb101));have n7_ := aZ_ ((T14_ : gb101 ≠ g));clear HI0;clear HK;clear HB;have HI0 := n0_;have HK := n1_;have HB := n2_;have BK101 := n3_;have GW101 := n4_;have GE101 := n5_;have NB0_101 := n6_;have NB101_0 := n7_;clear n0_ n1_ n2_ n3_ n4_ n5_ n6_ n7_;clear hb hbox hg) | ((with_reducible refine gate_callee (f := 47) rfl ?_);refine goesL_ (some 12) rfl rfl Try.func47 T16_ rfl #[.pointer (some ⟨g,0,none⟩),.int .i64 6] rfl T3_ ?_;(with_reducible refine (spec_l1Below.calls g s0_0 s0_1 s0_2 6 t102 t103 t104 w0 _ ?side1 ?side2 A3.out).mono ?_);(case side1 => repeat (first | (with_reducible first | exact HI0.out | apply IsS58.alloc | apply IsS58.drewN | apply IsS58.drew | apply IsS58.set_1 | apply IsS58.set_2 | refine IsS58.far ?_ NB0_101.out _) | exact HI0.out));(case side2 => repeat (first | (with_reducible first | exact HB.out | apply below_alloc | apply pw_below_drewN | apply below_drew1 | refine below_set ?_ (IsS58.ge HI0.out) | refine below_set ?_ GE101.out) | exact HB.out));rintro e w76 ⟨rfl,hi,hb,hk⟩;refine ⟨_,rfl,?_⟩;have n0_ := aZ_ (KeepBut.blk hk (g' := gb101) (o := .cells #[.int .i64 0,.int .i64 0] 25 (0,0)) T2_ NB101_0.out T42_);have n1_ := aZ_ (KeepBut.trans T5_ hk (.inl rfl));have n2_ := aZ_ (hb);have n3_ := aZ_ (hi);clear BK101;clear HK;clear HB;clear HI0;have BK101 := n0_;have HK := n1_;have HB := n2_;have HI0 := n3_;clear n0_ n1_ n2_ n3_;(try clear hb);(try clear hb2);(try clear hk);(try clear hi)))
     go_loopg [5,10] k (fun kq v5 v10 w' => ∃ (x5_1 : Int) (x10_1 : Int) (x1001_1 : Int) (x1002_1 : Int),v5 = .int .i64 x5_1 ∧ v10 = .int .i64 x10_1 ∧ Aside0 (spec_l2Draw.l3 kq a1 x5_1 x10_1 s0_0 x1001_1 x1002_1 = some (r1,r2,r3,r4)) ∧ Aside0 (kq ≤ k) ∧ Aside0 (w'.heap[gb101]? = some (.cells #[.int .i64 0,.int .i64 0] 25 (0,0))) ∧ Aside0 (IsS58 w0 w' g s0_0 x1001_1 x1002_1) ∧ Aside0 (KeepBut w w' g none) ∧ Aside0 (Below w0.heap.size w0 w'))
     case atStart => exact ⟨(0),(0),(t103),(t104),T6_,T6_,H',⟨Nat.le_refl _⟩,⟨by (with_reducible repeat (first | refine blk_drewN ?_ _ | refine blk_drew ?_ | refine blk_alloc ?_ _));exact BK101.out⟩,⟨by repeat (first | (with_reducible first | exact HI0.out | apply IsS58.alloc | apply IsS58.drewN | apply IsS58.drew | apply IsS58.set_1 | apply IsS58.set_2 | refine IsS58.far ?_ NB0_101.out _) | exact HI0.out)⟩,⟨by repeat (first | (with_reducible first | exact HK.out | apply KeepBut.set_ | apply keep_drewN | apply keep_drew | apply keep_alloc | refine keep_far ?_ GW101.out _) | exact HK.out)⟩,⟨by repeat (first | (with_reducible first | exact HB.out | apply below_alloc | apply pw_below_drewN | apply below_drew1 | refine below_set ?_ (IsS58.ge HI0.out) | refine below_set ?_ GE101.out) | exact HB.out)⟩⟩
     case round =>
      clear H'
      try clear c1
      try clear c2
      try clear p2
      try clear c3
      try clear c4
      try clear c4b0
      try clear c4b1
      try clear c5
      try clear c6
      try clear p6
      try clear c7
      try clear c8
      try clear c8b0
      try clear c8b1
      try clear c13
      try clear c19
      try clear c21
      try clear c21b0
      try clear c21b1
      try clear c24
      try clear c24b0
      try clear c24b1
      try clear c26
      try clear c26b0
      try clear c28
      try clear c28b0
      try clear c29
      try clear c29b0
      try clear c29b1
      try clear c31
      try clear c31b0
      try clear c31b1
      try clear c33
      try clear c36
      try clear c38
      try clear c38b0
      try clear c38b1
      try clear c39
      try clear c41
      try clear c41b0
      try clear c41b1
      try clear c43
      try clear c43b0
      try clear c45
      try clear c45b0
      try clear c45b1
      try clear c46
      try clear c46b0
      try clear c46b1
      try clear c47
      try clear c48
      try clear c48b0
      try clear c48b1
      try clear c50
      try clear c53
      try clear c55
      try clear c55b0
      try clear c55b1
      try clear c56
      try clear c56b0
      try clear c56b1
      try clear c62
      try clear c62b0
      try clear c62b1
      try clear c63
      try clear c64
      try clear c64b0
      try clear p64
      try clear c65
      try clear c65b0
      try clear c65b1
      try clear c66
      try clear c66b0
      try clear c66b1
      try clear c68
      try clear c68b0
      try clear c68b1
      try clear c70
      try clear c73
      try clear hcz14_0
      try clear hcz14_1
      try clear hcz20_0
      try clear hcz20_1
      try clear hcz34_0
      try clear hcz34_1
      try clear hcz37_0
      try clear hcz37_1
      try clear hcz51_0
      try clear hcz51_1
      try clear hcz54_0
      try clear hcz54_1
      try clear hcz71_0
      try clear hcz71_1
      try clear hcz74_0
      try clear hcz74_1
      try clear hfz14_0
      try clear hfz14_1
      try clear hfz20_0
      try clear hfz20_1
      try clear hfz34_0
      try clear hfz34_1
      try clear hfz37_0
      try clear hfz37_1
      try clear hfz51_0
      try clear hfz51_1
      try clear hfz54_0
      try clear hfz54_1
      try clear hfz71_0
      try clear hfz71_1
      try clear hfz74_0
      try clear hfz74_1
      try clear p2
      try clear p6
      obtain ⟨x5_1,x10_1,x1001_1,x1002_1,rfl,rfl,HA,HK1,BK101,HI0,HK,HB⟩ := hrel
      cases gk with
      | zero => exact absurd HA.out (by simp [spec_l2Draw.l3])
      | succ k1 =>
       have H := HA.out
       clear HA
       simp only [spec_l2Draw.l3] at H
       by_cases c77 : 0 ≤ a1
       ·rw [if_pos c77] at H
        have c77b0 := eq_true c77
        have c77b1 : decide (0 ≤ a1) = true := decide_eq_true c77
        clear c77
        obtain ⟨ji78,hji78⟩ : ∃ j_ : Int,(shl .i64 1 a1) = j_ := ⟨_,rfl⟩
        replace H : (if x10_1 < (ji78) then ((spec_l1Below.f s0_0 x1001_1 x1002_1 2).bind fun bt122 => (if 0 ≤ x10_1 then (spec_l2Draw.l3 k1 a1 (Go.bits .or .i64 x5_1 (shl .i64 bt122.1 x10_1)) (wrap64 (x10_1 + 1)) s0_0 bt122.2.1 bt122.2.2) else (none))) else (if a1 = 0 then ((spec_l2Full.f a1).bind fun t125 => (some (a1,Go.bits .and .i64 (Go.bits .and .i64 x5_1 1) t125,x1001_1,x1002_1))) else ((spec_l2Full.f a1).bind fun t126 => (some (a1,Go.bits .and .i64 x5_1 t126,x1001_1,x1002_1))))) = some (r1,r2,r3,r4) := by first | (rw [hji78] at H;exact H) | (simp only [hji78] at H ⊢;exact H)
        have hji78_ : (IntKind.i64.wrap (1 * 2 ^ min a1.toNat 64)) = ji78 := hji78
        have hji78z : a1 ≤ 64 → (IntKind.i64.wrap (1 * 2 ^ a1.toNat)) = ji78 := shl_small hji78
        have hji78u : (IntKind.i64.wrap (2 ^ min a1.toNat 64)) = ji78 := by have h_ := hji78_;rw [Int.one_mul] at h_;exact h_
        have hji78v : a1 ≤ 64 → (IntKind.i64.wrap (2 ^ a1.toNat)) = ji78 := fun hle_ => by have h_ := hji78z hle_;rw [Int.one_mul] at h_;exact h_
        have hji78y : (wrap64 (1 * 2 ^ min a1.toNat 64)) = ji78 := (i64_w _).symm.trans hji78_
        have hji78x : a1 ≤ 64 → (wrap64 (1 * 2 ^ a1.toNat)) = ji78 := fun h_ => (i64_w _).symm.trans (hji78z h_)
        have hji78w : a1 ≤ 64 → (wrap64 (2 ^ a1.toNat)) = ji78 := fun h_ => by have q_ := hji78x h_;rw [Int.one_mul] at q_;exact q_
        have hji78t : (wrap64 (2 ^ min a1.toNat 64)) = ji78 := (i64_w _).symm.trans hji78u
        by_cases c79 : x10_1 < (ji78)
        ·rw [if_pos c79] at H
         have c79b0 : decide (x10_1 < (ji78)) = true := decide_eq_true c79
         clear c79
         replace H := Option.bind_eq_some_iff.mp H
         obtain ⟨⟨t122,t123,t124⟩,A800,H⟩ := H
         replace H : (if 0 ≤ x10_1 then (spec_l2Draw.l3 k1 a1 (Go.bits .or .i64 x5_1 (shl .i64 t122 x10_1)) (wrap64 (x10_1 + 1)) s0_0 t123 t124) else (none)) = some (r1,r2,r3,r4) := H
         have A80 := aZ_ A800
         clear A800
         by_cases c81 : 0 ≤ x10_1
         ·rw [if_pos c81] at H
          have c81b0 := eq_true c81
          have c81b1 : decide (0 ≤ x10_1) = true := decide_eq_true c81
          clear c81
          obtain ⟨ji82,hji82⟩ : ∃ j_ : Int,(shl .i64 t122 x10_1) = j_ := ⟨_,rfl⟩
          replace H : (spec_l2Draw.l3 k1 a1 (Go.bits .or .i64 x5_1 (ji82)) (wrap64 (x10_1 + 1)) s0_0 t123 t124) = some (r1,r2,r3,r4) := by first | (rw [hji82] at H;exact H) | (simp only [hji82] at H ⊢;exact H)
          (try rw [hji82] at A80)
          have hji82_ : (IntKind.i64.wrap (t122 * 2 ^ min x10_1.toNat 64)) = ji82 := hji82
          have hji82z : x10_1 ≤ 64 → (IntKind.i64.wrap (t122 * 2 ^ x10_1.toNat)) = ji82 := shl_small hji82
          have hji82y : (wrap64 (t122 * 2 ^ min x10_1.toNat 64)) = ji82 := (i64_w _).symm.trans hji82_
          have hji82x : x10_1 ≤ 64 → (wrap64 (t122 * 2 ^ x10_1.toNat)) = ji82 := fun h_ => (i64_w _).symm.trans (hji82z h_)
          have H' := aZ_ H
          clear H
          go_wp2_with (first | ((with_reducible refine gate_callee (f := 47) rfl ?_);refine goesL_ (some 21) rfl rfl Try.func47 T16_ rfl #[.pointer (some ⟨g,0,none⟩),.int .i64 2] rfl T3_ ?_;(with_reducible refine (spec_l1Below.calls g s0_0 x1001_1 x1002_1 2 t122 t123 t124 w0 _ ?side1 ?side2 A80.out).mono ?_);(case side1 => repeat (first | (with_reducible first | exact HI0.out | apply IsS58.alloc | apply IsS58.drewN | apply IsS58.drew | apply IsS58.set_1 | apply IsS58.set_2 | refine IsS58.far ?_ NB0_101.out _) | exact HI0.out));(case side2 => repeat (first | (with_reducible first | exact HB.out | apply below_alloc | apply pw_below_drewN | apply below_drew1 | refine below_set ?_ (IsS58.ge HI0.out) | refine below_set ?_ GE101.out) | exact HB.out));rintro e w83 ⟨rfl,hi,hb,hk⟩;refine ⟨_,rfl,?_⟩;have n0_ := aZ_ (KeepBut.blk hk (g' := gb101) (o := .cells #[.int .i64 0,.int .i64 0] 25 (0,0)) T2_ NB101_0.out T42_);have n1_ := aZ_ (KeepBut.trans T5_ hk (.inl rfl));have n2_ := aZ_ (hb);have n3_ := aZ_ (hi);clear BK101;clear HK;clear HB;clear HI0;have BK101 := n0_;have HK := n1_;have HB := n2_;have HI0 := n3_;clear n0_ n1_ n2_ n3_;(try clear hb);(try clear hb2);(try clear hk);(try clear hi)))
          go_roundg k1
          case measure => have := HK1.out;omega
          case rel => exact ⟨(Go.bits .or .i64 x5_1 (ji82)),(wrap64 (x10_1 + 1)),(t123),(t124),(by first | rfl | (simp;done) | (simp only [← hji82] <;> (first | rfl | simp)) | (simp [*];done)),T6_,H',⟨by have := HK1.out;omega⟩,⟨by (with_reducible repeat (first | refine blk_drewN ?_ _ | refine blk_drew ?_ | refine blk_alloc ?_ _));exact BK101.out⟩,⟨by repeat (first | (with_reducible first | exact HI0.out | apply IsS58.alloc | apply IsS58.drewN | apply IsS58.drew | apply IsS58.set_1 | apply IsS58.set_2 | refine IsS58.far ?_ NB0_101.out _) | exact HI0.out)⟩,⟨by repeat (first | (with_reducible first | exact HK.out | apply KeepBut.set_ | apply keep_drewN | apply keep_drew | apply keep_alloc | refine keep_far ?_ GW101.out _) | exact HK.out)⟩,⟨by repeat (first | (with_reducible first | exact HB.out | apply below_alloc | apply pw_below_drewN | apply below_drew1 | refine below_set ?_ (IsS58.ge HI0.out) | refine below_set ?_ GE101.out) | exact HB.out)⟩⟩
         ·rw [if_neg c81] at H
          exact absurd H T42_
        ·rw [if_neg c79] at H
         have c79b0 : decide (x10_1 < (ji78)) = false := decide_eq_false c79
         clear c79
         by_cases c84 : a1 = 0
         ·rw [if_pos c84] at H
          have c84b0 : (a1 == 0) = true := beq_iff_eq.mpr c84
          have c84b1 : (a1 != 0) = false := bne_eq_false_iff_eq.mpr c84
          have hz_ji78 : (wrap64 (2 ^ a1.toNat)) = ji78 := hji78w (by rw [c84];decide)
          clear c84
          replace H := Option.bind_eq_some_iff.mp H
          obtain ⟨t125,A850,H⟩ := H
          replace H : (some (a1,Go.bits .and .i64 (Go.bits .and .i64 x5_1 1) t125,x1001_1,x1002_1)) = some (r1,r2,r3,r4) := H
          have A85 := aZ_ A850
          clear A850
          simp only [Option.some.injEq,Prod.mk.injEq] at H
          obtain ⟨rfl,rfl,rfl,rfl⟩ := H
          go_wp2_with (first | ((with_reducible refine gate_callee (f := 64) rfl ?_);refine goesL_ (some 94) rfl rfl Try.func64 T16_ rfl #[.int .i64 a1] rfl T3_ ?_;(with_reducible refine (spec_l2Full.calls a1 t125 _ A85.out).mono ?_);rintro e w' ⟨rfl,⟨nd,rfl⟩⟩;refine ⟨_,rfl,?_⟩;(try (rw [drewN_self wr];generalize hq_ : World.drewN wr _ = wr;have n0_ : Aside0 (wr.heap[gb101]? = some (.cells #[.int .i64 0,.int .i64 0] 25 (0,0))) := ⟨by rw [← hq_];exact T2_⟩;have n1_ : Aside0 (IsS58 w0 wr g s0_0 x1001_1 x1002_1) := ⟨by rw [← hq_];exact T11_⟩;have n2_ : Aside0 (KeepBut w wr g none) := ⟨by rw [← hq_];exact T5_⟩;have n3_ : Aside0 (Below w0.heap.size w0 wr) := ⟨by rw [← hq_];exact T12_⟩;clear BK101 HI0 HK HB hq_;have BK101 := n0_;have HI0 := n1_;have HK := n2_;have HB := n3_;clear n0_ n1_ n2_ n3_));have hnb86 := NB101_0.out;have hnc86 := NB0_101.out;have hcz87_0 : wr.cell? ⟨gb101,0,none⟩ = some (.int .i64 0) := (blk_cell BK101.out 0).trans rfl;have hcz87_1 : wr.cell? ⟨gb101,1,none⟩ = some (.int .i64 0) := (blk_cell BK101.out 1).trans rfl;have hfz87_0 := blk_frozen BK101.out 0;have hfz87_1 := blk_frozen BK101.out 1))
          refine bodyPost_ret (results_cell_row rfl _ _ gb101 25 #[.int .i64 a1,.int .i64 (Go.bits .and .i64 (Go.bits .and .i64 x5_1 1) t125)] (0,0) _ rfl T9_ Try.underlying25 rfl T16_) rfl ?_
          exact ⟨by first | rfl | (simp [errW_none,errW_some] <;> rfl) | (simp only [← hji78];first | rfl | (simp [errW_none,errW_some] <;> rfl)) | (simp [*,errW_none,errW_some] <;> rfl),by repeat (first | (with_reducible first | exact HI0.out | apply IsS58.alloc | apply IsS58.drewN | apply IsS58.drew | apply IsS58.set_1 | apply IsS58.set_2 | refine IsS58.far ?_ NB0_101.out _) | exact HI0.out),by repeat (first | (with_reducible first | exact HB.out | apply below_alloc | apply pw_below_drewN | apply below_drew1 | refine below_set ?_ (IsS58.ge HI0.out) | refine below_set ?_ GE101.out) | exact HB.out),by repeat (first | (with_reducible first | exact HK.out | apply KeepBut.set_ | apply keep_drewN | apply keep_drew | apply keep_alloc | refine keep_far ?_ GW101.out _) | exact HK.out)⟩
         ·rw [if_neg c84] at H
          have c84b0 : (a1 == 0) = false := beq_eq_false_iff_ne.mpr c84
          have c84b1 : (a1 != 0) = true := bne_iff_ne.mpr c84
          replace H := Option.bind_eq_some_iff.mp H
          obtain ⟨t126,A880,H⟩ := H
          replace H : (some (a1,Go.bits .and .i64 x5_1 t126,x1001_1,x1002_1)) = some (r1,r2,r3,r4) := H
          have A88 := aZ_ A880
          clear A880
          simp only [Option.some.injEq,Prod.mk.injEq] at H
          obtain ⟨rfl,rfl,rfl,rfl⟩ := H
          go_wp2_with (first | ((with_reducible refine gate_callee (f := 64) rfl ?_);refine goesL_ (some 94) rfl rfl Try.func64 T16_ rfl #[.int .i64 a1] rfl T3_ ?_;(with_reducible refine (spec_l2Full.calls a1 t126 _ A88.out).mono ?_);rintro e w' ⟨rfl,⟨nd,rfl⟩⟩;refine ⟨_,rfl,?_⟩;(try (rw [drewN_self wr];generalize hq_ : World.drewN wr _ = wr;have n0_ : Aside0 (wr.heap[gb101]? = some (.cells #[.int .i64 0,.int .i64 0] 25 (0,0))) := ⟨by rw [← hq_];exact T2_⟩;have n1_ : Aside0 (IsS58 w0 wr g s0_0 x1001_1 x1002_1) := ⟨by rw [← hq_];exact T11_⟩;have n2_ : Aside0 (KeepBut w wr g none) := ⟨by rw [← hq_];exact T5_⟩;have n3_ : Aside0 (Below w0.heap.size w0 wr) := ⟨by rw [← hq_];exact T12_⟩;clear BK101 HI0 HK HB hq_;have BK101 := n0_;have HI0 := n1_;have HK := n2_;have HB := n3_;clear n0_ n1_ n2_ n3_));have hnb89 := NB101_0.out;have hnc89 := NB0_101.out;have hcz90_0 : wr.cell? ⟨gb101,0,none⟩ = some (.int .i64 0) := (blk_cell BK101.out 0).trans rfl;have hcz90_1 : wr.cell? ⟨gb101,1,none⟩ = some (.int .i64 0) := (blk_cell BK101.out 1).trans rfl;have hfz90_0 := blk_frozen BK101.out 0;have hfz90_1 := blk_frozen BK101.out 1))
          refine bodyPost_ret (results_cell_row rfl _ _ gb101 25 #[.int .i64 a1,.int .i64 (Go.bits .and .i64 x5_1 t126)] (0,0) _ rfl T9_ Try.underlying25 rfl T16_) rfl ?_
          exact ⟨by first | rfl | (simp [errW_none,errW_some] <;> rfl) | (simp only [← hji78];first | rfl | (simp [errW_none,errW_some] <;> rfl)) | (simp [*,errW_none,errW_some] <;> rfl),by repeat (first | (with_reducible first | exact HI0.out | apply IsS58.alloc | apply IsS58.drewN | apply IsS58.drew | apply IsS58.set_1 | apply IsS58.set_2 | refine IsS58.far ?_ NB0_101.out _) | exact HI0.out),by repeat (first | (with_reducible first | exact HB.out | apply below_alloc | apply pw_below_drewN | apply below_drew1 | refine below_set ?_ (IsS58.ge HI0.out) | refine below_set ?_ GE101.out) | exact HB.out),by repeat (first | (with_reducible first | exact HK.out | apply KeepBut.set_ | apply keep_drewN | apply keep_drew | apply keep_alloc | refine keep_far ?_ GW101.out _) | exact HK.out)⟩
       ·rw [if_neg c77] at H
        exact absurd H T42_
end Go.Proofs.Ytflacbjpeecjcaa.F
