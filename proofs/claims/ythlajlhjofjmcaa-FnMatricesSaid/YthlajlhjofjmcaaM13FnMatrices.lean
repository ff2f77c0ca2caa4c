/- Walks of Go functions and lemmas on what they compute, for the row of FnMatrices (a part of several): each call ends as the Lean function of its name tells; the conditions are those of each theorem. -/
import Derived.Test.YthlajlhjofjmcaaM1FnMatrices
import Derived.Test.YthlajlhjofjmcaaM2FnMatrices
import Derived.Test.YthlajlhjofjmcaaM3FnMatrices
import Derived.Test.YthlajlhjofjmcaaM4FnMatrices
import Derived.Test.YthlajlhjofjmcaaM6FnMatrices
import Derived.Test.YthlajlhjofjmcaaM8FnMatrices
import Derived.Test.YthlajlhjofjmcaaM11FnMatrices
namespace Go.Proofs.Ythlajlhjofjmcaa.F
open Go.RowKit Go.Proofs.YthlajlhjofjmcaaW.PrintWords Go.Proofs.YthlajlhjofjmcaaW.PrintLast Go.Proofs.YthlajlhjofjmcaaW.PrintMore
attribute [local go_sem] max2_int min2_int max_two min_two max_three min_three max_four min_four 
set_option linter.unusedVariables false
set_option linter.unusedSimpArgs false
def spec_DrawIsRectangle.f (k : Nat) (l0 : List Int) : Option (Int × Int × Int × Int × Int) := (spec_l20Both.f k l0).bind fun bt102 => ((spec_l1New.f k l0).bind fun bt106 => ((spec_l1Below.f bt106.1 bt106.2.1 bt106.2.2 16).bind fun bt110 => ((spec_l1Below.f bt106.1 bt110.2.1 bt110.2.2 16).bind fun bt113 => (some (bt102.1,bt102.2.1,bt102.2.2,bt110.1,bt113.1)))))
def spec_DrawIsRectangle.T4 : Bool × List (List Nat × List Nat) := (true,[([],[]),([],[]),([],[]),([],[]),([3],[3]),([0,4,0],[0]),([1,5,0,1,5],[1]),([2,6,0,1,2,5,6],[2]),([4,7,0,1,2,3,4,5,6,7],[4])])
def spec_DrawIsRectangle.B4 : List Nat := [0,0,0,0,8,25,59,127,255]
theorem spec_DrawIsRectangle.tab4 : rtab .any (opsOf Try.f39 4) = spec_DrawIsRectangle.T4 := by kernel_rfl
theorem spec_DrawIsRectangle.bits4 : waitsOk spec_DrawIsRectangle.T4.2 spec_DrawIsRectangle.B4 = true := by kernel_rfl
set_option maxHeartbeats 8000000 in
set_option maxRecDepth 100000 in
theorem spec_DrawIsRectangle.calls (k : Nat) (A0 : Option Addr) (c0 : Nat) (l0 : List Int) (r1 : Int) (r2 : Int) (r3 : Int) (r4 : Int) (r5 : Int) (w : World) (hr0 : Kd.C (Kd.int .u8) w A0 l0.length l0) (hc0 : l0.length ≤ c0) (h : spec_DrawIsRectangle.f k l0 = some (r1,r2,r3,r4,r5)) :
  Calls Try.prog 39 #[.slice A0 l0.length c0] w fun e w' => e = .returned (.tuple #[.agg #[.int .i64 r1,.int .i64 r2],.int .i64 r3,.int .i64 r4,.int .i64 r5]) ∧ Below w.heap.size w w' := by
 have hu25 := Try.underlying25
 have HR0 := aZ_ hr0
 have HC0 := aZ_ hc0
 clear hr0 hc0
 have HB := aZ_ (Below.refl w.heap.size w)
 have H : ((spec_l20Both.f k l0).bind fun bt102 => ((spec_l1New.f k l0).bind fun bt106 => ((spec_l1Below.f bt106.1 bt106.2.1 bt106.2.2 16).bind fun bt110 => ((spec_l1Below.f bt106.1 bt110.2.1 bt110.2.2 16).bind fun bt113 => (some (bt102.1,bt102.2.1,bt102.2.2,bt110.1,bt113.1)))))) = some (r1,r2,r3,r4,r5) := h
 clear h
 replace H := Option.bind_eq_some_iff.mp H
 obtain ⟨⟨t102,t103,t104⟩,A20,H⟩ := H
 replace H : ((spec_l1New.f k l0).bind fun bt106 => ((spec_l1Below.f bt106.1 bt106.2.1 bt106.2.2 16).bind fun bt110 => ((spec_l1Below.f bt106.1 bt110.2.1 bt110.2.2 16).bind fun bt113 => (some (t102,t103,t104,bt110.1,bt113.1))))) = some (r1,r2,r3,r4,r5) := H
 have A2 := aZ_ A20
 clear A20
 replace H := Option.bind_eq_some_iff.mp H
 obtain ⟨⟨t106,t107,t108⟩,A30,H⟩ := H
 replace H : ((spec_l1Below.f t106 t107 t108 16).bind fun bt110 => ((spec_l1Below.f t106 bt110.2.1 bt110.2.2 16).bind fun bt113 => (some (t102,t103,t104,bt110.1,bt113.1)))) = some (r1,r2,r3,r4,r5) := H
 have A3 := aZ_ A30
 clear A30
 replace H := Option.bind_eq_some_iff.mp H
 obtain ⟨⟨t110,t111,t112⟩,A40,H⟩ := H
 replace H : ((spec_l1Below.f t106 t111 t112 16).bind fun bt113 => (some (t102,t103,t104,t110,bt113.1))) = some (r1,r2,r3,r4,r5) := H
 have A4 := aZ_ A40
 clear A40
 replace H := Option.bind_eq_some_iff.mp H
 obtain ⟨⟨t113,t114,t115⟩,A50,H⟩ := H
 replace H : (some (t102,t103,t104,t110,t113)) = some (r1,r2,r3,r4,r5) := H
 have A5 := aZ_ A50
 clear A50
 simp only [Option.some.injEq,Prod.mk.injEq] at H
 obtain ⟨rfl,rfl,rfl,rfl,rfl⟩ := H
 go_enter Try.func39,Try.ntmps39
 try go_wp2_with (first | ((with_reducible refine gate_dst (N := 2) rfl ?_);refine box_event ?hg (N := 2) ?hd (cs := #[.int .i64 0,.int .i64 0]) (t := 25) ?hr ?_;(case hd => rfl);(case hg => rfl);(case hr => first | (go_simp;done) | (go_simp;rfl));intro gb101 hg w6 hbox hb;have n0_ := aZ_ (below_step T5_ hb);have n1_ := aZ_ (hbox);have n2_ := aZ_ ((T2_ : w.heap.size ≤ gb101));have n3_ := aZ_ ((T2_ : w.heap.size ≤ gb101));clear HB;have HB := n0_;have BK101 := n1_;have GW101 := n2_;have GE101 := n3_;clear n0_ n1_ n2_ n3_;clear hb hbox hg) | ((with_reducible refine gate_callee (f := 68) rfl ?_);refine goesL_ (some 12) rfl rfl Try.func68 T15_ rfl #[.slice A0 l0.length c0] rfl T4_ ?_;(with_reducible refine (spec_l20Both.calls k _ _ l0 t102 t103 t104 _ ?side1 ?side2 A2.out).mono ?_);(case side1 => repeat (first | exact (Kd.C_below HR0.out HB.out) | (with_reducible refine Kd.C_alloc ?_ _) | (with_reducible refine Kd.C_drewN ?_ _) | (with_reducible refine Kd.C_drew ?_)));(case side2 => exact HC0.out);rintro e w7 ⟨rfl,hb⟩;refine ⟨_,rfl,?_⟩;have n0_ := aZ_ (blk_below (g := gb101) (o := .cells #[.int .i64 0,.int .i64 0] 25 (0,0)) T3_ hb);have n1_ := aZ_ (below_step T1_ hb);clear BK101;clear HB;have BK101 := n0_;have HB := n1_;clear n0_ n1_;(try clear hb);(try clear hb2);(try clear hk);(try clear hi)) | ((with_reducible refine gate_dst (N := 6) rfl ?_);refine box_event ?hg (N := 6) ?hd (cs := #[.int .i64 0,.int .i64 0]) (t := 25) ?hr ?_;(case hd => rfl);(case hg => rfl);(case hr => first | (go_simp;done) | (go_simp;rfl));intro gb105 hg w8 hbox hb;have n0_ := aZ_ (blk_below (g := gb101) (o := .cells #[.int .i64 0,.int .i64 0] 25 (0,0)) T3_ hb);have n1_ := aZ_ (below_step T1_ hb);have n2_ := aZ_ (hbox);have n3_ := aZ_ ((T17_ : w.heap.size ≤ gb105));have n4_ := aZ_ ((T17_ : w.heap.size ≤ gb105));have n5_ := aZ_ ((T19_ : gb101 ≠ gb105));have n6_ := aZ_ ((T20_ : gb105 ≠ gb101));clear BK101;clear HB;have BK101 := n0_;have HB := n1_;have BK105 := n2_;have GW105 := n3_;have GE105 := n4_;have NB101_105 := n5_;have NB105_101 := n6_;clear n0_ n1_ n2_ n3_ n4_ n5_ n6_;clear hb hbox hg;have hnb9 := NB105_101.out;have hnc9 := NB101_105.out;have hcz10_0 : w8.cell? ⟨gb105,0,none⟩ = some (.int .i64 0) := (blk_cell BK105.out 0).trans rfl;have hcz10_1 : w8.cell? ⟨gb105,1,none⟩ = some (.int .i64 0) := (blk_cell BK105.out 1).trans rfl;have hfz10_0 := blk_frozen BK105.out 0;have hfz10_1 := blk_frozen BK105.out 1) | ((with_reducible refine gate_callee (f := 47) rfl ?_);refine goesL_ (some 16) rfl rfl Try.func47 T15_ rfl #[.slice A0 l0.length c0] rfl T4_ ?_;(with_reducible refine (spec_l1New.calls k _ _ l0 t106 t107 t108 w _ ?side1 ?side2 ?side3 A3.out).mono ?_);(case side1 => repeat (first | (with_reducible first | exact HB.out | apply below_alloc | apply pw_below_drewN | apply below_drew1 | refine below_set ?_ GE101.out | refine below_set ?_ GE105.out) | exact HB.out));(case side2 => exact HR0.out);(case side3 => exact HC0.out);rintro e w11 ⟨g109,rfl,hi,hb,hb2⟩;refine ⟨_,rfl,?_⟩;have n0_ := aZ_ (blk_below (g := gb101) (o := .cells #[.int .i64 0,.int .i64 0] 25 (0,0)) T35_ hb2);have n1_ := aZ_ (blk_below (g := gb105) (o := .cells #[.int .i64 t102,.int .i64 t103] 25 (0,0)) T33_ hb2);have n2_ := aZ_ (hb);have n3_ := aZ_ (hi);have n4_ := aZ_ (IsS90.ne_blk hi (blk_below (g := gb101) (o := .cells #[.int .i64 0,.int .i64 0] 25 (0,0)) T35_ hb2) T48_);have n5_ := aZ_ (Ne.symm (IsS90.ne_blk hi (blk_below (g := gb101) (o := .cells #[.int .i64 0,.int .i64 0] 25 (0,0)) T35_ hb2) T48_));have n6_ := aZ_ (IsS90.ne_blk hi (blk_below (g := gb105) (o := .cells #[.int .i64 t102,.int .i64 t103] 25 (0,0)) T33_ hb2) T48_);have n7_ := aZ_ (Ne.symm (IsS90.ne_blk hi (blk_below (g := gb105) (o := .cells #[.int .i64 t102,.int .i64 t103] 25 (0,0)) T33_ hb2) T48_));clear BK101;clear BK105;clear HB;have BK101 := n0_;have BK105 := n1_;have HB := n2_;have HI109 := n3_;have NB109_101 := n4_;have NB101_109 := n5_;have NB109_105 := n6_;have NB105_109 := n7_;clear n0_ n1_ n2_ n3_ n4_ n5_ n6_ n7_;(try clear hb);(try clear hb2);(try clear hk);(try clear hi)) | ((with_reducible refine gate_callee (f := 62) rfl ?_);refine goesL_ (some 18) rfl rfl Try.func62 T15_ rfl #[.pointer (some ⟨g109,0,none⟩),.int .i64 16] rfl T4_ ?_;(with_reducible refine (spec_l1Below.calls g109 t106 t107 t108 16 t110 t111 t112 w _ ?side1 ?side2 A4.out).mono ?_);(case side1 => repeat (first | (with_reducible first | exact HI109.out | apply IsS90.alloc | apply IsS90.drewN | apply IsS90.drew | apply IsS90.set_1 | apply IsS90.set_2 | refine IsS90.far ?_ NB109_101.out _ | refine IsS90.far ?_ NB109_105.out _) | exact HI109.out));(case side2 => repeat (first | (with_reducible first | exact HB.out | apply below_alloc | apply pw_below_drewN | apply below_drew1 | refine below_set ?_ (IsS90.ge HI109.out) | refine below_set ?_ GE101.out | refine below_set ?_ GE105.out) | exact HB.out));rintro e w12 ⟨rfl,hi,hb,hk⟩;refine ⟨_,rfl,?_⟩;have n0_ := aZ_ (KeepBut.blk hk (g' := gb101) (o := .cells #[.int .i64 0,.int .i64 0] 25 (0,0)) T3_ NB101_109.out T49_);have n1_ := aZ_ (KeepBut.blk hk (g' := gb105) (o := .cells #[.int .i64 t102,.int .i64 t103] 25 (0,0)) T59_ NB105_109.out T49_);have n2_ := aZ_ (hb);have n3_ := aZ_ (hi);clear BK101;clear BK105;clear HB;clear HI109;have BK101 := n0_;have BK105 := n1_;have HB := n2_;have HI109 := n3_;clear n0_ n1_ n2_ n3_;(try clear hb);(try clear hb2);(try clear hk);(try clear hi)))
 have n0_ := aZ_ (blk_drew BK101.out)
 have n1_ := aZ_ (blk_drew BK105.out)
 have n2_ := aZ_ (IsS90.drew HI109.out)
 have n3_ := aZ_ (below_drew1 HB.out)
 clear BK101
 clear BK105
 clear HI109
 clear HB
 have BK101 := n0_
 have BK105 := n1_
 have HI109 := n2_
 have HB := n3_
 clear n0_ n1_ n2_ n3_
 refine start_ (n := 9) (S := fun w' => w'.cell? ⟨gb105,0,none⟩ = some (.int .i64 t102) ∧ w'.cell? ⟨gb105,1,none⟩ = some (.int .i64 t103)) (ds := []) #[false,false,false,false,false,false,false,false,false] T15_ rfl rfl ⟨(blk_cell BK105.out 0).trans rfl,(blk_cell BK105.out 1).trans rfl⟩ (fun hHeld => ?_);refine with_tabW spec_DrawIsRectangle.tab4 spec_DrawIsRectangle.bits4 (fun HT_ HW_ => ?_)
 generalize w12.drew = w13 at BK101 BK105 HI109 HB hHeld ⊢
 refine pZ_ 1 (some 20) #[false,true,false,false,false,false,false,false,false] ?_
 refine pZ_ 2 (some 21) #[false,true,true,false,false,false,false,false,false] ?_
 refine pZ_ 3 (some 22) #[false,true,true,true,false,false,false,false,false] ?_
 refine tZ2_ 0 (some 19) #[true,true,true,true,false,false,false,false,false] hHeld ?_
 refine one_ (i := 4) (N := some 23) #[true,true,true,true,true,false,false,false,false] rfl rfl (one_of HT_.out T15_) T48_ (fun K hK => ?_)
 refine gZ_ Try.func62 #[.pointer (some ⟨g109,0,none⟩),.int .i64 16] ?_
 with_reducible refine (spec_l1Below.calls g109 t106 t111 t112 16 t113 t114 t115 w _ ?side1 ?side2 A5.out).mono ?_
 (case side1 => repeat (first | (with_reducible first | exact HI109.out | apply IsS90.alloc | apply IsS90.drewN | apply IsS90.drew | apply IsS90.set_1 | apply IsS90.set_2 | refine IsS90.far ?_ NB109_101.out _ | refine IsS90.far ?_ NB109_105.out _) | exact HI109.out))
 (case side2 => repeat (first | (with_reducible first | exact HB.out | apply below_alloc | apply pw_below_drewN | apply below_drew1 | refine below_set ?_ (IsS90.ge HI109.out) | refine below_set ?_ GE101.out | refine below_set ?_ GE105.out) | exact HB.out))
 rintro e w14 ⟨rfl,hi,hb,hk⟩
 refine ⟨_,rfl,?_⟩
 have n0_ := aZ_ (KeepBut.blk hk (g' := gb101) (o := .cells #[.int .i64 0,.int .i64 0] 25 (0,0)) T3_ NB101_109.out T49_)
 have n1_ := aZ_ (KeepBut.blk hk (g' := gb105) (o := .cells #[.int .i64 t102,.int .i64 t103] 25 (0,0)) T59_ NB105_109.out T49_)
 have n2_ := aZ_ (hb)
 have n3_ := aZ_ (hi)
 clear BK101
 clear BK105
 clear HB
 clear HI109
 have BK101 := n0_
 have BK105 := n1_
 have HB := n2_
 have HI109 := n3_
 clear n0_ n1_ n2_ n3_
 (try clear hb)
 (try clear hb2)
 (try clear hk)
 (try clear hi)
 refine hK.out _ _ ⟨(blk_cell BK105.out 0).trans rfl,(blk_cell BK105.out 1).trans rfl⟩ (fun hHeld => ?_)
 clear hK K
 refine norm_ (a' := ?_) ?_ ?_
 rotate_left
 ·show Act.put _ (some 23) _ = _
  simp only [Act.put,List.setIfInBounds_toArray,List.set_cons_zero,List.set_cons_succ,i64_w,i32_w]
  rfl
 refine one_ (i := 5) (N := none) #[true,true,true,true,true,true,false,false,false] rfl rfl (one_of HT_.out T15_) T48_ (fun K hK => ?_)
 have hs15 : w14.cell? ⟨gb101,0,none⟩ = some (.int .i64 0) := (blk_cell BK101.out 0).trans rfl
 have hfs15 := blk_frozen BK101.out 0
 have hns15_1 := NB105_101.out
 have hms15_1 := NB101_105.out
 have hs16 : w14.cell? ⟨gb101,1,none⟩ = some (.int .i64 0) := (blk_cell BK101.out 1).trans rfl
 have hfs16 := blk_frozen BK101.out 1
 have hns16_1 := NB105_101.out
 have hms16_1 := NB101_105.out
 refine skip_ (w1 := ?_) (by rfl) rfl ?_ ?_
 rotate_left
 ·go_simp
  rfl
 refine hK.out _ _ ⟨((cell_far (p := ⟨gb101,_,none⟩) NB105_101.out _).trans (((cell_far (p := ⟨gb101,_,none⟩) NB105_101.out _).trans (hHeld.1)))),((cell_far (p := ⟨gb101,_,none⟩) NB105_101.out _).trans (((cell_far (p := ⟨gb101,_,none⟩) NB105_101.out _).trans (hHeld.2))))⟩ (fun hHeld => ?_)
 clear hK K
 refine pZ_ 6 (some 3) #[true,true,true,true,true,true,true,false,false] ?_
 refine pZ_ 7 (some 4) #[true,true,true,true,true,true,true,true,false] ?_
 refine pZ_ 8 (some 5) #[true,true,true,true,true,true,true,true,true] ?_
 refine done_ (done_of HT_.out T15_) ?_
 try go_wp2
 refine bodyPost_ret (results_list (rs := [.cell 2 25,.tmp 3,.tmp 4,.tmp 5]) rfl T49_ (.cell gb101 25 #[.int .i64 t102,.int .i64 t103] (0,0) _ rfl T25_ Try.underlying25 rfl T15_ (.tmp (.tmp (.tmp .nil))))) rfl ?_
 exact ⟨by first | rfl | (simp [errW_none,errW_some] <;> rfl) | (simp [*,errW_none,errW_some] <;> rfl),by repeat (first | (with_reducible first | exact HB.out | apply below_alloc | apply pw_below_drewN | apply below_drew1 | refine below_set ?_ (IsS90.ge HI109.out) | refine below_set ?_ GE101.out | refine below_set ?_ GE105.out) | exact HB.out)⟩
def spec_DrawIsFooling.f (k : Nat) (l0 : List Int) : Option (Int × Int × Int × Int × List Int) := (spec_l20Three.f k l0).bind fun bt102 => ((spec_LargestFooling.f k bt102.1 bt102.2.1 bt102.2.2.1 bt102.2.2.2).bind fun bt107 => (if bt107.2 = true then (if ((l0.length : Int) % 3) > 0 then (some (bt102.1,bt102.2.1,bt102.2.2.1,bt102.2.2.2,bt107.1)) else (some (bt102.1,bt102.2.1,bt102.2.2.1,bt102.2.2.2,(([0,3,5] : List Int))))) else (some (bt102.1,bt102.2.1,bt102.2.2.1,bt102.2.2.2,(([0,3,5] : List Int))))))
set_option maxHeartbeats 8000000 in
set_option maxRecDepth 100000 in
theorem spec_DrawIsFooling.calls (k : Nat) (A0 : Option Addr) (c0 : Nat) (l0 : List Int) (r1 : Int) (r2 : Int) (r3 : Int) (r4 : Int) (r5 : List Int) (w : World) (hr0 : Kd.C (Kd.int .u8) w A0 l0.length l0) (hc0 : l0.length ≤ c0) (h : spec_DrawIsFooling.f k l0 = some (r1,r2,r3,r4,r5)) :
  Calls Try.prog 40 #[.slice A0 l0.length c0] w fun e w' => ∃ v4_ : Value,e = .returned (.tuple #[.agg #[.int .i64 r1,.int .i64 r2],.int .i64 r3,.int .i64 r4,v4_]) ∧ Kd.V (Kd.int .i64) 3 w' w.heap.size (fun k_ => (w.heap.size ≤ k_)) v4_ r5 ∧ Below w.heap.size w w' := by
 have hu25 := Try.underlying25
 have HR0 := aZ_ hr0
 have HC0 := aZ_ hc0
 clear hr0 hc0
 have HB := aZ_ (Below.refl w.heap.size w)
 have H : ((spec_l20Three.f k l0).bind fun bt102 => ((spec_LargestFooling.f k bt102.1 bt102.2.1 bt102.2.2.1 bt102.2.2.2).bind fun bt107 => (if bt107.2 = true then (if ((l0.length : Int) % 3) > 0 then (some (bt102.1,bt102.2.1,bt102.2.2.1,bt102.2.2.2,bt107.1)) else (some (bt102.1,bt102.2.1,bt102.2.2.1,bt102.2.2.2,(([0,3,5] : List Int))))) else (some (bt102.1,bt102.2.1,bt102.2.2.1,bt102.2.2.2,(([0,3,5] : List Int))))))) = some (r1,r2,r3,r4,r5) := h
 clear h
 replace H := Option.bind_eq_some_iff.mp H
 obtain ⟨⟨t102,t103,t104,t105⟩,A20,H⟩ := H
 replace H : ((spec_LargestFooling.f k t102 t103 t104 t105).bind fun bt107 => (if bt107.2 = true then (if ((l0.length : Int) % 3) > 0 then (some (t102,t103,t104,t105,bt107.1)) else (some (t102,t103,t104,t105,(([0,3,5] : List Int))))) else (some (t102,t103,t104,t105,(([0,3,5] : List Int)))))) = some (r1,r2,r3,r4,r5) := H
 have A2 := aZ_ A20
 clear A20
 replace H := Option.bind_eq_some_iff.mp H
 obtain ⟨⟨t107,t110⟩,A30,H⟩ := H
 replace H : (if t110 = true then (if ((l0.length : Int) % 3) > 0 then (some (t102,t103,t104,t105,t107)) else (some (t102,t103,t104,t105,(([0,3,5] : List Int))))) else (some (t102,t103,t104,t105,(([0,3,5] : List Int))))) = some (r1,r2,r3,r4,r5) := H
 have A3 := aZ_ A30
 clear A30
 by_cases c4 : t110 = true
 ·subst c4
  have H1 : (if ((l0.length : Int) % 3) > 0 then (some (t102,t103,t104,t105,t107)) else (some (t102,t103,t104,t105,(([0,3,5] : List Int))))) = some (r1,r2,r3,r4,r5) := by rw [if_pos rfl] at H;exact H
  clear H
  have H := H1
  clear H1
  by_cases c5 : ((l0.length : Int) % 3) > 0
  ·rw [if_pos c5] at H
   have c5b0 : decide (0 < ((l0.length : Int) % 3)) = true := decide_eq_true c5
   clear c5
   simp only [Option.some.injEq,Prod.mk.injEq] at H
   obtain ⟨rfl,rfl,rfl,rfl,rfl⟩ := H
   go_enter Try.func40,Try.ntmps40
   go_wp2_with (first | ((with_reducible refine gate_dst (N := 2) rfl ?_);(try (refine gate_guard (by rfl) ?_;dsimp only));refine box_event ?hg (N := 2) ?hd (cs := #[.int .i64 0,.int .i64 0]) (t := 25) ?hr ?_;(case hd => rfl);(case hg => rfl);(case hr => first | (go_simp;done) | (go_simp;rfl));intro gb101 hg w6 hbox hb;have n0_ := aZ_ (below_step T5_ hb);have n1_ := aZ_ (hbox);have n2_ := aZ_ ((T2_ : w.heap.size ≤ gb101));have n3_ := aZ_ ((T2_ : w.heap.size ≤ gb101));clear HB;have HB := n0_;have BK101 := n1_;have GW101 := n2_;have GE101 := n3_;clear n0_ n1_ n2_ n3_;clear hb hbox hg) | ((with_reducible refine gate_callee (f := 74) rfl ?_);refine goesL_ (some 13) rfl rfl Try.func74 T15_ rfl #[.slice A0 l0.length c0] rfl T4_ ?_;(with_reducible refine (spec_l20Three.calls k _ _ l0 t102 t103 t104 t105 _ ?side1 ?side2 A2.out).mono ?_);(case side1 => repeat (first | exact (Kd.C_below HR0.out HB.out) | (with_reducible refine Kd.C_alloc ?_ _) | (with_reducible refine Kd.C_drewN ?_ _) | (with_reducible refine Kd.C_drew ?_)));(case side2 => exact HC0.out);rintro e w7 ⟨rfl,hb⟩;refine ⟨_,rfl,?_⟩;have n0_ := aZ_ (blk_below (g := gb101) (o := .cells #[.int .i64 0,.int .i64 0] 25 (0,0)) T3_ hb);have n1_ := aZ_ (below_step T1_ hb);clear BK101;clear HB;have BK101 := n0_;have HB := n1_;clear n0_ n1_;(try clear hb);(try clear hb2);(try clear hk);(try clear hi)) | ((with_reducible refine gate_dst (N := 6) rfl ?_);(try (refine gate_guard (by rfl) ?_;dsimp only));refine box_event ?hg (N := 6) ?hd (cs := #[.int .i64 0,.int .i64 0]) (t := 25) ?hr ?_;(case hd => rfl);(case hg => rfl);(case hr => first | (go_simp;done) | (go_simp;rfl));intro gb106 hg w8 hbox hb;have n0_ := aZ_ (blk_below (g := gb101) (o := .cells #[.int .i64 0,.int .i64 0] 25 (0,0)) T3_ hb);have n1_ := aZ_ (below_step T1_ hb);have n2_ := aZ_ (hbox);have n3_ := aZ_ ((T17_ : w.heap.size ≤ gb106));have n4_ := aZ_ ((T17_ : w.heap.size ≤ gb106));have n5_ := aZ_ ((T19_ : gb101 ≠ gb106));have n6_ := aZ_ ((T20_ : gb106 ≠ gb101));clear BK101;clear HB;have BK101 := n0_;have HB := n1_;have BK106 := n2_;have GW106 := n3_;have GE106 := n4_;have NB101_106 := n5_;have NB106_101 := n6_;clear n0_ n1_ n2_ n3_ n4_ n5_ n6_;clear hb hbox hg;have hnb9 := NB106_101.out;have hnc9 := NB101_106.out;have hcz10_0 : w8.cell? ⟨gb106,0,none⟩ = some (.int .i64 0) := (blk_cell BK106.out 0).trans rfl;have hcz10_1 : w8.cell? ⟨gb106,1,none⟩ = some (.int .i64 0) := (blk_cell BK106.out 1).trans rfl;have hfz10_0 := blk_frozen BK106.out 0;have hfz10_1 := blk_frozen BK106.out 1) | ((with_reducible refine gate_callee (f := 33) rfl ?_);refine goesL_ (some 21) rfl rfl Try.func33 T15_ rfl #[.agg #[.int .i64 t102,.int .i64 t103],.int .i64 t104,.int .i64 t105] rfl T4_ ?_;(with_reducible refine (spec_LargestFooling.calls k t102 t103 t104 t105 t107 true _ A3.out).mono ?_);rintro e w11 ⟨v108,rfl,ho0,hb⟩;refine ⟨_,rfl,?_⟩;have n0_ := aZ_ (Kd.V_lower (Kd.V_mono (ok' := fun k_ => (w.heap.size ≤ k_) ∧ k_ ≠ gb101 ∧ k_ ≠ gb106) ho0 (fun k_ hk_ => ⟨(Nat.le_trans (below_size T16_) hk_),(Kd.freshB (g := gb101) (o := .cells #[.int .i64 0,.int .i64 0] 25 (0,0)) T21_ k_ hk_),(Kd.freshB (g := gb106) (o := .cells #[.int .i64 t102,.int .i64 t103] 25 (0,0)) T18_ k_ hk_)⟩)) (below_size T16_));have n1_ := aZ_ (blk_below (g := gb101) (o := .cells #[.int .i64 0,.int .i64 0] 25 (0,0)) T21_ hb);have n2_ := aZ_ (blk_below (g := gb106) (o := .cells #[.int .i64 t102,.int .i64 t103] 25 (0,0)) T18_ hb);have n3_ := aZ_ (below_step T16_ hb);clear BK101;clear BK106;clear HB;have HO109 := n0_;have BK101 := n1_;have BK106 := n2_;have HB := n3_;clear n0_ n1_ n2_ n3_;(try clear hb);(try clear hb2);(try clear hk);(try clear hi);(try clear ho0);have hcz12_0 : w11.cell? ⟨gb106,0,none⟩ = some (.int .i64 t102) := (blk_cell BK106.out 0).trans rfl;have hcz12_1 : w11.cell? ⟨gb106,1,none⟩ = some (.int .i64 t103) := (blk_cell BK106.out 1).trans rfl;have hfz12_0 := blk_frozen BK106.out 0;have hfz12_1 := blk_frozen BK106.out 1;have hcz13_0 : w11.cell? ⟨gb101,0,none⟩ = some (.int .i64 0) := (blk_cell BK101.out 0).trans rfl;have hcz13_1 : w11.cell? ⟨gb101,1,none⟩ = some (.int .i64 0) := (blk_cell BK101.out 1).trans rfl;have hfz13_0 := blk_frozen BK101.out 0;have hfz13_1 := blk_frozen BK101.out 1))
   refine bodyPost_ret (results_list (rs := [.cell 2 25,.tmp 3,.tmp 4,.tmp 5]) rfl T49_ (.cell gb101 25 #[.int .i64 t102,.int .i64 t103] (0,0) _ rfl T25_ Try.underlying25 rfl T15_ (.tmp (.tmp (.tmp .nil))))) rfl ?_
   exact ⟨_,by first | rfl | (simp [errW_none,errW_some] <;> rfl) | (simp [*,errW_none,errW_some] <;> rfl),by (with_reducible repeat (first | apply Kd.V_alloc | apply Kd.V_drewN | apply Kd.V_drew));exact Kd.V_mono (Kd.V_far (p := ⟨gb101,1,none⟩) (Kd.V_far (p := ⟨gb101,0,none⟩) (Kd.V_mono HO109.out (fun k_ hk => (⟨hk,hk.2.1⟩ : _ ∧ k_ ≠ gb101))) (fun _ hk => hk.2) (.int .i64 t102)) (fun _ hk => hk.2) (.int .i64 t103)) (fun _ hk => hk.1.1),by repeat (first | (with_reducible first | exact HB.out | apply below_alloc | apply pw_below_drewN | apply below_drew1 | refine below_set ?_ GE101.out | refine below_set ?_ GE106.out) | exact HB.out)⟩
  ·rw [if_neg c5] at H
   have c5b0 : decide (0 < ((l0.length : Int) % 3)) = false := decide_eq_false c5
   clear c5
   obtain ⟨y111,hy111⟩ : ∃ y_ : List Int,y_ = (([0,3,5] : List Int)) := ⟨_,rfl⟩
   replace H : (some (t102,t103,t104,t105,y111)) = some (r1,r2,r3,r4,r5) := by first | (rw [hy111];with_reducible exact H) | (have H2_ := (Option.bind_some _ _).symm.trans H;rw [hy111];with_reducible exact H2_) | (have H2_ := (Option.bind_some _ _).symm.trans H;with_reducible exact H2_) | with_reducible exact H | (rw [hy111];exact H) | exact H
   have Ny111 := aZ_ hy111
   clear hy111
   simp only [Option.some.injEq,Prod.mk.injEq] at H
   obtain ⟨rfl,rfl,rfl,rfl,rfl⟩ := H
   go_enter Try.func40,Try.ntmps40
   go_wp2_with (first | ((with_reducible refine gate_dst (N := 2) rfl ?_);(try (refine gate_guard (by rfl) ?_;dsimp only));refine box_event ?hg (N := 2) ?hd (cs := #[.int .i64 0,.int .i64 0]) (t := 25) ?hr ?_;(case hd => rfl);(case hg => rfl);(case hr => first | (go_simp;done) | (go_simp;rfl));intro gb101 hg w14 hbox hb;have n0_ := aZ_ (below_step T5_ hb);have n1_ := aZ_ (hbox);have n2_ := aZ_ ((T2_ : w.heap.size ≤ gb101));have n3_ := aZ_ ((T2_ : w.heap.size ≤ gb101));clear HB;have HB := n0_;have BK101 := n1_;have GW101 := n2_;have GE101 := n3_;clear n0_ n1_ n2_ n3_;clear hb hbox hg) | ((with_reducible refine gate_callee (f := 74) rfl ?_);refine goesL_ (some 13) rfl rfl Try.func74 T15_ rfl #[.slice A0 l0.length c0] rfl T4_ ?_;(with_reducible refine (spec_l20Three.calls k _ _ l0 t102 t103 t104 t105 _ ?side1 ?side2 A2.out).mono ?_);(case side1 => repeat (first | exact (Kd.C_below HR0.out HB.out) | (with_reducible refine Kd.C_alloc ?_ _) | (with_reducible refine Kd.C_drewN ?_ _) | (with_reducible refine Kd.C_drew ?_)));(case side2 => exact HC0.out);rintro e w15 ⟨rfl,hb⟩;refine ⟨_,rfl,?_⟩;have n0_ := aZ_ (blk_below (g := gb101) (o := .cells #[.int .i64 0,.int .i64 0] 25 (0,0)) T3_ hb);have n1_ := aZ_ (below_step T1_ hb);clear BK101;clear HB;have BK101 := n0_;have HB := n1_;clear n0_ n1_;(try clear hb);(try clear hb2);(try clear hk);(try clear hi)) | ((with_reducible refine gate_dst (N := 6) rfl ?_);(try (refine gate_guard (by rfl) ?_;dsimp only));refine box_event ?hg (N := 6) ?hd (cs := #[.int .i64 0,.int .i64 0]) (t := 25) ?hr ?_;(case hd => rfl);(case hg => rfl);(case hr => first | (go_simp;done) | (go_simp;rfl));intro gb106 hg w16 hbox hb;have n0_ := aZ_ (blk_below (g := gb101) (o := .cells #[.int .i64 0,.int .i64 0] 25 (0,0)) T3_ hb);have n1_ := aZ_ (below_step T1_ hb);have n2_ := aZ_ (hbox);have n3_ := aZ_ ((T17_ : w.heap.size ≤ gb106));have n4_ := aZ_ ((T17_ : w.heap.size ≤ gb106));have n5_ := aZ_ ((T19_ : gb101 ≠ gb106));have n6_ := aZ_ ((T20_ : gb106 ≠ gb101));clear BK101;clear HB;have BK101 := n0_;have HB := n1_;have BK106 := n2_;have GW106 := n3_;have GE106 := n4_;have NB101_106 := n5_;have NB106_101 := n6_;clear n0_ n1_ n2_ n3_ n4_ n5_ n6_;clear hb hbox hg;have hnb17 := NB106_101.out;have hnc17 := NB101_106.out;have hcz18_0 : w16.cell? ⟨gb106,0,none⟩ = some (.int .i64 0) := (blk_cell BK106.out 0).trans rfl;have hcz18_1 : w16.cell? ⟨gb106,1,none⟩ = some (.int .i64 0) := (blk_cell BK106.out 1).trans rfl;have hfz18_0 := blk_frozen BK106.out 0;have hfz18_1 := blk_frozen BK106.out 1) | ((with_reducible refine gate_callee (f := 33) rfl ?_);refine goesL_ (some 21) rfl rfl Try.func33 T15_ rfl #[.agg #[.int .i64 t102,.int .i64 t103],.int .i64 t104,.int .i64 t105] rfl T4_ ?_;(with_reducible refine (spec_LargestFooling.calls k t102 t103 t104 t105 t107 true _ A3.out).mono ?_);rintro e w19 ⟨v108,rfl,ho0,hb⟩;refine ⟨_,rfl,?_⟩;have n0_ := aZ_ (Kd.V_lower (Kd.V_mono (ok' := fun k_ => (w.heap.size ≤ k_) ∧ k_ ≠ gb101 ∧ k_ ≠ gb106) ho0 (fun k_ hk_ => ⟨(Nat.le_trans (below_size T16_) hk_),(Kd.freshB (g := gb101) (o := .cells #[.int .i64 0,.int .i64 0] 25 (0,0)) T21_ k_ hk_),(Kd.freshB (g := gb106) (o := .cells #[.int .i64 t102,.int .i64 t103] 25 (0,0)) T18_ k_ hk_)⟩)) (below_size T16_));have n1_ := aZ_ (blk_below (g := gb101) (o := .cells #[.int .i64 0,.int .i64 0] 25 (0,0)) T21_ hb);have n2_ := aZ_ (blk_below (g := gb106) (o := .cells #[.int .i64 t102,.int .i64 t103] 25 (0,0)) T18_ hb);have n3_ := aZ_ (below_step T16_ hb);clear BK101;clear BK106;clear HB;have HO109 := n0_;have BK101 := n1_;have BK106 := n2_;have HB := n3_;clear n0_ n1_ n2_ n3_;(try clear hb);(try clear hb2);(try clear hk);(try clear hi);(try clear ho0);have hcz20_0 : w19.cell? ⟨gb106,0,none⟩ = some (.int .i64 t102) := (blk_cell BK106.out 0).trans rfl;have hcz20_1 : w19.cell? ⟨gb106,1,none⟩ = some (.int .i64 t103) := (blk_cell BK106.out 1).trans rfl;have hfz20_0 := blk_frozen BK106.out 0;have hfz20_1 := blk_frozen BK106.out 1) | ((with_reducible refine gate_dst (N := 38) rfl ?_);(try (refine gate_guard (by rfl) ?_;dsimp only));refine Kd.R_lit (Kd.int .i64) _ 3 ?hg (N := 38) ?hd (xs := ([0,3,5] : List Int)) (inner := [.int .i64 0,.int .i64 3,.int .i64 5]) (ok := fun _ => True) (okp := fun _ => True) ?hr ?hp (fun _ hk => hk) trivial (Below.refl _ _) (Nat.le_refl _) T49_ ?_;(case hd => rfl);(case hg => rfl);(case hr => first | (go_simp;done) | (go_simp;rfl));(case hp => exact (Reps.one (show Kd.M (Kd.int .i64) _ _ _ 0 [.int .i64 0] from rfl) (Reps.one (show Kd.M (Kd.int .i64) _ _ _ 3 [.int .i64 3] from rfl) (Reps.one (show Kd.M (Kd.int .i64) _ _ _ 5 [.int .i64 5] from rfl) (Reps.none _ _)))));intro v112 w21 ho22 hb hg_ hnew_;clear hg_ hnew_;(first | rw [← Ny111.out] at ho22 | (simp only [Int.reduceToNat] at ho22;rw [← Ny111.out] at ho22));have n0_ := aZ_ (Kd.V_elder' (by (with_reducible repeat (first | apply Kd.V_alloc | apply Kd.V_drewN | apply Kd.V_drew));exact HO109.out) (Kd.R_base ho22) hb);have n1_ := aZ_ (Kd.R_lower (Kd.R_newM (M := fun k_ => (w.heap.size ≤ k_)) ho22 (below_size T16_) (fun k_ h_ => h_)) (below_size T16_));have n2_ := aZ_ (blk_below (g := gb101) (o := .cells #[.int .i64 0,.int .i64 0] 25 (0,0)) T3_ hb);have n3_ := aZ_ (blk_below (g := gb106) (o := .cells #[.int .i64 t102,.int .i64 t103] 25 (0,0)) T71_ hb);have n4_ := aZ_ (below_step T16_ hb);clear HO109;clear BK101;clear BK106;clear HB;have HO109 := n0_;have HO113 := n1_;have BK101 := n2_;have BK106 := n3_;have HB := n4_;clear n0_ n1_ n2_ n3_ n4_;clear hb ho22;have hcz23_0 : w21.cell? ⟨gb101,0,none⟩ = some (.int .i64 0) := (blk_cell BK101.out 0).trans rfl;have hcz23_1 : w21.cell? ⟨gb101,1,none⟩ = some (.int .i64 0) := (blk_cell BK101.out 1).trans rfl;have hfz23_0 := blk_frozen BK101.out 0;have hfz23_1 := blk_frozen BK101.out 1))
   refine bodyPost_ret (results_list (rs := [.cell 2 25,.tmp 3,.tmp 4,.tmp 5]) rfl T49_ (.cell gb101 25 #[.int .i64 t102,.int .i64 t103] (0,0) _ rfl T25_ Try.underlying25 rfl T15_ (.tmp (.tmp (.tmp .nil))))) rfl ?_
   exact ⟨_,by first | rfl | (simp [errW_none,errW_some] <;> rfl) | (simp [*,errW_none,errW_some] <;> rfl),Kd.R_V (by (with_reducible repeat (first | apply Kd.R_alloc | apply Kd.R_drewN | apply Kd.R_drew));exact Kd.R_mono (Kd.R_far (p := ⟨gb101,1,none⟩) (Kd.R_far (p := ⟨gb101,0,none⟩) (Kd.R_types HO113.out BK101.out T48_) (fun _ hk => hk.2) (.int .i64 t102)) (fun _ hk => hk.2) (.int .i64 t103)) (fun _ hk => hk.1.1)),by repeat (first | (with_reducible first | exact HB.out | apply below_alloc | apply pw_below_drewN | apply below_drew1 | refine below_set ?_ GE101.out | refine below_set ?_ GE106.out) | exact HB.out)⟩
 ·replace c4 := Bool.eq_false_iff.mpr c4
  subst c4
  have H1 : (some (t102,t103,t104,t105,(([0,3,5] : List Int)))) = some (r1,r2,r3,r4,r5) := by rw [if_neg (show ¬ (false = true) by decide)] at H;exact H
  clear H
  have H := H1
  clear H1
  obtain ⟨y114,hy114⟩ : ∃ y_ : List Int,y_ = (([0,3,5] : List Int)) := ⟨_,rfl⟩
  replace H : (some (t102,t103,t104,t105,y114)) = some (r1,r2,r3,r4,r5) := by first | (rw [hy114];with_reducible exact H) | (have H2_ := (Option.bind_some _ _).symm.trans H;rw [hy114];with_reducible exact H2_) | (have H2_ := (Option.bind_some _ _).symm.trans H;with_reducible exact H2_) | with_reducible exact H | (rw [hy114];exact H) | exact H
  have Ny114 := aZ_ hy114
  clear hy114
  simp only [Option.some.injEq,Prod.mk.injEq] at H
  obtain ⟨rfl,rfl,rfl,rfl,rfl⟩ := H
  go_enter Try.func40,Try.ntmps40
  go_wp2_with (first | ((with_reducible refine gate_dst (N := 2) rfl ?_);(try (refine gate_guard (by rfl) ?_;dsimp only));refine box_event ?hg (N := 2) ?hd (cs := #[.int .i64 0,.int .i64 0]) (t := 25) ?hr ?_;(case hd => rfl);(case hg => rfl);(case hr => first | (go_simp;done) | (go_simp;rfl));intro gb101 hg w24 hbox hb;have n0_ := aZ_ (below_step T5_ hb);have n1_ := aZ_ (hbox);have n2_ := aZ_ ((T2_ : w.heap.size ≤ gb101));have n3_ := aZ_ ((T2_ : w.heap.size ≤ gb101));clear HB;have HB := n0_;have BK101 := n1_;have GW101 := n2_;have GE101 := n3_;clear n0_ n1_ n2_ n3_;clear hb hbox hg) | ((with_reducible refine gate_callee (f := 74) rfl ?_);refine goesL_ (some 13) rfl rfl Try.func74 T15_ rfl #[.slice A0 l0.length c0] rfl T4_ ?_;(with_reducible refine (spec_l20Three.calls k _ _ l0 t102 t103 t104 t105 _ ?side1 ?side2 A2.out).mono ?_);(case side1 => repeat (first | exact (Kd.C_below HR0.out HB.out) | (with_reducible refine Kd.C_alloc ?_ _) | (with_reducible refine Kd.C_drewN ?_ _) | (with_reducible refine Kd.C_drew ?_)));(case side2 => exact HC0.out);rintro e w25 ⟨rfl,hb⟩;refine ⟨_,rfl,?_⟩;have n0_ := aZ_ (blk_below (g := gb101) (o := .cells #[.int .i64 0,.int .i64 0] 25 (0,0)) T3_ hb);have n1_ := aZ_ (below_step T1_ hb);clear BK101;clear HB;have BK101 := n0_;have HB := n1_;clear n0_ n1_;(try clear hb);(try clear hb2);(try clear hk);(try clear hi)) | ((with_reducible refine gate_dst (N := 6) rfl ?_);(try (refine gate_guard (by rfl) ?_;dsimp only));refine box_event ?hg (N := 6) ?hd (cs := #[.int .i64 0,.int .i64 0]) (t := 25) ?hr ?_;(case hd => rfl);(case hg => rfl);(case hr => first | (go_simp;done) | (go_simp;rfl));intro gb106 hg w26 hbox hb;have n0_ := aZ_ (blk_below (g := gb101) (o := .cells #[.int .i64 0,.int .i64 0] 25 (0,0)) T3_ hb);have n1_ := aZ_ (below_step T1_ hb);have n2_ := aZ_ (hbox);have n3_ := aZ_ ((T17_ : w.heap.size ≤ gb106));have n4_ := aZ_ ((T17_ : w.heap.size ≤ gb106));have n5_ := aZ_ ((T19_ : gb101 ≠ gb106));have n6_ := aZ_ ((T20_ : gb106 ≠ gb101));clear BK101;clear HB;have BK101 := n0_;have HB := n1_;have BK106 := n2_;have GW106 := n3_;have GE106 := n4_;have NB101_106 := n5_;have NB106_101 := n6_;clear n0_ n1_ n2_ n3_ n4_ n5_ n6_;clear hb hbox hg;have hnb27 := NB106_101.out;have hnc27 := NB101_106.out;have hcz28_0 : w26.cell? ⟨gb106,0,none⟩ = some (.int .i64 0) := (blk_cell BK106.out 0).trans rfl;have hcz28_1 : w26.cell? ⟨gb106,1,none⟩ = some (.int .i64 0) := (blk_cell BK106.out 1).trans rfl;have hfz28_0 := blk_frozen BK106.out 0;have hfz28_1 := blk_frozen BK106.out 1) | ((with_reducible refine gate_callee (f := 33) rfl ?_);refine goesL_ (some 21) rfl rfl Try.func33 T15_ rfl #[.agg #[.int .i64 t102,.int .i64 t103],.int .i64 t104,.int .i64 t105] rfl T4_ ?_;(with_reducible refine (spec_LargestFooling.calls k t102 t103 t104 t105 t107 false _ A3.out).mono ?_);rintro e w29 ⟨v108,rfl,ho0,hb⟩;refine ⟨_,rfl,?_⟩;have n0_ := aZ_ (Kd.V_lower (Kd.V_mono (ok' := fun k_ => (w.heap.size ≤ k_) ∧ k_ ≠ gb101 ∧ k_ ≠ gb106) ho0 (fun k_ hk_ => ⟨(Nat.le_trans (below_size T16_) hk_),(Kd.freshB (g := gb101) (o := .cells #[.int .i64 0,.int .i64 0] 25 (0,0)) T21_ k_ hk_),(Kd.freshB (g := gb106) (o := .cells #[.int .i64 t102,.int .i64 t103] 25 (0,0)) T18_ k_ hk_)⟩)) (below_size T16_));have n1_ := aZ_ (blk_below (g := gb101) (o := .cells #[.int .i64 0,.int .i64 0] 25 (0,0)) T21_ hb);have n2_ := aZ_ (blk_below (g := gb106) (o := .cells #[.int .i64 t102,.int .i64 t103] 25 (0,0)) T18_ hb);have n3_ := aZ_ (below_step T16_ hb);clear BK101;clear BK106;clear HB;have HO109 := n0_;have BK101 := n1_;have BK106 := n2_;have HB := n3_;clear n0_ n1_ n2_ n3_;(try clear hb);(try clear hb2);(try clear hk);(try clear hi);(try clear ho0);have hcz30_0 : w29.cell? ⟨gb106,0,none⟩ = some (.int .i64 t102) := (blk_cell BK106.out 0).trans rfl;have hcz30_1 : w29.cell? ⟨gb106,1,none⟩ = some (.int .i64 t103) := (blk_cell BK106.out 1).trans rfl;have hfz30_0 := blk_frozen BK106.out 0;have hfz30_1 := blk_frozen BK106.out 1) | ((with_reducible refine gate_dst (N := 38) rfl ?_);(try (refine gate_guard (by rfl) ?_;dsimp only));refine Kd.R_lit (Kd.int .i64) _ 3 ?hg (N := 38) ?hd (xs := ([0,3,5] : List Int)) (inner := [.int .i64 0,.int .i64 3,.int .i64 5]) (ok := fun _ => True) (okp := fun _ => True) ?hr ?hp (fun _ hk => hk) trivial (Below.refl _ _) (Nat.le_refl _) T49_ ?_;(case hd => rfl);(case hg => rfl);(case hr => first | (go_simp;done) | (go_simp;rfl));(case hp => exact (Reps.one (show Kd.M (Kd.int .i64) _ _ _ 0 [.int .i64 0] from rfl) (Reps.one (show Kd.M (Kd.int .i64) _ _ _ 3 [.int .i64 3] from rfl) (Reps.one (show Kd.M (Kd.int .i64) _ _ _ 5 [.int .i64 5] from rfl) (Reps.none _ _)))));intro v115 w31 ho32 hb hg_ hnew_;clear hg_ hnew_;(first | rw [← Ny114.out] at ho32 | (simp only [Int.reduceToNat] at ho32;rw [← Ny114.out] at ho32));have n0_ := aZ_ (Kd.V_elder' (by (with_reducible repeat (first | apply Kd.V_alloc | apply Kd.V_drewN | apply Kd.V_drew));exact HO109.out) (Kd.R_base ho32) hb);have n1_ := aZ_ (Kd.R_lower (Kd.R_newM (M := fun k_ => (w.heap.size ≤ k_)) ho32 (below_size T16_) (fun k_ h_ => h_)) (below_size T16_));have n2_ := aZ_ (blk_below (g := gb101) (o := .cells #[.int .i64 0,.int .i64 0] 25 (0,0)) T3_ hb);have n3_ := aZ_ (blk_below (g := gb106) (o := .cells #[.int .i64 t102,.int .i64 t103] 25 (0,0)) T71_ hb);have n4_ := aZ_ (below_step T16_ hb);clear HO109;clear BK101;clear BK106;clear HB;have HO109 := n0_;have HO116 := n1_;have BK101 := n2_;have BK106 := n3_;have HB := n4_;clear n0_ n1_ n2_ n3_ n4_;clear hb ho32;have hcz33_0 : w31.cell? ⟨gb101,0,none⟩ = some (.int .i64 0) := (blk_cell BK101.out 0).trans rfl;have hcz33_1 : w31.cell? ⟨gb101,1,none⟩ = some (.int .i64 0) := (blk_cell BK101.out 1).trans rfl;have hfz33_0 := blk_frozen BK101.out 0;have hfz33_1 := blk_frozen BK101.out 1))
  refine bodyPost_ret (results_list (rs := [.cell 2 25,.tmp 3,.tmp 4,.tmp 5]) rfl T49_ (.cell gb101 25 #[.int .i64 t102,.int .i64 t103] (0,0) _ rfl T25_ Try.underlying25 rfl T15_ (.tmp (.tmp (.tmp .nil))))) rfl ?_
  exact ⟨_,by first | rfl | (simp [errW_none,errW_some] <;> rfl) | (simp [*,errW_none,errW_some] <;> rfl),Kd.R_V (by (with_reducible repeat (first | apply Kd.R_alloc | apply Kd.R_drewN | apply Kd.R_drew));exact Kd.R_mono (Kd.R_far (p := ⟨gb101,1,none⟩) (Kd.R_far (p := ⟨gb101,0,none⟩) (Kd.R_types HO116.out BK101.out T48_) (fun _ hk => hk.2) (.int .i64 t102)) (fun _ hk => hk.2) (.int .i64 t103)) (fun _ hk => hk.1.1)),by repeat (first | (with_reducible first | exact HB.out | apply below_alloc | apply pw_below_drewN | apply below_drew1 | refine below_set ?_ GE101.out | refine below_set ?_ GE106.out) | exact HB.out)⟩
mutual
def spec_RankMod2.l0 : Nat → List Int → List Int → Int → Option (Int)
 | 0,_,_,_ => none
 | k + 1,x0,x3,x4 => if x4 < (x0.length : Int) then (if 0 ≤ x4 then ((spec_l1In.f (rd x0 x4) 0 4294967295).bind fun t105 => (if t105 = true then (spec_RankMod2.j1 k x0 x3 x4 (decide (x4 > 31))) else (spec_RankMod2.j1 k x0 x3 x4 true))) else (none)) else (some (x3.length : Int))
def spec_RankMod2.j1 : Nat → List Int → List Int → Int → Bool → Option (Int)
 | 0,_,_,_,_ => none
 | k + 1,x0,x3,x4,x23 => if x23 = true then (some (-1)) else (if 0 ≤ x4 then (if x4 < (x0.length : Int) then (spec_RankMod2.l1 k x0 x3 x4 (rd x0 x4) 0) else (none)) else (none))
def spec_RankMod2.l1 : Nat → List Int → List Int → Int → Int → Int → Option (Int)
 | 0,_,_,_,_,_ => none
 | k + 1,x0,x3,x4,x5,x6 => if x6 < (x3.length : Int) then (if 0 ≤ x6 then (spec_RankMod2.l1 k x0 x3 x4 (mn x5 (Go.bits .xor .i64 x5 (rd x3 x6))) (wrap64 (x6 + 1))) else (none)) else (if x5 > 0 then (if x3.length < 17592186044416 then (spec_RankMod2.l0 k x0 (x3 ++ [x5]) (wrap64 (x4 + 1))) else (none)) else (spec_RankMod2.l0 k x0 x3 (wrap64 (x4 + 1))))
end
def spec_RankMod2.f (k : Nat) (l0 : List Int) : Option (Int) := spec_RankMod2.l0 k l0 (([] : List Int)) 0
set_option maxHeartbeats 8000000 in
set_option maxRecDepth 100000 in
theorem spec_RankMod2.calls (k : Nat) (A0 : Option Addr) (c0 : Nat) (l0 : List Int) (r : Int) (w : World) (hr0 : Kd.C (Kd.int .i64) w A0 l0.length l0) (hc0 : l0.length ≤ c0) (h : spec_RankMod2.f k l0 = some r) :
  Calls Try.prog 41 #[.slice A0 l0.length c0] w fun e w' => e = .returned (.int .i64 r) ∧ Below w.heap.size w w' := by
 have HR0 := aZ_ hr0
 have HC0 := aZ_ hc0
 clear hr0 hc0
 have HB := aZ_ (Below.refl w.heap.size w)
 have H : (spec_RankMod2.l0 k l0 (([] : List Int)) 0) = some r := h
 clear h
 obtain ⟨y101,hy101⟩ : ∃ y_ : List Int,y_ = (([] : List Int)) := ⟨_,rfl⟩
 replace H : (spec_RankMod2.l0 k l0 y101 0) = some r := by first | (rw [hy101];with_reducible exact H) | (have H2_ := (Option.bind_some _ _).symm.trans H;rw [hy101];with_reducible exact H2_) | (have H2_ := (Option.bind_some _ _).symm.trans H;with_reducible exact H2_) | with_reducible exact H | (rw [hy101];exact H) | exact H
 have Ny101 := aZ_ hy101
 clear hy101
 have H' := aZ_ H
 clear H
 go_enter Try.func41,Try.ntmps41
 go_wp2_with (first | ((with_reducible refine gate_dst (N := 7) rfl ?_);refine Kd.R_lit (Kd.int .i64) _ 3 ?hg (N := 7) ?hd (xs := ([] : List Int)) (inner := []) (ok := fun _ => True) (okp := fun _ => True) ?hr ?hp (fun _ hk => hk) trivial (Below.refl _ _) (Nat.le_refl _) T49_ ?_;(case hd => rfl);(case hg => rfl);(case hr => first | (go_simp;done) | (go_simp;rfl));(case hp => exact (Reps.none _ _));intro v102 w2 ho3 hb hg_ hnew_;clear hg_ hnew_;(first | rw [← Ny101.out] at ho3 | (simp only [Int.reduceToNat] at ho3;rw [← Ny101.out] at ho3));have n0_ := aZ_ (Kd.R_lower ho3 (below_size T5_));have n1_ := aZ_ (below_step T5_ hb);clear HB;have HO103 := n0_;have HB := n1_;clear n0_ n1_;clear hb ho3))
 go_loopg [3,4] k (fun kq v3 v4 w' => ∃ (x3_1 : List Int) (x4_1 : Int),v4 = .int .i64 x4_1 ∧ Aside0 (spec_RankMod2.l0 kq l0 x3_1 x4_1 = some r) ∧ Aside0 (kq ≤ k) ∧ Aside0 (Kd.R (Kd.int .i64) 3 w' w.heap.size (fun _ => True) v3 x3_1) ∧ Aside0 (Below w.heap.size w w'))
 case atStart => exact ⟨(y101),(0),T10_,H',⟨Nat.le_refl _⟩,⟨by (with_reducible repeat (first | apply Kd.R_alloc | apply Kd.R_drewN | apply Kd.R_drew));exact HO103.out⟩,⟨by repeat (first | (with_reducible first | exact HB.out | apply below_alloc | apply pw_below_drewN | apply below_drew1) | exact HB.out)⟩⟩
 case round =>
  clear H'
  try clear p2
  obtain ⟨x3_1,x4_1,rfl,HA,HK1,HO_3,HB⟩ := hrel
  cases gk with
  | zero => exact absurd HA.out (by simp [spec_RankMod2.l0])
  | succ k1 =>
   have H := HA.out
   clear HA
   simp only [spec_RankMod2.l0] at H
   by_cases c4 : x4_1 < (l0.length : Int)
   ·rw [if_pos c4] at H
    have c4b0 : decide (x4_1 < (l0.length : Int)) = true := decide_eq_true c4
    clear c4
    have HC5 := aZ_ H
    clear H
    go_upto_region 5 with (fail)
    go_cut [23] (fun v23 wc => ∃ (kq : Nat) (x23_4 : Bool),v23 = .bool x23_4 ∧ Aside0 (spec_RankMod2.j1 kq l0 x3_1 x4_1 x23_4 = some r) ∧ Aside0 (kq ≤ k1) ∧ Aside0 (Kd.R (Kd.int .i64) 3 wc w.heap.size (fun _ => True) u3 x3_1) ∧ Aside0 (Below w.heap.size w wc))
    case first =>
     have H := HC5.out
     clear HC5
     by_cases c6 : 0 ≤ x4_1
     ·rw [if_pos c6] at H
      have c6b0 : decide (0 ≤ x4_1) = true := decide_eq_true c6
      clear c6
      (first | rw [c6b0] | (simp only [i64_w,i32_w];rw [c6b0]) | skip)
      replace H := Option.bind_eq_some_iff.mp H
      obtain ⟨t105,A70,H⟩ := H
      replace H : (if t105 = true then (spec_RankMod2.j1 k1 l0 x3_1 x4_1 (decide (x4_1 > 31))) else (spec_RankMod2.j1 k1 l0 x3_1 x4_1 true)) = some r := H
      have A7 := aZ_ A70
      clear A70
      by_cases c8 : t105 = true
      ·subst c8
       have H1 : (spec_RankMod2.j1 k1 l0 x3_1 x4_1 (decide (x4_1 > 31))) = some r := by rw [if_pos rfl] at H;exact H
       clear H
       have H := H1
       clear H1
       have H' := aZ_ H
       clear H
       have p104 : 0 ≤ (x4_1 : Int) := of_decide_eq_true T6_
       have q104 : x4_1 < (l0.length : Int) := of_decide_eq_true T6_
       obtain ⟨ad104,e104,hx104_0⟩ := Kd.at_int HR0.out x4_1 p104 q104
       cases e104
       replace hx104_0 := (HB.out.cell (World.block_lt_of_cell? w _ hx104_0)).trans hx104_0
       replace p104 := eq_true p104
       replace q104 := eq_true q104
       go_wp2_with (first | ((with_reducible refine gate_callee (f := 61) rfl ?_);refine goesL_ (some 18) rfl rfl Try.func61 T15_ rfl #[.int .i64 (rd l0 x4_1),.int .i64 0,.int .i64 4294967295] rfl T4_ ?_;(with_reducible refine (spec_l1In.calls (rd l0 x4_1) 0 4294967295 true _ A7.out).mono ?_);rintro e w' ⟨rfl,⟨nd,rfl⟩⟩;refine ⟨_,rfl,?_⟩))
       go_meet
       case rel => exact ⟨_,(decide (x4_1 > 31)),T10_,H',⟨by have := HK1.out;first | omega | exact Nat.le_refl _⟩,⟨by (with_reducible repeat (first | apply Kd.R_alloc | apply Kd.R_drewN | apply Kd.R_drew));exact HO_3.out⟩,⟨by repeat (first | (with_reducible first | exact HB.out | apply below_alloc | apply pw_below_drewN | apply below_drew1) | exact HB.out)⟩⟩
      ·replace c8 := Bool.eq_false_iff.mpr c8
       subst c8
       have H1 : (spec_RankMod2.j1 k1 l0 x3_1 x4_1 true) = some r := by rw [if_neg (show ¬ (false = true) by decide)] at H;exact H
       clear H
       have H := H1
       clear H1
       have H' := aZ_ H
       clear H
       have p104 : 0 ≤ (x4_1 : Int) := of_decide_eq_true T6_
       have q104 : x4_1 < (l0.length : Int) := of_decide_eq_true T6_
       obtain ⟨ad104,e104,hx104_0⟩ := Kd.at_int HR0.out x4_1 p104 q104
       cases e104
       replace hx104_0 := (HB.out.cell (World.block_lt_of_cell? w _ hx104_0)).trans hx104_0
       replace p104 := eq_true p104
       replace q104 := eq_true q104
       go_wp2_with (first | ((with_reducible refine gate_callee (f := 61) rfl ?_);refine goesL_ (some 18) rfl rfl Try.func61 T15_ rfl #[.int .i64 (rd l0 x4_1),.int .i64 0,.int .i64 4294967295] rfl T4_ ?_;(with_reducible refine (spec_l1In.calls (rd l0 x4_1) 0 4294967295 false _ A7.out).mono ?_);rintro e w' ⟨rfl,⟨nd,rfl⟩⟩;refine ⟨_,rfl,?_⟩))
       go_meet
       case rel => exact ⟨_,(true),T10_,H',⟨by have := HK1.out;first | omega | exact Nat.le_refl _⟩,⟨by (with_reducible repeat (first | apply Kd.R_alloc | apply Kd.R_drewN | apply Kd.R_drew));exact HO_3.out⟩,⟨by repeat (first | (with_reducible first | exact HB.out | apply below_alloc | apply pw_below_drewN | apply below_drew1) | exact HB.out)⟩⟩
     ·rw [if_neg c6] at H
      exact absurd H T49_
    case rest =>
     clear HC5
     try clear p1
     try clear q1
     try clear hx1
     try clear p2
     try clear c4
     try clear c4b0
     try clear c6
     try clear c6b0
     try clear c8
     try clear hx104_0
     try clear p104
     try clear p2
     try clear q104
     obtain ⟨kq,x23_4,rfl,HA,HJ4,HO_3,HB⟩ := hcut
     cases kq with
     | zero => exact absurd HA.out (by simp [spec_RankMod2.j1])
     | succ kj4 =>
      have H := HA.out
      clear HA
      simp only [spec_RankMod2.j1] at H
      by_cases c9 : x23_4 = true
      ·subst c9
       have H1 : (some (-1)) = some r := by rw [if_pos rfl] at H;exact H
       clear H
       have H := H1
       clear H1
       obtain rfl := Option.some.inj H
       go_wp2
       go_ret
       exact ⟨by first | rfl | (simp [errW_none,errW_some] <;> rfl) | (simp [*,errW_none,errW_some] <;> rfl),by repeat (first | (with_reducible first | exact HB.out | apply below_alloc | apply pw_below_drewN | apply below_drew1) | exact HB.out)⟩
      ·replace c9 := Bool.eq_false_iff.mpr c9
       subst c9
       have H1 : (if 0 ≤ x4_1 then (if x4_1 < (l0.length : Int) then (spec_RankMod2.l1 kj4 l0 x3_1 x4_1 (rd l0 x4_1) 0) else (none)) else (none)) = some r := by rw [if_neg (show ¬ (false = true) by decide)] at H;exact H
       clear H
       have H := H1
       clear H1
       by_cases c10 : 0 ≤ x4_1
       ·rw [if_pos c10] at H
        have c10b0 : decide (0 ≤ x4_1) = true := decide_eq_true c10
        clear c10
        by_cases c11 : x4_1 < (l0.length : Int)
        ·rw [if_pos c11] at H
         have c11b0 : decide (x4_1 < (l0.length : Int)) = true := decide_eq_true c11
         clear c11
         have H' := aZ_ H
         clear H
         have p106 : 0 ≤ (x4_1 : Int) := of_decide_eq_true T6_
         have q106 : x4_1 < (l0.length : Int) := of_decide_eq_true T6_
         obtain ⟨ad106,e106,hx106_0⟩ := Kd.at_int HR0.out x4_1 p106 q106
         cases e106
         replace hx106_0 := (HB.out.cell (World.block_lt_of_cell? w _ hx106_0)).trans hx106_0
         replace p106 := eq_true p106
         replace q106 := eq_true q106
         go_wp2
         go_loopg [5,6] kj4 (fun kq v5 v6 w' => ∃ (x5_3 : Int) (x6_3 : Int),v5 = .int .i64 x5_3 ∧ v6 = .int .i64 x6_3 ∧ Aside0 (spec_RankMod2.l1 kq l0 x3_1 x4_1 x5_3 x6_3 = some r) ∧ Aside0 (kq ≤ kj4) ∧ Aside0 (Kd.R (Kd.int .i64) 3 w' w.heap.size (fun _ => True) u3 x3_1) ∧ Aside0 (Below w.heap.size w w'))
         case atStart => exact ⟨(rd l0 x4_1),(0),T10_,T10_,H',⟨Nat.le_refl _⟩,⟨by (with_reducible repeat (first | apply Kd.R_alloc | apply Kd.R_drewN | apply Kd.R_drew));exact HO_3.out⟩,⟨by repeat (first | (with_reducible first | exact HB.out | apply below_alloc | apply pw_below_drewN | apply below_drew1) | exact HB.out)⟩⟩
         case round =>
          clear H'
          try clear c1
          try clear p1
          try clear q1
          try clear hx1
          try clear p2
          try clear c4
          try clear c4b0
          try clear c6
          try clear c6b0
          try clear c8
          try clear c9
          try clear c10
          try clear c10b0
          try clear p10
          try clear q10
          try clear hx10
          try clear c11
          try clear c11b0
          try clear hx104_0
          try clear hx106_0
          try clear p1
          try clear p104
          try clear p106
          try clear p2
          try clear q1
          try clear q104
          try clear q106
          obtain ⟨x5_3,x6_3,rfl,rfl,HA,HK3,HO_3,HB⟩ := hrel
          cases gk with
          | zero => exact absurd HA.out (by simp [spec_RankMod2.l1])
          | succ k3 =>
           have H := HA.out
           clear HA
           simp only [spec_RankMod2.l1] at H
           by_cases c12 : x6_3 < (x3_1.length : Int)
           ·rw [if_pos c12] at H
            have c12b0 : decide (x6_3 < (x3_1.length : Int)) = true := decide_eq_true c12
            clear c12
            by_cases c13 : 0 ≤ x6_3
            ·rw [if_pos c13] at H
             have c13b0 : decide (0 ≤ x6_3) = true := decide_eq_true c13
             clear c13
             obtain ⟨ji14,hji14⟩ : ∃ j_ : Int,(mn x5_3 (Go.bits .xor .i64 x5_3 (rd x3_1 x6_3))) = j_ := ⟨_,rfl⟩
             replace H : (spec_RankMod2.l1 k3 l0 x3_1 x4_1 ji14 (wrap64 (x6_3 + 1))) = some r := by first | (rw [hji14] at H;exact H) | (simp only [hji14] at H ⊢;exact H)
             have hji14_ : (if (Go.bits .xor .i64 x5_3 (rd x3_1 x6_3)) < x5_3 then (Go.bits .xor .i64 x5_3 (rd x3_1 x6_3)) else x5_3) = ji14 := hji14
             have H' := aZ_ H
             clear H
             obtain ⟨Ao15,co15,eo15⟩ := Kd.R_slice HO_3.out
             subst eo15
             have p107 : 0 ≤ (x6_3 : Int) := of_decide_eq_true T6_
             have q107 : x6_3 < (x3_1.length : Int) := of_decide_eq_true T6_
             obtain ⟨ad107,e107,hx107_0⟩ := Kd.at_int (Kd.R_reads' HO_3.out).2.2 x6_3 p107 q107
             cases e107
             replace p107 := eq_true p107
             replace q107 := eq_true q107
             go_wp2
             go_roundg k3
             case measure => have := HK1.out;have := HJ4.out;have := HK3.out;omega
             case rel => exact ⟨(ji14),(wrap64 (x6_3 + 1)),(by first | rfl | (simp;done) | (simp only [← hji14] <;> (first | rfl | simp)) | (simp [*];done)),T10_,H',⟨by have := HK1.out;have := HJ4.out;have := HK3.out;omega⟩,⟨by (with_reducible repeat (first | apply Kd.R_alloc | apply Kd.R_drewN | apply Kd.R_drew));exact HO_3.out⟩,⟨by repeat (first | (with_reducible first | exact HB.out | apply below_alloc | apply pw_below_drewN | apply below_drew1) | exact HB.out)⟩⟩
            ·rw [if_neg c13] at H
             exact absurd H T49_
           ·rw [if_neg c12] at H
            have c12b0 : decide (x6_3 < (x3_1.length : Int)) = false := decide_eq_false c12
            clear c12
            by_cases c16 : x5_3 > 0
            ·rw [if_pos c16] at H
             have c16b0 : decide (0 < x5_3) = true := decide_eq_true c16
             clear c16
             by_cases c17 : x3_1.length < 17592186044416
             ·rw [if_pos c17] at H
              have LMc17 := aZ_ c17
              clear c17
              obtain ⟨y108,hy108⟩ : ∃ y_ : List Int,y_ = (x3_1 ++ [x5_3]) := ⟨_,rfl⟩
              replace H : (spec_RankMod2.l0 k3 l0 y108 (wrap64 (x4_1 + 1))) = some r := by first | (rw [hy108];with_reducible exact H) | (have H2_ := (Option.bind_some _ _).symm.trans H;rw [hy108];with_reducible exact H2_) | (have H2_ := (Option.bind_some _ _).symm.trans H;with_reducible exact H2_) | with_reducible exact H | (rw [hy108];exact H) | exact H
              have Ny108 := aZ_ hy108
              clear hy108
              have H' := aZ_ H
              clear H
              obtain ⟨Ao18,co18,eo18⟩ := Kd.R_slice HO_3.out
              subst eo18
              go_wp2_with (first | ((with_reducible refine gate_builtin (b := .append) (xs := #[.tmp 44,.tmp 46]) rfl ?_);at_builtin;refine Kd.R_append (Kd.int .i64) (w0 := w) w.heap.size rfl (.tmp 44) (.tmp 46) 27 3 (.int .i64 0) 8 rfl Try.underlying27 info3 rfl T48_ T44_ (.slice Ao18 x3_1.length co18) x3_1 x5_3 [.int .i64 x5_3] (fun _ => True) (fun _ => False) rfl rfl ?aP (fun _ hk => hk.elim) ?aF ?aO ?aB ?aS ?aL ?_;(case aP => exact rfl);(case aB => exact T5_);(case aF => exact (fun _ _ => trivial));(case aO => exact (by (with_reducible repeat (first | apply Kd.R_alloc | apply Kd.R_drewN | apply Kd.R_drew));exact HO_3.out));(case aS => exact (below_size T5_));(case aL => have := LMc17.out;omega);intro v109 w19 ho hb hg hat;rw [← Ny108.out] at ho;have n0_ := aZ_ (hb);have n1_ := aZ_ (ho);clear HB;clear HO_3;have HB := n0_;have HO110 := n1_;clear n0_ n1_;clear ho hb hg hat))
              go_roundg k3
              case measure => have := HK1.out;have := HJ4.out;have := HK3.out;omega
              case rel => exact ⟨(y108),(wrap64 (x4_1 + 1)),T10_,H',⟨by have := HK1.out;have := HJ4.out;have := HK3.out;omega⟩,⟨by (with_reducible repeat (first | apply Kd.R_alloc | apply Kd.R_drewN | apply Kd.R_drew));exact HO110.out⟩,⟨by repeat (first | (with_reducible first | exact HB.out | apply below_alloc | apply pw_below_drewN | apply below_drew1) | exact HB.out)⟩⟩
             ·rw [if_neg c17] at H
              exact absurd H T49_
            ·rw [if_neg c16] at H
             have c16b0 : decide (0 < x5_3) = false := decide_eq_false c16
             clear c16
             have H' := aZ_ H
             clear H
             obtain ⟨Ao20,co20,eo20⟩ := Kd.R_slice HO_3.out
             subst eo20
             go_wp2
             go_roundg k3
             case measure => have := HK1.out;have := HJ4.out;have := HK3.out;omega
             case rel => exact ⟨(x3_1),(wrap64 (x4_1 + 1)),T10_,H',⟨by have := HK1.out;have := HJ4.out;have := HK3.out;omega⟩,⟨by (with_reducible repeat (first | apply Kd.R_alloc | apply Kd.R_drewN | apply Kd.R_drew));exact HO_3.out⟩,⟨by repeat (first | (with_reducible first | exact HB.out | apply below_alloc | apply pw_below_drewN | apply below_drew1) | exact HB.out)⟩⟩
        ·rw [if_neg c11] at H
         exact absurd H T49_
       ·rw [if_neg c10] at H
        exact absurd H T49_
   ·rw [if_neg c4] at H
    have c4b0 : decide (x4_1 < (l0.length : Int)) = false := decide_eq_false c4
    clear c4
    obtain rfl := Option.some.inj H
    obtain ⟨Ao21,co21,eo21⟩ := Kd.R_slice HO_3.out
    subst eo21
    go_wp2
    go_ret
    exact ⟨by first | rfl | (simp [errW_none,errW_some] <;> rfl) | (simp [*,errW_none,errW_some] <;> rfl),by repeat (first | (with_reducible first | exact HB.out | apply below_alloc | apply pw_below_drewN | apply below_drew1) | exact HB.out)⟩
mutual
def spec_DifferentRows.l0 : Nat → List Int → Int → Int → Option (Int)
 | 0,_,_,_ => none
 | k + 1,x0,x3,x4 => if x4 < (x0.length : Int) then (spec_DifferentRows.l1 k x0 x3 x4 true 0) else (some x3)
def spec_DifferentRows.l1 : Nat → List Int → Int → Int → Bool → Int → Option (Int)
 | 0,_,_,_,_,_ => none
 | k + 1,x0,x3,x4,x5,x6 => if x6 < x4 then (if x5 = true then (if 0 ≤ x6 then (if x6 < (x0.length : Int) then (if 0 ≤ x4 then (if x4 < (x0.length : Int) then (spec_DifferentRows.l1 k x0 x3 x4 ((rd x0 x6) != (rd x0 x4)) (wrap64 (x6 + 1))) else (none)) else (none)) else (none)) else (none)) else (spec_DifferentRows.l1 k x0 x3 x4 false (wrap64 (x6 + 1)))) else (if x5 = true then (spec_DifferentRows.l0 k x0 (wrap64 (x3 + 1)) (wrap64 (x4 + 1))) else (spec_DifferentRows.l0 k x0 x3 (wrap64 (x4 + 1))))
end
def spec_DifferentRows.f (k : Nat) (l0 : List Int) : Option (Int) := spec_DifferentRows.l0 k l0 0 0
set_option maxHeartbeats 8000000 in
set_option maxRecDepth 100000 in
theorem spec_DifferentRows.calls (k : Nat) (A0 : Option Addr) (c0 : Nat) (l0 : List Int) (r : Int) (w : World) (hr0 : Kd.C (Kd.int .i64) w A0 l0.length l0) (hc0 : l0.length ≤ c0) (h : spec_DifferentRows.f k l0 = some r) :
  Calls Try.prog 42 #[.slice A0 l0.length c0] w fun e w' => e = .returned (.int .i64 r) ∧ Drawn0 w w' := by
 have HR0 := aZ_ hr0
 have HC0 := aZ_ hc0
 clear hr0 hc0
 have H : (spec_DifferentRows.l0 k l0 0 0) = some r := h
 clear h
 have H' := aZ_ H
 clear H
 go_enter Try.func42,Try.ntmps42
 go_wp2
 repeat (go_quiet (fail);try go_wp2)
 go_loopg [3,4] k (fun kq v3 v4 w' => ∃ (x3_1 : Int) (x4_1 : Int),v3 = .int .i64 x3_1 ∧ v4 = .int .i64 x4_1 ∧ Aside0 (spec_DifferentRows.l0 kq l0 x3_1 x4_1 = some r) ∧ Aside0 (kq ≤ k) ∧ Drawn0 w w')
 case atStart => exact ⟨(0),(0),T10_,T10_,H',⟨Nat.le_refl _⟩,by repeat (first | exact Drawn0.refl _ | apply Drawn0.step)⟩
 case round =>
  clear H'
  obtain ⟨x3_1,x4_1,rfl,rfl,HA,HK1,⟨m1,rfl⟩⟩ := hrel
  cases gk with
  | zero => exact absurd HA.out (by simp [spec_DifferentRows.l0])
  | succ k1 =>
   have H := HA.out
   clear HA
   simp only [spec_DifferentRows.l0] at H
   by_cases c2 : x4_1 < (l0.length : Int)
   ·rw [if_pos c2] at H
    have c2b0 : decide (x4_1 < (l0.length : Int)) = true := decide_eq_true c2
    clear c2
    have H' := aZ_ H
    clear H
    go_wp2
    repeat (go_quiet (fail);try go_wp2)
    go_loopg [5,6] k1 (fun kq v5 v6 w' => ∃ (x5_2 : Bool) (x6_2 : Int),v5 = .bool x5_2 ∧ v6 = .int .i64 x6_2 ∧ Aside0 (spec_DifferentRows.l1 kq l0 x3_1 x4_1 x5_2 x6_2 = some r) ∧ Aside0 (kq ≤ k1) ∧ Drawn0 w w')
    case atStart => exact ⟨(true),(0),T10_,T10_,H',⟨Nat.le_refl _⟩,by repeat (first | exact Drawn0.refl _ | apply Drawn0.step)⟩
    case round =>
     clear H'
     try clear c2
     try clear c2b0
     try clear p2
     obtain ⟨x5_2,x6_2,rfl,rfl,HA,HK2,⟨m2,rfl⟩⟩ := hrel
     cases gk with
     | zero => exact absurd HA.out (by simp [spec_DifferentRows.l1])
     | succ k2 =>
      have H := HA.out
      clear HA
      simp only [spec_DifferentRows.l1] at H
      by_cases c3 : x6_2 < x4_1
      ·rw [if_pos c3] at H
       have c3b0 : decide (x6_2 < x4_1) = true := decide_eq_true c3
       clear c3
       by_cases c4 : x5_2 = true
       ·subst c4
        have H1 : (if 0 ≤ x6_2 then (if x6_2 < (l0.length : Int) then (if 0 ≤ x4_1 then (if x4_1 < (l0.length : Int) then (spec_DifferentRows.l1 k2 l0 x3_1 x4_1 ((rd l0 x6_2) != (rd l0 x4_1)) (wrap64 (x6_2 + 1))) else (none)) else (none)) else (none)) else (none)) = some r := by rw [if_pos rfl] at H;exact H
        clear H
        have H := H1
        clear H1
        by_cases c5 : 0 ≤ x6_2
        ·rw [if_pos c5] at H
         have c5b0 : decide (0 ≤ x6_2) = true := decide_eq_true c5
         clear c5
         by_cases c6 : x6_2 < (l0.length : Int)
         ·rw [if_pos c6] at H
          have c6b0 : decide (x6_2 < (l0.length : Int)) = true := decide_eq_true c6
          clear c6
          by_cases c7 : 0 ≤ x4_1
          ·rw [if_pos c7] at H
           have c7b0 : decide (0 ≤ x4_1) = true := decide_eq_true c7
           clear c7
           by_cases c8 : x4_1 < (l0.length : Int)
           ·rw [if_pos c8] at H
            have c8b0 : decide (x4_1 < (l0.length : Int)) = true := decide_eq_true c8
            clear c8
            have H' := aZ_ H
            clear H
            have p101 : 0 ≤ (x6_2 : Int) := of_decide_eq_true T6_
            have q101 : x6_2 < (l0.length : Int) := of_decide_eq_true T6_
            obtain ⟨ad101,e101,hx101_0⟩ := Kd.at_int HR0.out x6_2 p101 q101
            cases e101
            replace p101 := eq_true p101
            replace q101 := eq_true q101
            have p102 : 0 ≤ (x4_1 : Int) := of_decide_eq_true T6_
            have q102 : x4_1 < (l0.length : Int) := of_decide_eq_true T6_
            obtain ⟨ad102,e102,hx102_0⟩ := Kd.at_int HR0.out x4_1 p102 q102
            obtain rfl : ad101 = ad102 := (by injection e102)
            replace p102 := eq_true p102
            replace q102 := eq_true q102
            go_wp2
            repeat (go_quiet (fail);try go_wp2)
            go_roundg k2
            case measure => have := HK1.out;have := HK2.out;omega
            case rel => exact ⟨(((rd l0 x6_2) != (rd l0 x4_1))),(wrap64 (x6_2 + 1)),T10_,T10_,H',⟨by have := HK1.out;have := HK2.out;omega⟩,by repeat (first | exact Drawn0.refl _ | apply Drawn0.step)⟩
           ·rw [if_neg c8] at H
            exact absurd H T49_
          ·rw [if_neg c7] at H
           exact absurd H T49_
         ·rw [if_neg c6] at H
          exact absurd H T49_
        ·rw [if_neg c5] at H
         exact absurd H T49_
       ·replace c4 := Bool.eq_false_iff.mpr c4
        subst c4
        have H1 : (spec_DifferentRows.l1 k2 l0 x3_1 x4_1 false (wrap64 (x6_2 + 1))) = some r := by rw [if_neg (show ¬ (false = true) by decide)] at H;exact H
        clear H
        have H := H1
        clear H1
        have H' := aZ_ H
        clear H
        go_wp2
        repeat (go_quiet (fail);try go_wp2)
        go_roundg k2
        case measure => have := HK1.out;have := HK2.out;omega
        case rel => exact ⟨(false),(wrap64 (x6_2 + 1)),T10_,T10_,H',⟨by have := HK1.out;have := HK2.out;omega⟩,by repeat (first | exact Drawn0.refl _ | apply Drawn0.step)⟩
      ·rw [if_neg c3] at H
       have c3b0 : decide (x6_2 < x4_1) = false := decide_eq_false c3
       clear c3
       by_cases c9 : x5_2 = true
       ·subst c9
        have H1 : (spec_DifferentRows.l0 k2 l0 (wrap64 (x3_1 + 1)) (wrap64 (x4_1 + 1))) = some r := by rw [if_pos rfl] at H;exact H
        clear H
        have H := H1
        clear H1
        have H' := aZ_ H
        clear H
        go_wp2
        repeat (go_quiet (fail);try go_wp2)
        go_roundg k2
        case measure => have := HK1.out;have := HK2.out;omega
        case rel => exact ⟨(wrap64 (x3_1 + 1)),(wrap64 (x4_1 + 1)),T10_,T10_,H',⟨by have := HK1.out;have := HK2.out;omega⟩,by repeat (first | exact Drawn0.refl _ | apply Drawn0.step)⟩
       ·replace c9 := Bool.eq_false_iff.mpr c9
        subst c9
        have H1 : (spec_DifferentRows.l0 k2 l0 x3_1 (wrap64 (x4_1 + 1))) = some r := by rw [if_neg (show ¬ (false = true) by decide)] at H;exact H
        clear H
        have H := H1
        clear H1
        have H' := aZ_ H
        clear H
        go_wp2
        repeat (go_quiet (fail);try go_wp2)
        go_roundg k2
        case measure => have := HK1.out;have := HK2.out;omega
        case rel => exact ⟨(x3_1),(wrap64 (x4_1 + 1)),T10_,T10_,H',⟨by have := HK1.out;have := HK2.out;omega⟩,by repeat (first | exact Drawn0.refl _ | apply Drawn0.step)⟩
   ·rw [if_neg c2] at H
    have c2b0 : decide (x4_1 < (l0.length : Int)) = false := decide_eq_false c2
    clear c2
    obtain rfl := Option.some.inj H
    go_wp2
    repeat (go_quiet (fail);try go_wp2)
    go_ret
    exact ⟨by first | rfl | (simp;done) | (simp [*];done),by repeat (first | exact Drawn0.refl _ | apply Drawn0.step)⟩
def impl_IsRectangle.hit (s a b x : Nat) : Bool := a.testBit (x % 2 ^ s) && b.testBit (x / 2 ^ s)
def impl_IsRectangle.seen (s v a b : Nat) (q : Bool) (x : Nat) : Bool := impl_IsRectangle.hit s a b x && (v.testBit x == q)
def impl_IsRectangle.bad (m : Nat) (a : Int) : Bool := decide (a ≤ 0) || (a / 2 ^ 2 ^ m != 0)
def impl_IsRectangle.both (n s v a b : Nat) : Bool := !B.exN (impl_IsRectangle.seen s v a b false) (2 ^ n) || !B.exN (impl_IsRectangle.seen s v a b true) (2 ^ n)
def impl_IsRectangle.f (a0_0 a0_1 a1 a2 a3 : Int) : Option Bool :=
 (impl_isSplit.f a0_0 a0_1 a1).bind fun t => if t = true then
  (if (0 ≤ a0_0 ∧ a0_0 ≤ 5 ∧ 0 ≤ a0_1 ∧ a0_1 < 9223372036854775808) ∧ (0 ≤ a1 ∧ a1 ≤ a0_0) ∧ a2 < 9223372036854775808 ∧ a3 < 9223372036854775808 then
   (if impl_IsRectangle.bad a1.toNat a2 = true then some false else if impl_IsRectangle.bad (a0_0 - a1).toNat a3 = true then some false else some (impl_IsRectangle.both a0_0.toNat a1.toNat a0_1.toNat a2.toNat a3.toNat)) else none) else some false
theorem rect_at {n : Int} {w x : Nat} (hw : w < 9223372036854775808) (hx : x ≤ 64) : impl_Table_at.f n w x = some ((B.bitN w x : Nat) : Int) := by
 unfold impl_Table_at.f
 rw [if_pos T44_,B.bit_cast hw hx]
theorem rect_bit {a p : Nat} {t : Bool} (ha : a < 9223372036854775808) (h : a.testBit p = t) : ∃ y : Int,(a : Int) / 2 ^ p = y ∧ Go.bits .and .i64 y 1 = (t.toNat : Int) := by
 refine ⟨((a >>> p : Nat) : Int),by rw [Nat.shiftRight_eq_div_pow];simp,?_⟩
 have := B.and_cast (b := 1) (B.shr_lt (x := p) ha) T48_
 rw [B.shr_and_one] at this
 rw [← h]
 exact this
set_option maxHeartbeats 400000 in
set_option maxRecDepth 100000 in
theorem impl_IsRectangle.no (a0_0 a0_1 a1 a2 a3 : Int) (w : World) (h : impl_isSplit.f a0_0 a0_1 a1 = some false) :
  Calls Try.prog 43 #[.agg #[.int .i64 a0_0,.int .i64 a0_1],.int .i64 a1,.int .i64 a2,.int .i64 a3] w fun e w' => e = .returned (.bool false) ∧ Below w.heap.size w w' := by
 have hu := Try.underlying25
 have HB := below_alloc (Below.refl w.heap.size w) (.cells #[.int .i64 a0_0,.int .i64 a0_1] 25 (0,0))
 have hc0 : (w.alloc (.cells #[.int .i64 a0_0,.int .i64 a0_1] 25 (0,0))).cell? ⟨w.heap.size,0,none⟩ = some (.int .i64 a0_0) := (blk_cell (blk_new _ _) 0).trans rfl
 have hc1 : (w.alloc (.cells #[.int .i64 a0_0,.int .i64 a0_1] 25 (0,0))).cell? ⟨w.heap.size,1,none⟩ = some (.int .i64 a0_1) := (blk_cell (blk_new _ _) 1).trans rfl
 have H := aZ_ h
 clear h
 go_enter Try.func43,Try.ntmps43
 go_wp2_with (go_at_call 69;refine (impl_isSplit.calls a0_0 a0_1 a1 false _ H.out).mono ?_;rintro e w' ⟨rfl,hb⟩)
 go_ret
 exact ⟨rfl,below_step HB hb⟩
set_option maxHeartbeats 1000000 in
set_option maxRecDepth 100000 in
theorem impl_IsRectangle.yes (n s m v : Nat) (a b : Int) (hn : n ≤ 5) (hnm : n = s + m) (hv : v < 9223372036854775808) (w : World) (h : impl_isSplit.f n v s = some true) (ha : a < 9223372036854775808) (hb : b < 9223372036854775808) (R : Bool)
  (hR : R = (if impl_IsRectangle.bad s a = true then false else if impl_IsRectangle.bad m b = true then false else impl_IsRectangle.both n s v a.toNat b.toNat)) :
  Calls Try.prog 43 #[.agg #[.int .i64 n,.int .i64 v],.int .i64 s,.int .i64 a,.int .i64 b] w fun e w' => e = .returned (.bool R) ∧ Below w.heap.size w w' := by
 have hu := Try.underlying25
 have hub := Try.underlying87
 have HB := below_alloc (Below.refl w.heap.size w) (.cells #[.int .i64 n,.int .i64 v] 25 (0,0))
 have BK := blk_new w (.cells #[.int .i64 n,.int .i64 v] 25 (0,0))
 have hc0 : (w.alloc (.cells #[.int .i64 n,.int .i64 v] 25 (0,0))).cell? ⟨w.heap.size,0,none⟩ = some (.int .i64 n) := (blk_cell BK 0).trans rfl
 have hc1 : (w.alloc (.cells #[.int .i64 n,.int .i64 v] 25 (0,0))).cell? ⟨w.heap.size,1,none⟩ = some (.int .i64 v) := (blk_cell BK 1).trans rfl
 have H := aZ_ h
 have HRR := aZ_ hR
 have HN := aZ_ hn
 have HNM := aZ_ hnm
 have HV := aZ_ hv
 have hps := B.pow_le (n := s) T44_
 have hpm := B.pow_le (n := m) T44_
 have b2 : (s : Int) ≤ 64 := by omega
 have b3 : (m : Int) ≤ 64 := by omega
 have hqs := B.pow_pos s
 have e5 : (n : Int) - (s : Int) = (m : Int) := by omega
 have e6 : IntKind.u64.wrap (2 ^ s) = ((2 ^ s : Nat) : Int) := by
  rw [show (2 : Int) ^ s = ((2 ^ s : Nat) : Int) by simp]
  generalize 2 ^ s = M at hps
  exact B.wrapu_of T44_ T44_
 have e7 : IntKind.u64.wrap (2 ^ m) = ((2 ^ m : Nat) : Int) := by
  rw [show (2 : Int) ^ m = ((2 ^ m : Nat) : Int) by simp]
  generalize 2 ^ m = M at hpm
  exact B.wrapu_of T44_ T44_
 obtain ⟨Qs,hQs⟩ : ∃ Q : Nat,Q = 2 ^ s := ⟨_,rfl⟩
 obtain ⟨Qm,hQm⟩ : ∃ Q : Nat,Q = 2 ^ m := ⟨_,rfl⟩
 have e8 : IntKind.i64.wrap (2 ^ s) = ((2 ^ s : Nat) : Int) := by rw [i64_w];exact B.wrap64_pow T44_
 have e9 : IntKind.i64.wrap (((2 ^ s : Nat) : Int) - 1) = ((2 ^ s - 1 : Nat) : Int) := by rw [i64_w,B.wrap64_of T44_ T44_];omega
 rw [← hQs] at e6 e8 e9 hps hqs
 rw [← hQm] at e7 hpm
 have HQs := aZ_ hQs
 have HQm := aZ_ hQm
 have E8 := aZ_ e8
 have E9 := aZ_ e9
 have bqs : (Qs : Int) ≤ 64 := by omega
 have bqm : (Qm : Int) ≤ 64 := by omega
 obtain ⟨ya,hya⟩ : ∃ y,a / 2 ^ Qs = y := ⟨_,rfl⟩
 obtain ⟨yb,hyb⟩ : ∃ y,b / 2 ^ Qm = y := ⟨_,rfl⟩
 have HBAD : Aside0 (impl_IsRectangle.bad s a = (decide (a ≤ 0) || (ya != 0)) ∧ impl_IsRectangle.bad m b = (decide (b ≤ 0) || (yb != 0))) := ⟨by unfold impl_IsRectangle.bad;rw [← hQs,← hQm,hya,hyb];exact ⟨rfl,rfl⟩⟩
 have HA := aZ_ ha
 have HBB := aZ_ hb
 clear h hR hn hnm hv hQs hQm e8 e9 ha hb
 by_cases c1 : a ≤ 0
 ·have d1 : decide (a ≤ 0) = true := decide_eq_true c1
  have HX : Aside0 (R = false) := ⟨by rw [HRR.out,HBAD.out.1,d1];rfl⟩
  clear e5 e6 e7 hya hyb
  go_enter Try.func43,Try.ntmps43
  go_wp2_with (go_at_call 69;refine (impl_isSplit.calls n v s true _ H.out).mono ?_;rintro e w' ⟨rfl,hb⟩)
  go_ret
  exact ⟨by rw [HX.out];rfl,below_step HB hb⟩
 ·have d1 : decide (a ≤ 0) = false := decide_eq_false c1
  by_cases c2 : ya = 0
  ·subst c2
   by_cases c3 : b ≤ 0
   ·have d3 : decide (b ≤ 0) = true := decide_eq_true c3
    have HX : Aside0 (R = false) := ⟨by rw [HRR.out,HBAD.out.2,d3];simp⟩
    clear e5 e7 hyb
    go_enter Try.func43,Try.ntmps43
    go_wp2_with (go_at_call 69;refine (impl_isSplit.calls n v s true _ H.out).mono ?_;rintro e w' ⟨rfl,hb⟩)
    go_ret
    exact ⟨by rw [HX.out];rfl,below_step HB hb⟩
   ·have d3 : decide (b ≤ 0) = false := decide_eq_false c3
    by_cases c4 : yb = 0
    ·subst c4
     have HX : Aside0 (R = impl_IsRectangle.both n s v a.toNat b.toNat) := ⟨by rw [HRR.out,HBAD.out.1,HBAD.out.2,d1,d3];rfl⟩
     obtain ⟨an,rfl⟩ : ∃ k : Nat,a = k := ⟨a.toNat,by omega⟩
     obtain ⟨bn,rfl⟩ : ∃ k : Nat,b = k := ⟨b.toNat,by omega⟩
     rw [Int.toNat_natCast,Int.toNat_natCast] at HX
     have HAN : Aside0 (an < 9223372036854775808) := ⟨by have := HA.out;omega⟩
     have HBN : Aside0 (bn < 9223372036854775808) := ⟨by have := HBB.out;omega⟩
     have ca : decide (an = 0) = false := decide_eq_false T44_
     have cb : decide (bn = 0) = false := decide_eq_false T44_
     have ca2 : ¬ an = 0 := by omega
     have cb2 : ¬ bn = 0 := by omega
     clear HRR HBAD HA HBB c1 c3
     obtain ⟨M,hM⟩ : ∃ M : Nat,M = 2 ^ n := ⟨_,rfl⟩
     have hM32 : M ≤ 32 := by rw [hM];exact B.pow_le HN.out
     have HSZ : Aside0 (impl_Table_size.f n v = some (M : Int)) := ⟨by unfold impl_Table_size.f;rw [if_pos T44_,B.shl1_of (by have := HN.out;omega),hM]⟩
     have HM := aZ_ hM
     clear hM
     go_enter Try.func43,Try.ntmps43
     go_wp2_with (first | (go_at_call 69;refine (impl_isSplit.calls n v s true _ H.out).mono ?_;rintro e w1 ⟨rfl,hb⟩;have L1 := aZ_ (blk_below BK hb);have LB := aZ_ (below_step HB hb);clear hb;have hz0 : w1.cell? ⟨w.heap.size,0,none⟩ = some (.int .i64 n) := (blk_cell L1.out 0).trans rfl;have hz1 : w1.cell? ⟨w.heap.size,1,none⟩ = some (.int .i64 v) := (blk_cell L1.out 1).trans rfl;have ha0 : (w1.alloc (.cells #[.bool false,.bool false] 87 (0,0))).cell? ⟨w.heap.size,0,none⟩ = some (.int .i64 n) := (blk_cell (blk_alloc L1.out _) 0).trans rfl;have ha1 : (w1.alloc (.cells #[.bool false,.bool false] 87 (0,0))).cell? ⟨w.heap.size,1,none⟩ = some (.int .i64 v) := (blk_cell (blk_alloc L1.out _) 1).trans rfl) | (go_at_call 80;refine (impl_Table_size.calls n v M _ HSZ.out).mono ?_;rintro e w2 ⟨rfl,hb⟩;have M1 := aZ_ (blk_below (blk_alloc L1.out _) hb);have S1 := aZ_ (blk_below (blk_new w1 (.cells #[.bool false,.bool false] 87 (0,0))) hb);have hG := aZ_ (blk_lt L1.out);have MB := aZ_ (below_step (below_alloc LB.out _) hb);clear hb ha0 ha1 hz0 hz1))
     clear L1 LB
     generalize w1.heap.size = G at hG S1 ⊢
     have e8 := E8.out
     have e9 := E9.out
     clear e5 e6 e7 hya hyb hc0 hc1
     go_loopg [43] M (fun gg v43 wr => ∃ x : Nat,x ≤ M ∧ M - x ≤ gg ∧ v43 = .int .i64 x ∧ Aside0 (wr.heap[w.heap.size]? = some (.cells #[.int .i64 n,.int .i64 v] 25 (0,0))) ∧ Aside0 (wr.heap[G]? = some (.cells #[.bool (B.exN (impl_IsRectangle.seen s v an bn false) x),.bool (B.exN (impl_IsRectangle.seen s v an bn true) x)] 87 (0,0))) ∧ Aside0 (Below w.heap.size w wr))
     case atStart => exact ⟨0,Nat.zero_le _,by omega,rfl,M1,S1,MB⟩
     case round =>
      clear M1 S1 MB
      obtain ⟨x,hx,hg,rfl,M1,S1,MB⟩ := hrel
      by_cases hlt : x < M
      ·have hltz : (x : Int) < (M : Int) := by omega
       have HE1 : Aside0 (Go.bits .and .i64 (x : Int) ((Qs - 1 : Nat) : Int) = ((x % 2 ^ s : Nat) : Int) ∧ (x : Int) / 2 ^ s = ((x / 2 ^ s : Nat) : Int) ∧ x % 2 ^ s < 32 ∧ x / 2 ^ s < 32) := ⟨by
        have := HQs.out
        have h1 : x % 2 ^ s < 2 ^ s := Nat.mod_lt _ (B.pow_pos s)
        have h2 : x / 2 ^ s ≤ x := Nat.div_le_self _ _
        exact ⟨by rw [this,B.and_cast T44_ T44_,Nat.and_two_pow_sub_one_eq_mod],by simp,by omega,by omega⟩⟩
       have HH : Aside0 (∀ q,impl_IsRectangle.seen s v an bn q x = ((an.testBit (x % 2 ^ s) && bn.testBit (x / 2 ^ s)) && (v.testBit x == q))) := ⟨fun q => rfl⟩
       generalize x % 2 ^ s = p at HE1 HH
       generalize x / 2 ^ s = q at HE1 HH
       have e1 := HE1.out.1
       have e2 := HE1.out.2.1
       have b4 : (p : Int) ≤ 64 := by have := HE1.out.2.2.1;omega
       have b5 : (q : Int) ≤ 64 := by have := HE1.out.2.2.2;omega
       clear HE1
       cases hA : an.testBit p with
       | false =>
        obtain ⟨ya,f1,f2⟩ := rect_bit HAN.out hA
        rw [show ((false.toNat : Nat) : Int) = 0 from rfl] at f2
        have HM0 : Aside0 (∀ q,impl_IsRectangle.seen s v an bn q x = false) := ⟨fun z => by rw [HH.out,hA];rfl⟩
        clear hA
        go_wp2
        go_roundg (M - (x + 1))
        case measure => omega
        case rel => exact ⟨x + 1,by omega,by omega,by go_num,M1,⟨by rw [B.exN,B.exN,HM0.out,HM0.out,Bool.or_false,Bool.or_false];exact S1.out⟩,MB⟩
       | true =>
        obtain ⟨ya,f1,f2⟩ := rect_bit HAN.out hA
        rw [show ((true.toNat : Nat) : Int) = 1 from rfl] at f2
        cases hB : bn.testBit q with
        | false =>
         obtain ⟨yb,g1,g2⟩ := rect_bit HBN.out hB
         rw [show ((false.toNat : Nat) : Int) = 0 from rfl] at g2
         have HM0 : Aside0 (∀ q,impl_IsRectangle.seen s v an bn q x = false) := ⟨fun z => by rw [HH.out,hB,Bool.and_false];rfl⟩
         clear hA hB
         go_wp2
         go_roundg (M - (x + 1))
         case measure => omega
         case rel => exact ⟨x + 1,by omega,by omega,by go_num,M1,⟨by rw [B.exN,B.exN,HM0.out,HM0.out,Bool.or_false,Bool.or_false];exact S1.out⟩,MB⟩
        | true =>
         obtain ⟨yb,g1,g2⟩ := rect_bit HBN.out hB
         rw [show ((true.toNat : Nat) : Int) = 1 from rfl] at g2
         have HM0 : Aside0 (∀ q,impl_IsRectangle.seen s v an bn q x = (v.testBit x == q)) := ⟨fun z => by rw [HH.out,hA,hB];rfl⟩
         clear hA hB
         have hz0 : wr.cell? ⟨w.heap.size,0,none⟩ = some (.int .i64 n) := (blk_cell M1.out 0).trans rfl
         have hz1 : wr.cell? ⟨w.heap.size,1,none⟩ = some (.int .i64 v) := (blk_cell M1.out 1).trans rfl
         have HAT := aZ_ (rect_at (n := (n : Int)) (x := x) HV.out T44_)
         cases hq : v.testBit x with
         | false =>
          rw [show B.bitN v x = 0 from B.bitN_eq_zero.mpr hq] at HAT
          have HQ := aZ_ hq
          clear hq
          go_wp2_with (go_at_call 78;refine (impl_Table_at.calls n v x 0 _ HAT.out).mono ?_;rintro e w' ⟨rfl,hb⟩;have N1 := aZ_ (blk_below M1.out hb);have T1 := aZ_ (blk_below S1.out hb);have NB := aZ_ (below_step MB.out hb);clear hb;have hs0 : w'.cell? ⟨G,0,none⟩ = some (.bool (B.exN (impl_IsRectangle.seen s v an bn false) x)) := (blk_cell T1.out 0).trans rfl;have hfs := blk_frozen T1.out 0)
          go_roundg (M - (x + 1))
          case measure => omega
          case rel => exact ⟨x + 1,by omega,by omega,by go_num,⟨blk_far N1.out (by have := hG.out;show _ ≠ G;omega) _⟩,⟨by rw [B.exN,B.exN,HM0.out,HM0.out,HQ.out];simp only [beq_self_eq_true,Bool.or_true,show (false == true) = false from rfl,Bool.or_false];exact blk_put T1.out 0 _ rfl⟩,⟨below_set NB.out (by have := hG.out;omega)⟩⟩
         | true =>
          rw [show B.bitN v x = 1 from B.bitN_eq_one.mpr hq] at HAT
          have HQ := aZ_ hq
          clear hq
          go_wp2_with (go_at_call 78;refine (impl_Table_at.calls n v x 1 _ HAT.out).mono ?_;rintro e w' ⟨rfl,hb⟩;have N1 := aZ_ (blk_below M1.out hb);have T1 := aZ_ (blk_below S1.out hb);have NB := aZ_ (below_step MB.out hb);clear hb;have hs0 : w'.cell? ⟨G,1,none⟩ = some (.bool (B.exN (impl_IsRectangle.seen s v an bn true) x)) := (blk_cell T1.out 1).trans rfl;have hfs := blk_frozen T1.out 1)
          go_roundg (M - (x + 1))
          case measure => omega
          case rel => exact ⟨x + 1,by omega,by omega,by go_num,⟨blk_far N1.out (by have := hG.out;show _ ≠ G;omega) _⟩,⟨by rw [B.exN,B.exN,HM0.out,HM0.out,HQ.out];simp only [beq_self_eq_true,Bool.or_true,show (true == false) = false from rfl,Bool.or_false];exact blk_put T1.out 1 _ rfl⟩,⟨below_set NB.out (by have := hG.out;omega)⟩⟩
      ·have hltz : ¬ (x : Int) < (M : Int) := by omega
       obtain rfl : x = M := by omega
       have hs0 : wr.cell? ⟨G,0,none⟩ = some (.bool (B.exN (impl_IsRectangle.seen s v an bn false) x)) := (blk_cell S1.out 0).trans rfl
       have hs1 : wr.cell? ⟨G,1,none⟩ = some (.bool (B.exN (impl_IsRectangle.seen s v an bn true) x)) := (blk_cell S1.out 1).trans rfl
       have HX' : Aside0 (R = (!B.exN (impl_IsRectangle.seen s v an bn false) x || !B.exN (impl_IsRectangle.seen s v an bn true) x)) := ⟨by rw [HX.out,HM.out];rfl⟩
       generalize B.exN (impl_IsRectangle.seen s v an bn false) x = p0 at hs0 HX'
       generalize B.exN (impl_IsRectangle.seen s v an bn true) x = p1 at hs1 HX'
       cases p0 with
       | false =>
        go_wp2
        go_ret
        exact ⟨by rw [HX'.out];rfl,MB.out⟩
       | true =>
        cases p1 with
        | false =>
         go_wp2
         go_ret
         exact ⟨by rw [HX'.out];rfl,MB.out⟩
        | true =>
         go_wp2
         go_ret
         exact ⟨by rw [HX'.out];rfl,MB.out⟩
    ·have d4 : (yb != 0) = true := bne_iff_ne.mpr c4
     have HX : Aside0 (R = false) := ⟨by rw [HRR.out,HBAD.out.2,d4];simp⟩
     go_enter Try.func43,Try.ntmps43
     go_wp2_with (go_at_call 69;refine (impl_isSplit.calls n v s true _ H.out).mono ?_;rintro e w' ⟨rfl,hb⟩;have hz0 : w'.cell? ⟨w.heap.size,0,none⟩ = some (.int .i64 n) := (blk_cell (blk_below BK hb) 0).trans rfl)
     go_ret
     exact ⟨by rw [HX.out];rfl,below_step HB hb⟩
  ·have d2 : (ya != 0) = true := bne_iff_ne.mpr c2
   have HX : Aside0 (R = false) := ⟨by rw [HRR.out,HBAD.out.1,d2];simp⟩
   clear e5 e7 hyb
   go_enter Try.func43,Try.ntmps43
   go_wp2_with (go_at_call 69;refine (impl_isSplit.calls n v s true _ H.out).mono ?_;rintro e w' ⟨rfl,hb⟩)
   go_ret
   exact ⟨by rw [HX.out];rfl,below_step HB hb⟩
theorem impl_IsRectangle.calls (a0_0 : Int) (a0_1 : Int) (a1 : Int) (a2 : Int) (a3 : Int) (r : Bool) (w : World) (h : impl_IsRectangle.f a0_0 a0_1 a1 a2 a3 = some r) :
  Calls Try.prog 43 #[.agg #[.int .i64 a0_0,.int .i64 a0_1],.int .i64 a1,.int .i64 a2,.int .i64 a3] w fun e w' => e = .returned (.bool r) ∧ Below w.heap.size w w' := by
 unfold impl_IsRectangle.f at h
 obtain ⟨t,ht,h⟩ := Option.bind_eq_some_iff.mp h
 cases t with
 | false =>
  rw [if_neg T48_] at h
  cases h
  exact impl_IsRectangle.no a0_0 a0_1 a1 a2 a3 w ht
 | true =>
  rw [if_pos rfl] at h
  split at h
  next hc =>
   obtain ⟨n,rfl⟩ := Int.eq_ofNat_of_zero_le hc.1.1
   obtain ⟨v,rfl⟩ := Int.eq_ofNat_of_zero_le hc.1.2.2.1
   obtain ⟨s,rfl⟩ := Int.eq_ofNat_of_zero_le hc.2.1.1
   obtain ⟨m,rfl⟩ : ∃ m,n = s + m := ⟨n - s,by omega⟩
   rw [show (((s + m : Nat) : Int) - (s : Int)).toNat = m by omega,Int.toNat_natCast,Int.toNat_natCast,Int.toNat_natCast] at h
   refine impl_IsRectangle.yes (s + m) s m v a2 a3 T44_ rfl T44_ w ht hc.2.2.1 hc.2.2.2 r ?_
   split at h
   next h1 => rw [if_pos h1];cases h;rfl
   next h1 =>
    rw [if_neg h1]
    split at h
    next h2 => rw [if_pos h2];cases h;rfl
    next h2 => rw [if_neg h2];cases h;rfl
  next => cases h
end Go.Proofs.Ythlajlhjofjmcaa.F
