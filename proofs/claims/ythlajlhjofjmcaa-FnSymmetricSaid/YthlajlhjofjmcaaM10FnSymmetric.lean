/- Walks of Go functions and lemmas on what they compute, for the row of FnSymmetric (a part of several): each call ends as the Lean function of its name tells; the conditions are those of each theorem. -/
import Derived.Test.YthlajlhjofjmcaaM1FnSymmetric
import Derived.Test.YthlajlhjofjmcaaM2FnSymmetric
import Derived.Test.YthlajlhjofjmcaaM3FnSymmetric
import Derived.Test.YthlajlhjofjmcaaM5FnSymmetric
import Derived.Test.YthlajlhjofjmcaaM6FnSymmetric
import Derived.Test.YthlajlhjofjmcaaM8FnSymmetric
namespace Go.Proofs.Ythlajlhjofjmcaa.F
open Go.RowKit Go.Proofs.YthlajlhjofjmcaaW.PrintWords Go.Proofs.YthlajlhjofjmcaaW.PrintLast Go.Proofs.YthlajlhjofjmcaaW.PrintMore
attribute [local go_sem] max2_int min2_int max_two min_two max_three min_three max_four min_four 
set_option linter.unusedVariables false
set_option linter.unusedSimpArgs false
def spec_DrawAreExchangeable.f (k : Nat) (l0 : List Int) : Option (Int × Int × Int × Int) := (spec_l1New.f k l0).bind fun bt102 => ((spec_l18Draw.f k bt102.1 bt102.2.1 bt102.2.2).bind fun bt106 => ((spec_l1Below.f bt102.1 bt106.2.2.1 bt106.2.2.2 6).bind fun bt111 => ((spec_l1Below.f bt102.1 bt111.2.1 bt111.2.2 5).bind fun bt114 => (some (bt106.1,bt106.2.1,wrap64 (bt111.1 - 1),bt114.1)))))
set_option maxHeartbeats 8000000 in
set_option maxRecDepth 100000 in
theorem spec_DrawAreExchangeable.calls (k : Nat) (A0 : Option Addr) (c0 : Nat) (l0 : List Int) (r1 : Int) (r2 : Int) (r3 : Int) (r4 : Int) (w : World) (hr0 : Kd.C (Kd.int .u8) w A0 l0.length l0) (hc0 : l0.length ≤ c0) (h : spec_DrawAreExchangeable.f k l0 = some (r1,r2,r3,r4)) :
  Calls Try.prog 20 #[.slice A0 l0.length c0] w fun e w' => e = .returned (.tuple #[.agg #[.int .i64 r1,.int .i64 r2],.int .i64 r3,.int .i64 r4]) ∧ Below w.heap.size w w' := by
 have hu25 := Try.underlying25
 have HR0 := Aside0.mk hr0
 have HC0 := Aside0.mk hc0
 clear hr0 hc0
 have HB := Aside0.mk (Below.refl w.heap.size w)
 have H : ((spec_l1New.f k l0).bind fun bt102 => ((spec_l18Draw.f k bt102.1 bt102.2.1 bt102.2.2).bind fun bt106 => ((spec_l1Below.f bt102.1 bt106.2.2.1 bt106.2.2.2 6).bind fun bt111 => ((spec_l1Below.f bt102.1 bt111.2.1 bt111.2.2 5).bind fun bt114 => (some (bt106.1,bt106.2.1,wrap64 (bt111.1 - 1),bt114.1)))))) = some (r1,r2,r3,r4) := h
 clear h
 replace H := Option.bind_eq_some_iff.mp H
 obtain ⟨⟨t102,t103,t104⟩,A20,H⟩ := H
 replace H : ((spec_l18Draw.f k t102 t103 t104).bind fun bt106 => ((spec_l1Below.f t102 bt106.2.2.1 bt106.2.2.2 6).bind fun bt111 => ((spec_l1Below.f t102 bt111.2.1 bt111.2.2 5).bind fun bt114 => (some (bt106.1,bt106.2.1,wrap64 (bt111.1 - 1),bt114.1))))) = some (r1,r2,r3,r4) := H
 have A2 := Aside0.mk A20
 clear A20
 replace H := Option.bind_eq_some_iff.mp H
 obtain ⟨⟨t106,t107,t108,t109⟩,A30,H⟩ := H
 replace H : ((spec_l1Below.f t102 t108 t109 6).bind fun bt111 => ((spec_l1Below.f t102 bt111.2.1 bt111.2.2 5).bind fun bt114 => (some (t106,t107,wrap64 (bt111.1 - 1),bt114.1)))) = some (r1,r2,r3,r4) := H
 have A3 := Aside0.mk A30
 clear A30
 replace H := Option.bind_eq_some_iff.mp H
 obtain ⟨⟨t111,t112,t113⟩,A40,H⟩ := H
 replace H : ((spec_l1Below.f t102 t112 t113 5).bind fun bt114 => (some (t106,t107,wrap64 (t111 - 1),bt114.1))) = some (r1,r2,r3,r4) := H
 have A4 := Aside0.mk A40
 clear A40
 replace H := Option.bind_eq_some_iff.mp H
 obtain ⟨⟨t114,t115,t116⟩,A50,H⟩ := H
 replace H : (some (t106,t107,wrap64 (t111 - 1),t114)) = some (r1,r2,r3,r4) := H
 have A5 := Aside0.mk A50
 clear A50
 simp only [Option.some.injEq,Prod.mk.injEq] at H
 obtain ⟨rfl,rfl,rfl,rfl⟩ := H
 go_enter Try.func20,Try.ntmps20
 try go_wp2_with (first | ((with_reducible refine gate_dst (N := 2) rfl ?_);refine box_event ?hg (N := 2) ?hd (cs := #[.int .i64 0,.int .i64 0]) (t := 25) ?hr ?_;(case hd => rfl);(case hg => rfl);(case hr => first | (go_simp;done) | (go_simp;rfl));intro gb101 hg w6 hbox hb;have n0_ := Aside0.mk (below_step (by repeat (first | (with_reducible first | exact HB.out | apply below_alloc | apply pw_below_drewN | apply below_drew1) | exact HB.out)) hb);have n1_ := Aside0.mk (hbox);have n2_ := Aside0.mk ((by rw [hg];exact (below_size (by repeat (first | (with_reducible first | exact HB.out | apply below_alloc | apply pw_below_drewN | apply below_drew1) | exact HB.out))) : w.heap.size ≤ gb101));have n3_ := Aside0.mk ((by rw [hg];exact (below_size (by repeat (first | (with_reducible first | exact HB.out | apply below_alloc | apply pw_below_drewN | apply below_drew1) | exact HB.out))) : w.heap.size ≤ gb101));clear HB;have HB := n0_;have BK101 := n1_;have GW101 := n2_;have GE101 := n3_;clear n0_ n1_ n2_ n3_;clear hb hbox hg) | ((with_reducible refine gate_callee (f := 47) rfl ?_);refine goesL_ (some 9) rfl rfl Try.func47 (by kernel_rfl) rfl #[.slice A0 l0.length c0] rfl (by (try simp only [List.map_toArray,List.map_cons,List.map_nil]);first | done | rfl | (simp only [List.length_drop,List.length_take];rfl)) ?_;(with_reducible refine (spec_l1New.calls k _ _ l0 t102 t103 t104 w _ ?side1 ?side2 ?side3 A2.out).mono ?_);(case side1 => repeat (first | (with_reducible first | exact HB.out | apply below_alloc | apply pw_below_drewN | apply below_drew1 | refine below_set ?_ GE101.out) | exact HB.out));(case side2 => exact HR0.out);(case side3 => exact HC0.out);rintro e w7 ⟨g105,rfl,hi,hb,hb2⟩;refine ⟨_,rfl,?_⟩;have n0_ := Aside0.mk (blk_below (g := gb101) (o := .cells #[.int .i64 0,.int .i64 0] 25 (0,0)) (by (with_reducible repeat (first | refine blk_drewN ?_ _ | refine blk_drew ?_ | refine blk_alloc ?_ _));exact BK101.out) hb2);have n1_ := Aside0.mk (hb);have n2_ := Aside0.mk (hi);have n3_ := Aside0.mk (IsS90.ne_blk hi (blk_below (g := gb101) (o := .cells #[.int .i64 0,.int .i64 0] 25 (0,0)) (by (with_reducible repeat (first | refine blk_drewN ?_ _ | refine blk_drew ?_ | refine blk_alloc ?_ _));exact BK101.out) hb2) (by decide));have n4_ := Aside0.mk (Ne.symm (IsS90.ne_blk hi (blk_below (g := gb101) (o := .cells #[.int .i64 0,.int .i64 0] 25 (0,0)) (by (with_reducible repeat (first | refine blk_drewN ?_ _ | refine blk_drew ?_ | refine blk_alloc ?_ _));exact BK101.out) hb2) (by decide)));clear BK101;clear HB;have BK101 := n0_;have HB := n1_;have HI105 := n2_;have NB105_101 := n3_;have NB101_105 := n4_;clear n0_ n1_ n2_ n3_ n4_;(try clear hb);(try clear hb2);(try clear hk);(try clear hi)) | ((with_reducible refine gate_callee (f := 46) rfl ?_);refine goesL_ (some 11) rfl rfl Try.func46 (by kernel_rfl) rfl #[.pointer (some ⟨g105,0,none⟩)] rfl (by (try simp only [List.map_toArray,List.map_cons,List.map_nil]);first | done | rfl | (simp only [List.length_drop,List.length_take];rfl)) ?_;(with_reducible refine (spec_l18Draw.calls k g105 t102 t103 t104 t106 t107 t108 t109 w _ ?side1 ?side2 A3.out).mono ?_);(case side1 => repeat (first | (with_reducible first | exact HI105.out | apply IsS90.alloc | apply IsS90.drewN | apply IsS90.drew | apply IsS90.set_1 | apply IsS90.set_2 | refine IsS90.far ?_ NB105_101.out _) | exact HI105.out));(case side2 => repeat (first | (with_reducible first | exact HB.out | apply below_alloc | apply pw_below_drewN | apply below_drew1 | refine below_set ?_ (IsS90.ge HI105.out) | refine below_set ?_ GE101.out) | exact HB.out));rintro e w8 ⟨rfl,hi,hb,hk⟩;refine ⟨_,rfl,?_⟩;have n0_ := Aside0.mk (KeepBut.blk hk (g' := gb101) (o := .cells #[.int .i64 0,.int .i64 0] 25 (0,0)) (by (with_reducible repeat (first | refine blk_drewN ?_ _ | refine blk_drew ?_ | refine blk_alloc ?_ _));exact BK101.out) NB101_105.out (by simp));have n1_ := Aside0.mk (hb);have n2_ := Aside0.mk (hi);clear BK101;clear HB;clear HI105;have BK101 := n0_;have HB := n1_;have HI105 := n2_;clear n0_ n1_ n2_;(try clear hb);(try clear hb2);(try clear hk);(try clear hi)) | ((with_reducible refine gate_dst (N := 6) rfl ?_);refine box_event ?hg (N := 6) ?hd (cs := #[.int .i64 0,.int .i64 0]) (t := 25) ?hr ?_;(case hd => rfl);(case hg => rfl);(case hr => first | (go_simp;done) | (go_simp;rfl));intro gb110 hg w9 hbox hb;have n0_ := Aside0.mk (blk_below (g := gb101) (o := .cells #[.int .i64 0,.int .i64 0] 25 (0,0)) (by (with_reducible repeat (first | refine blk_drewN ?_ _ | refine blk_drew ?_ | refine blk_alloc ?_ _));exact BK101.out) hb);have n1_ := Aside0.mk (IsS90.below (by repeat (first | (with_reducible first | exact HI105.out | apply IsS90.alloc | apply IsS90.drewN | apply IsS90.drew | apply IsS90.set_1 | apply IsS90.set_2 | refine IsS90.far ?_ NB105_101.out _) | exact HI105.out)) hb);have n2_ := Aside0.mk (below_step (by repeat (first | (with_reducible first | exact HB.out | apply below_alloc | apply pw_below_drewN | apply below_drew1 | refine below_set ?_ (IsS90.ge HI105.out) | refine below_set ?_ GE101.out) | exact HB.out)) hb);have n3_ := Aside0.mk (hbox);have n4_ := Aside0.mk ((by rw [hg];exact (below_size (by repeat (first | (with_reducible first | exact HB.out | apply below_alloc | apply pw_below_drewN | apply below_drew1 | refine below_set ?_ (IsS90.ge HI105.out) | refine below_set ?_ GE101.out) | exact HB.out))) : w.heap.size ≤ gb110));have n5_ := Aside0.mk ((by rw [hg];exact (below_size (by repeat (first | (with_reducible first | exact HB.out | apply below_alloc | apply pw_below_drewN | apply below_drew1 | refine below_set ?_ (IsS90.ge HI105.out) | refine below_set ?_ GE101.out) | exact HB.out))) : w.heap.size ≤ gb110));have n6_ := Aside0.mk ((by rw [hg];exact Nat.ne_of_lt (blk_lt (g := gb101) (o := .cells #[.int .i64 0,.int .i64 0] 25 (0,0)) (by (with_reducible repeat (first | refine blk_drewN ?_ _ | refine blk_drew ?_ | refine blk_alloc ?_ _));exact BK101.out)) : gb101 ≠ gb110));have n7_ := Aside0.mk ((by rw [hg];exact Nat.ne_of_gt (blk_lt (g := gb101) (o := .cells #[.int .i64 0,.int .i64 0] 25 (0,0)) (by (with_reducible repeat (first | refine blk_drewN ?_ _ | refine blk_drew ?_ | refine blk_alloc ?_ _));exact BK101.out)) : gb110 ≠ gb101));have n8_ := Aside0.mk ((by rw [hg];exact Nat.ne_of_lt (IsS90.lt (show IsS90 w _ g105 t102 t108 t109 from by repeat (first | (with_reducible first | exact HI105.out | apply IsS90.alloc | apply IsS90.drewN | apply IsS90.drew | apply IsS90.set_1 | apply IsS90.set_2 | refine IsS90.far ?_ NB105_101.out _) | exact HI105.out))) : g105 ≠ gb110));have n9_ := Aside0.mk ((by rw [hg];exact Nat.ne_of_gt (IsS90.lt (show IsS90 w _ g105 t102 t108 t109 from by repeat (first | (with_reducible first | exact HI105.out | apply IsS90.alloc | apply IsS90.drewN | apply IsS90.drew | apply IsS90.set_1 | apply IsS90.set_2 | refine IsS90.far ?_ NB105_101.out _) | exact HI105.out))) : gb110 ≠ g105));clear BK101;clear HI105;clear HB;have BK101 := n0_;have HI105 := n1_;have HB := n2_;have BK110 := n3_;have GW110 := n4_;have GE110 := n5_;have NB101_110 := n6_;have NB110_101 := n7_;have NB105_110 := n8_;have NB110_105 := n9_;clear n0_ n1_ n2_ n3_ n4_ n5_ n6_ n7_ n8_ n9_;clear hb hbox hg;have hnb10 := NB110_101.out;have hnc10 := NB101_110.out;have hnb11 := NB110_105.out;have hnc11 := NB105_110.out;have hcz12_0 : w9.cell? ⟨gb110,0,none⟩ = some (.int .i64 0) := (blk_cell BK110.out 0).trans rfl;have hcz12_1 : w9.cell? ⟨gb110,1,none⟩ = some (.int .i64 0) := (blk_cell BK110.out 1).trans rfl;have hfz12_0 := blk_frozen BK110.out 0;have hfz12_1 := blk_frozen BK110.out 1) | ((with_reducible refine gate_callee (f := 62) rfl ?_);refine goesL_ (some 13) rfl rfl Try.func62 (by kernel_rfl) rfl #[.pointer (some ⟨g105,0,none⟩),.int .i64 6] rfl (by (try simp only [List.map_toArray,List.map_cons,List.map_nil]);first | done | rfl | (simp only [List.length_drop,List.length_take];rfl)) ?_;(with_reducible refine (spec_l1Below.calls g105 t102 t108 t109 6 t111 t112 t113 w _ ?side1 ?side2 A4.out).mono ?_);(case side1 => repeat (first | (with_reducible first | exact HI105.out | apply IsS90.alloc | apply IsS90.drewN | apply IsS90.drew | apply IsS90.set_1 | apply IsS90.set_2 | refine IsS90.far ?_ NB105_101.out _ | refine IsS90.far ?_ NB105_110.out _) | exact HI105.out));(case side2 => repeat (first | (with_reducible first | exact HB.out | apply below_alloc | apply pw_below_drewN | apply below_drew1 | refine below_set ?_ (IsS90.ge HI105.out) | refine below_set ?_ GE101.out | refine below_set ?_ GE110.out) | exact HB.out));rintro e w13 ⟨rfl,hi,hb,hk⟩;refine ⟨_,rfl,?_⟩;have n0_ := Aside0.mk (KeepBut.blk hk (g' := gb101) (o := .cells #[.int .i64 0,.int .i64 0] 25 (0,0)) (by (with_reducible repeat (first | refine blk_drewN ?_ _ | refine blk_drew ?_ | refine blk_alloc ?_ _));refine blk_far ?_ NB101_110.out _;(with_reducible repeat (first | refine blk_drewN ?_ _ | refine blk_drew ?_ | refine blk_alloc ?_ _));refine blk_far ?_ NB101_110.out _;(with_reducible repeat (first | refine blk_drewN ?_ _ | refine blk_drew ?_ | refine blk_alloc ?_ _));exact BK101.out) NB101_105.out (by simp));have n1_ := Aside0.mk (KeepBut.blk hk (g' := gb110) (o := .cells #[.int .i64 t106,.int .i64 t107] 25 (0,0)) (by (with_reducible repeat (first | refine blk_drewN ?_ _ | refine blk_drew ?_ | refine blk_alloc ?_ _));refine blk_put (cs := #[.int .i64 t106,.int .i64 0]) ?_ 1 _ rfl;(with_reducible repeat (first | refine blk_drewN ?_ _ | refine blk_drew ?_ | refine blk_alloc ?_ _));refine blk_put (cs := #[.int .i64 0,.int .i64 0]) ?_ 0 _ rfl;(with_reducible repeat (first | refine blk_drewN ?_ _ | refine blk_drew ?_ | refine blk_alloc ?_ _));exact BK110.out) NB110_105.out (by simp));have n2_ := Aside0.mk (hb);have n3_ := Aside0.mk (hi);clear BK101;clear BK110;clear HB;clear HI105;have BK101 := n0_;have BK110 := n1_;have HB := n2_;have HI105 := n3_;clear n0_ n1_ n2_ n3_;(try clear hb);(try clear hb2);(try clear hk);(try clear hi)))
 have n0_ := Aside0.mk (blk_drew BK101.out)
 have n1_ := Aside0.mk (blk_drew BK110.out)
 have n2_ := Aside0.mk (IsS90.drew HI105.out)
 have n3_ := Aside0.mk (below_drew1 HB.out)
 clear BK101
 clear BK110
 clear HI105
 clear HB
 have BK101 := n0_
 have BK110 := n1_
 have HI105 := n2_
 have HB := n3_
 clear n0_ n1_ n2_ n3_
 refine start_ (n := 7) (S := fun w' => w'.cell? ⟨gb110,0,none⟩ = some (.int .i64 t106) ∧ w'.cell? ⟨gb110,1,none⟩ = some (.int .i64 t107)) (ds := []) #[false,false,false,false,false,false,false] (by kernel_rfl) rfl rfl ⟨(blk_cell BK110.out 0).trans rfl,(blk_cell BK110.out 1).trans rfl⟩ (fun hHeld => ?_)
 generalize w13.drew = w14 at BK101 BK110 HI105 HB hHeld ⊢
 refine pure_ (i := 1) (N := some 16) (v := ?_) (a' := ?_) #[false,true,false,false,false,false,false] rfl rfl (by kernel_rfl) (fun _ _ _ h => h) (Or.inl ⟨by rfl,?_⟩) ?_ ?_
 rotate_left
 ·intro w'
  go_simp
  with_reducible rfl
 rotate_left
 ·simp only [Act.put,List.setIfInBounds_toArray,List.set_cons_zero,List.set_cons_succ,i64_w,i32_w]
  rfl
 refine pure_ (i := 2) (N := some 17) (v := ?_) (a' := ?_) #[false,true,true,false,false,false,false] rfl rfl (by kernel_rfl) (fun _ _ _ h => h) (Or.inl ⟨by rfl,?_⟩) ?_ ?_
 rotate_left
 ·intro w'
  go_simp
  with_reducible rfl
 rotate_left
 ·simp only [Act.put,List.setIfInBounds_toArray,List.set_cons_zero,List.set_cons_succ,i64_w,i32_w]
  rfl
 refine take_ (i := 0) (N := some 15) (v := ?_) (a' := ?_) #[true,true,true,false,false,false,false] rfl rfl (by kernel_rfl) (fun _ _ _ h => h) (Or.inl ⟨by rfl,?_⟩) hHeld ?_ ?_
 rotate_left
 ·rintro w' ⟨s0,s1⟩
  go_simp
  with_reducible rfl
 rotate_left
 ·simp only [Act.put,List.setIfInBounds_toArray,List.set_cons_zero,List.set_cons_succ,i64_w,i32_w]
  rfl
 refine one_ (i := 3) (N := some 18) #[true,true,true,true,false,false,false] rfl rfl (by kernel_rfl) (by decide) (fun K hK => ?_)
 refine goes_ Try.func62 (by kernel_rfl) rfl #[.pointer (some ⟨g105,0,none⟩),.int .i64 5] (by rfl) rfl rfl (by (try simp only [List.map_toArray,List.map_cons,List.map_nil]);first | done | rfl | (simp only [List.length_drop,List.length_take];rfl)) ?_
 with_reducible refine (spec_l1Below.calls g105 t102 t112 t113 5 t114 t115 t116 w _ ?side1 ?side2 A5.out).mono ?_
 (case side1 => repeat (first | (with_reducible first | exact HI105.out | apply IsS90.alloc | apply IsS90.drewN | apply IsS90.drew | apply IsS90.set_1 | apply IsS90.set_2 | refine IsS90.far ?_ NB105_101.out _ | refine IsS90.far ?_ NB105_110.out _) | exact HI105.out))
 (case side2 => repeat (first | (with_reducible first | exact HB.out | apply below_alloc | apply pw_below_drewN | apply below_drew1 | refine below_set ?_ (IsS90.ge HI105.out) | refine below_set ?_ GE101.out | refine below_set ?_ GE110.out) | exact HB.out))
 rintro e w15 ⟨rfl,hi,hb,hk⟩
 refine ⟨_,rfl,?_⟩
 have n0_ := Aside0.mk (KeepBut.blk hk (g' := gb101) (o := .cells #[.int .i64 0,.int .i64 0] 25 (0,0)) (by (with_reducible repeat (first | refine blk_drewN ?_ _ | refine blk_drew ?_ | refine blk_alloc ?_ _));exact BK101.out) NB101_105.out (by simp))
 have n1_ := Aside0.mk (KeepBut.blk hk (g' := gb110) (o := .cells #[.int .i64 t106,.int .i64 t107] 25 (0,0)) (by (with_reducible repeat (first | refine blk_drewN ?_ _ | refine blk_drew ?_ | refine blk_alloc ?_ _));exact BK110.out) NB110_105.out (by simp))
 have n2_ := Aside0.mk (hb)
 have n3_ := Aside0.mk (hi)
 clear BK101
 clear BK110
 clear HB
 clear HI105
 have BK101 := n0_
 have BK110 := n1_
 have HB := n2_
 have HI105 := n3_
 clear n0_ n1_ n2_ n3_
 (try clear hb)
 (try clear hb2)
 (try clear hk)
 (try clear hi)
 refine hK.out _ _ ⟨(blk_cell BK110.out 0).trans rfl,(blk_cell BK110.out 1).trans rfl⟩ (fun hHeld => ?_)
 clear hK K
 refine norm_ (a' := ?_) ?_ ?_
 rotate_left
 ·show Act.put _ (some 18) _ = _
  simp only [Act.put,List.setIfInBounds_toArray,List.set_cons_zero,List.set_cons_succ,i64_w,i32_w]
  rfl
 refine one_ (i := 4) (N := none) #[true,true,true,true,true,false,false] rfl rfl (by kernel_rfl) (by decide) (fun K hK => ?_)
 have hs16 : w15.cell? ⟨gb101,0,none⟩ = some (.int .i64 0) := (blk_cell BK101.out 0).trans rfl
 have hfs16 := blk_frozen BK101.out 0
 have hns16_1 := NB110_101.out
 have hms16_1 := NB101_110.out
 have hs17 : w15.cell? ⟨gb101,1,none⟩ = some (.int .i64 0) := (blk_cell BK101.out 1).trans rfl
 have hfs17 := blk_frozen BK101.out 1
 have hns17_1 := NB110_101.out
 have hms17_1 := NB101_110.out
 refine skip_ (w1 := ?_) (by rfl) rfl ?_ ?_
 rotate_left
 ·go_simp
  rfl
 refine hK.out _ _ ⟨((cell_far (p := ⟨gb101,_,none⟩) NB110_101.out _).trans (((cell_far (p := ⟨gb101,_,none⟩) NB110_101.out _).trans (hHeld.1)))),((cell_far (p := ⟨gb101,_,none⟩) NB110_101.out _).trans (((cell_far (p := ⟨gb101,_,none⟩) NB110_101.out _).trans (hHeld.2))))⟩ (fun hHeld => ?_)
 clear hK K
 refine pure_ (i := 5) (N := some 3) (v := ?_) (a' := ?_) #[true,true,true,true,true,true,false] rfl rfl (by kernel_rfl) (fun _ _ _ h => h) (Or.inl ⟨by rfl,?_⟩) ?_ ?_
 rotate_left
 ·intro w'
  go_simp
  with_reducible rfl
 rotate_left
 ·simp only [Act.put,List.setIfInBounds_toArray,List.set_cons_zero,List.set_cons_succ,i64_w,i32_w]
  rfl
 refine pure_ (i := 6) (N := some 4) (v := ?_) (a' := ?_) #[true,true,true,true,true,true,true] rfl rfl (by kernel_rfl) (fun _ _ _ h => h) (Or.inl ⟨by rfl,?_⟩) ?_ ?_
 rotate_left
 ·intro w'
  go_simp
  with_reducible rfl
 rotate_left
 ·simp only [Act.put,List.setIfInBounds_toArray,List.set_cons_zero,List.set_cons_succ,i64_w,i32_w]
  rfl
 refine done_ (by kernel_rfl) ?_
 try go_wp2
 refine bodyPost_ret (results_ctt rfl _ _ gb101 25 #[.int .i64 t106,.int .i64 t107] (0,0) _ rfl (by (with_reducible repeat (first | refine blk_drewN ?_ _ | refine blk_drew ?_ | refine blk_alloc ?_ _));refine blk_put (cs := #[.int .i64 t106,.int .i64 0]) ?_ 1 _ rfl;(with_reducible repeat (first | refine blk_drewN ?_ _ | refine blk_drew ?_ | refine blk_alloc ?_ _));refine blk_put (cs := #[.int .i64 0,.int .i64 0]) ?_ 0 _ rfl;(with_reducible repeat (first | refine blk_drewN ?_ _ | refine blk_drew ?_ | refine blk_alloc ?_ _));exact BK101.out) Try.underlying25 rfl (by kernel_rfl)) rfl ?_
 exact ⟨by first | rfl | (simp [errW_none,errW_some] <;> rfl) | (simp [*,errW_none,errW_some] <;> rfl),by repeat (first | (with_reducible first | exact HB.out | apply below_alloc | apply pw_below_drewN | apply below_drew1 | refine below_set ?_ (IsS90.ge HI105.out) | refine below_set ?_ GE101.out | refine below_set ?_ GE110.out) | exact HB.out)⟩
def spec_DrawCountSymmetric.f (k : Nat) (l0 : List Int) : Option (Int) := (spec_l1New.f k l0).bind fun bt101 => ((spec_l1Below.f bt101.1 bt101.2.1 bt101.2.2 6).bind fun bt105 => (some (wrap64 (bt105.1 - 1))))
set_option maxHeartbeats 8000000 in
set_option maxRecDepth 100000 in
theorem spec_DrawCountSymmetric.calls (k : Nat) (A0 : Option Addr) (c0 : Nat) (l0 : List Int) (r : Int) (w : World) (hr0 : Kd.C (Kd.int .u8) w A0 l0.length l0) (hc0 : l0.length ≤ c0) (h : spec_DrawCountSymmetric.f k l0 = some r) :
  Calls Try.prog 21 #[.slice A0 l0.length c0] w fun e w' => e = .returned (.int .i64 r) ∧ Below w.heap.size w w' := by
 have HR0 := Aside0.mk hr0
 have HC0 := Aside0.mk hc0
 clear hr0 hc0
 have HB := Aside0.mk (Below.refl w.heap.size w)
 have H : ((spec_l1New.f k l0).bind fun bt101 => ((spec_l1Below.f bt101.1 bt101.2.1 bt101.2.2 6).bind fun bt105 => (some (wrap64 (bt105.1 - 1))))) = some r := h
 clear h
 replace H := Option.bind_eq_some_iff.mp H
 obtain ⟨⟨t101,t102,t103⟩,A20,H⟩ := H
 replace H : ((spec_l1Below.f t101 t102 t103 6).bind fun bt105 => (some (wrap64 (bt105.1 - 1)))) = some r := H
 have A2 := Aside0.mk A20
 clear A20
 replace H := Option.bind_eq_some_iff.mp H
 obtain ⟨⟨t105,t106,t107⟩,A30,H⟩ := H
 replace H : (some (wrap64 (t105 - 1))) = some r := H
 have A3 := Aside0.mk A30
 clear A30
 obtain rfl := Option.some.inj H
 go_enter Try.func21,Try.ntmps21
 go_wp2_with (first | ((with_reducible refine gate_callee (f := 47) rfl ?_);refine goesL_ (some 4) rfl rfl Try.func47 (by kernel_rfl) rfl #[.slice A0 l0.length c0] rfl (by (try simp only [List.map_toArray,List.map_cons,List.map_nil]);first | done | rfl | (simp only [List.length_drop,List.length_take];rfl)) ?_;(with_reducible refine (spec_l1New.calls k _ _ l0 t101 t102 t103 w _ ?side1 ?side2 ?side3 A2.out).mono ?_);(case side1 => repeat (first | (with_reducible first | exact HB.out | apply below_alloc | apply pw_below_drewN | apply below_drew1) | exact HB.out));(case side2 => exact HR0.out);(case side3 => exact HC0.out);rintro e w4 ⟨g104,rfl,hi,hb,hb2⟩;refine ⟨_,rfl,?_⟩;have n0_ := Aside0.mk (hb);have n1_ := Aside0.mk (hi);clear HB;have HB := n0_;have HI104 := n1_;clear n0_ n1_;(try clear hb);(try clear hb2);(try clear hk);(try clear hi)) | ((with_reducible refine gate_callee (f := 62) rfl ?_);refine goesL_ (some 5) rfl rfl Try.func62 (by kernel_rfl) rfl #[.pointer (some ⟨g104,0,none⟩),.int .i64 6] rfl (by (try simp only [List.map_toArray,List.map_cons,List.map_nil]);first | done | rfl | (simp only [List.length_drop,List.length_take];rfl)) ?_;(with_reducible refine (spec_l1Below.calls g104 t101 t102 t103 6 t105 t106 t107 w _ ?side1 ?side2 A3.out).mono ?_);(case side1 => repeat (first | (with_reducible first | exact HI104.out | apply IsS90.alloc | apply IsS90.drewN | apply IsS90.drew | apply IsS90.set_1 | apply IsS90.set_2) | exact HI104.out));(case side2 => repeat (first | (with_reducible first | exact HB.out | apply below_alloc | apply pw_below_drewN | apply below_drew1 | refine below_set ?_ (IsS90.ge HI104.out)) | exact HB.out));rintro e w5 ⟨rfl,hi,hb,hk⟩;refine ⟨_,rfl,?_⟩;have n0_ := Aside0.mk (hb);have n1_ := Aside0.mk (hi);clear HB;clear HI104;have HB := n0_;have HI104 := n1_;clear n0_ n1_;(try clear hb);(try clear hb2);(try clear hk);(try clear hi)))
 go_ret
 exact ⟨by first | rfl | (simp [errW_none,errW_some] <;> rfl) | (simp [*,errW_none,errW_some] <;> rfl),by repeat (first | (with_reducible first | exact HB.out | apply below_alloc | apply pw_below_drewN | apply below_drew1 | refine below_set ?_ (IsS90.ge HI104.out)) | exact HB.out)⟩
set_option maxHeartbeats 400000 in
set_option maxRecDepth 100000 in
theorem impl_countTables_1.any (n x : Int) (c : Nat) (hc : c < 4611686018427387904) (b : Bool) (g g1 g2 : Nat) (lb : Array Value) (eg : ∀ args w,(callFunc g args).run Try.prog w = .ok (.enter g args) w) (W : World) (hne : g1 ≠ g2)
  (h1 : W.heap[g1]? = some (.cells #[.func (.func g) #[] lb] 29 (0,0))) (h2 : W.heap[g2]? = some (.cells #[.int .i64 c] 3 (0,0)))
  (hp : ∀ W' : World,Below W.heap.size W W' → Gives Try.prog g lb #[.agg #[.int .i64 n,.int .i64 x]] (.bool b) W') :
  Calls Try.prog 87 #[.agg #[.int .i64 n,.int .i64 x],.pointer (some ⟨g1,0,none⟩),.pointer (some ⟨g2,0,none⟩)] W fun e w' => e = .returned (.tuple #[]) ∧ w'.heap[g1]? = some (.cells #[.func (.func g) #[] lb] 29 (0,0)) ∧ w'.heap[g2]? = some (.cells #[.int .i64 (c + b.toNat : Nat)] 3 (0,0)) ∧ Below g2 W w' := by
 have hu := Try.underlying25
 have hl1 := blk_lt h1
 have hl2 := blk_lt h2
 have hcall := hp (W.alloc (.cells #[.int .i64 n,.int .i64 x] 25 (0,0))) (below_alloc (Below.refl _ _) _)
 unfold Gives at hcall
 have hc0 : (W.alloc (.cells #[.int .i64 n,.int .i64 x] 25 (0,0))).cell? ⟨g1,0,none⟩ = some (.func (.func g) #[] lb) := (blk_cell (blk_alloc h1 _) 0).trans rfl
 have hd0 : (W.alloc (.cells #[.int .i64 n,.int .i64 x] 25 (0,0))).cell? ⟨W.heap.size,0,none⟩ = some (.int .i64 n) := (blk_cell (blk_new _ _) 0).trans rfl
 have hd1 : (W.alloc (.cells #[.int .i64 n,.int .i64 x] 25 (0,0))).cell? ⟨W.heap.size,1,none⟩ = some (.int .i64 x) := (blk_cell (blk_new _ _) 1).trans rfl
 go_enter Try.func87,Try.ntmps87
 cases b with
 | true =>
  go_wp2_with (go_at_fn g;refine hcall.mono ?_;rintro e w' ⟨rfl,hb'⟩;have K1 := blk_below (blk_alloc h1 _) hb';have K2 := blk_below (blk_alloc h2 _) hb';have HB := below_step (below_alloc (Below.refl _ _) _) hb';have hx0 : w'.cell? ⟨g2,0,none⟩ = some (.int .i64 c) := (blk_cell K2 0).trans rfl;have hf0 : w'.frozen? ⟨g2,0,none⟩ = false := blk_frozen K2 0)
  go_end0
  refine ⟨rfl,?_,?_,?_⟩
  ·exact blk_far K1 (fun h => hne h) _
  ·exact blk_put K2 0 _ (by simp)
  ·exact (HB.mono (Nat.le_of_lt hl2)).setCell (Nat.le_refl _) _
 | false =>
  go_wp2_with (go_at_fn g;refine hcall.mono ?_;rintro e w' ⟨rfl,hb'⟩;have K1 := blk_below (blk_alloc h1 _) hb';have K2 := blk_below (blk_alloc h2 _) hb';have HB := below_step (below_alloc (Below.refl _ _) _) hb';have hx0 : w'.cell? ⟨g2,0,none⟩ = some (.int .i64 c) := (blk_cell K2 0).trans rfl;have hf0 : w'.frozen? ⟨g2,0,none⟩ = false := blk_frozen K2 0)
  go_end0
  exact ⟨rfl,K1,K2,HB.mono (Nat.le_of_lt hl2)⟩
set_option maxHeartbeats 400000 in
set_option maxRecDepth 100000 in
theorem impl_allTables.any (n : Nat) (hn : n ≤ 4) (p : Nat → Bool) (g g1 g2 : Nat) (lb : Array Value) (eg : ∀ args w,(callFunc g args).run Try.prog w = .ok (.enter g args) w) (hne : g1 ≠ g2)
  (hp : ∀ x : Nat,x < 2 ^ 2 ^ n → ∀ W' : World,Gives Try.prog g lb #[.agg #[.int .i64 n,.int .i64 x]] (.bool (p x)) W') (w : World)
  (h1 : w.heap[g1]? = some (.cells #[.func (.func g) #[] lb] 29 (0,0))) (h2 : w.heap[g2]? = some (.cells #[.int .i64 0] 3 (0,0))) :
  Calls Try.prog 86 #[.int .i64 n,.func (.func 87) #[] #[.pointer (some ⟨g1,0,none⟩),.pointer (some ⟨g2,0,none⟩)]] w fun e w' => e = .returned (.tuple #[]) ∧ w'.heap[g2]? = some (.cells #[.int .i64 (B.cntN p (2 ^ 2 ^ n) : Nat)] 3 (0,0)) ∧ Below g2 w w' := by
 have hu := Try.underlying25
 have HP := Aside0.mk hp
 have HG := Aside0.mk eg
 have H1 := Aside0.mk h1
 have H2 := Aside0.mk h2
 have HNE := Aside0.mk hne
 have eg1 := enters_of Try.func87 (by kernel_rfl) rfl
 clear hp eg h1 h2 hne
 have h63 : (n : Int) ≤ 64 := by omega
 have h0 : (0 : Int) ≤ n := by omega
 obtain ⟨M,hM⟩ : ∃ M : Nat,M = 2 ^ 2 ^ n := ⟨_,rfl⟩
 have hsh : ∀ n : Fin 5,wrap64 (2 ^ min (IntKind.u64.wrap (2 ^ n.val)).toNat 64) = ((2 ^ 2 ^ n.val : Nat) : Int) ∧ 2 ^ 2 ^ n.val ≤ 65536 := by decide +kernel
 obtain ⟨hwr,hM1⟩ := hsh ⟨n,by omega⟩
 rw [← hM] at hwr hM1
 clear hsh
 have HM := Aside0.mk hM
 clear hM
 go_enter Try.func86,Try.ntmps86
 go_wp2
 clear hwr
 go_loopg [8] M (fun gg v8 wr => ∃ x : Nat,x ≤ M ∧ M - x ≤ gg ∧ v8 = .int .i64 x ∧ Aside0 (wr.heap[g1]? = some (.cells #[.func (.func g) #[] lb] 29 (0,0))) ∧ Aside0 (wr.heap[g2]? = some (.cells #[.int .i64 (B.cntN p x : Nat)] 3 (0,0))) ∧ Aside0 (Below g2 w wr))
 case atStart => exact ⟨0,Nat.zero_le _,by omega,rfl,H1,⟨by simpa [B.cntN] using H2.out⟩,⟨Below.refl _ _⟩⟩
 case round =>
  obtain ⟨x,hx,hg,rfl,BK1,BK2,HB⟩ := hrel
  by_cases hlt : x < M
  ·have hltz : (x : Int) < (M : Int) := by omega
   have hcall := impl_countTables_1.any n x (B.cntN p x) (by have := B.cntN_le p x;omega) (p x) g g1 g2 lb HG.out wr HNE.out BK1.out BK2.out (fun W' _ => HP.out x (by rw [← HM.out];exact hlt) W')
   go_wp2_with (go_at_call 87;refine hcall.mono ?_;rintro e w' ⟨rfl,k1,k2,hb'⟩;have BK1' := Aside0.mk k1;have BK2' := Aside0.mk k2;have HB' := Aside0.mk (HB.out.trans hb');clear hb' k1 k2)
   go_roundg (M - (x + 1))
   case measure => omega
   case rel => exact ⟨x + 1,by omega,by omega,by go_num,BK1',BK2',HB'⟩
  ·have hltz : ¬ (x : Int) < (M : Int) := by omega
   obtain rfl : x = M := by omega
   go_wp2
   go_end0
   rw [← HM.out]
   exact ⟨rfl,BK2.out,HB.out⟩
set_option maxHeartbeats 400000 in
set_option maxRecDepth 100000 in
theorem impl_countTables.upto (m : Int) (n : Nat) (hnm : (n : Int) ≤ m) (hn : n ≤ 4) (p : Nat → Bool) (g : Nat) (eg : ∀ args w,(callFunc g args).run Try.prog w = .ok (.enter g args) w)
  (hp : ∀ x : Nat,x < 2 ^ 2 ^ n → ∀ W' : World,Gives Try.prog g #[] #[.agg #[.int .i64 n,.int .i64 x]] (.bool (p x)) W') (w : World) :
  Calls Try.prog 66 #[.int .i64 n,.int .i64 m,.func (.func g) #[] #[]] w fun e w' => e = .returned (.int .i64 (B.cntN p (2 ^ 2 ^ n) : Nat)) ∧ Below w.heap.size w w' := by
 have hu := Try.underlying25
 have HP := Aside0.mk hp
 have HG := Aside0.mk eg
 have HN := Aside0.mk hn
 clear hp eg
 have h0 : (0 : Int) ≤ n := by omega
 have h1 : ¬ (n : Int) < 0 := by omega
 have h4 : ¬ m < n := by omega
 have k1 := blk_alloc (blk_new w (.cells #[.func (.func g) #[] #[]] 29 (0,0))) (.cells #[.int .i64 0] 3 (0,0))
 have k2 : ((w.alloc (.cells #[.func (.func g) #[] #[]] 29 (0,0))).alloc (.cells #[.int .i64 0] 3 (0,0))).heap[w.heap.size + 1]? = some (.cells #[.int .i64 0] 3 (0,0)) := by simpa using blk_new (w.alloc (.cells #[.func (.func g) #[] #[]] 29 (0,0))) (.cells #[.int .i64 0] 3 (0,0))
 have kb := below_alloc (below_alloc (Below.refl w.heap.size w) (.cells #[.func (.func g) #[] #[]] 29 (0,0))) (.cells #[.int .i64 0] 3 (0,0))
 go_enter Try.func66,Try.ntmps66
 go_wp2_with (go_at_call 86;refine (impl_allTables.any n HN.out p g w.heap.size (w.heap.size + 1) #[] HG.out (by omega) HP.out _ k1 k2).mono ?_;rintro e w' ⟨rfl,BK,hb⟩;have hc0 : w'.cell? ⟨w.heap.size + 1,0,none⟩ = some (.int .i64 (B.cntN p (2 ^ 2 ^ n) : Nat)) := (blk_cell BK 0).trans rfl)
 go_ret
 exact ⟨rfl,kb.trans (hb.mono (Nat.le_succ _))⟩
theorem impl_countTables.any (n : Nat) (hn : n ≤ 4) (p : Nat → Bool) (g : Nat) (eg : ∀ args w,(callFunc g args).run Try.prog w = .ok (.enter g args) w)
  (hp : ∀ x : Nat,x < 2 ^ 2 ^ n → ∀ W' : World,Gives Try.prog g #[] #[.agg #[.int .i64 n,.int .i64 x]] (.bool (p x)) W') (w : World) :
  Calls Try.prog 66 #[.int .i64 n,.int .i64 4,.func (.func g) #[] #[]] w fun e w' => e = .returned (.int .i64 (B.cntN p (2 ^ 2 ^ n) : Nat)) ∧ Below w.heap.size w w' := impl_countTables.upto 4 n (by omega) hn p g eg hp w
def impl_CountSymmetric.p (n x : Nat) : Bool := (impl_IsSymmetric.f 200 n x) == some true
def impl_CountSymmetric.f (a0 : Int) : Option Int := if a0 < 0 then some (-1) else if 4 < a0 then some (-1) else if B.allN (fun x => (impl_IsSymmetric.f 200 a0 x).isSome) (2 ^ 2 ^ a0.toNat) = true then some ((B.cntN (impl_CountSymmetric.p a0.toNat) (2 ^ 2 ^ a0.toNat) : Nat) : Int) else none
set_option maxHeartbeats 400000 in
set_option maxRecDepth 100000 in
theorem impl_CountSymmetric.calls (a0 r : Int) (w : World) (h : impl_CountSymmetric.f a0 = some r) :
  Calls Try.prog 22 #[.int .i64 a0] w fun e w' => e = .returned (.int .i64 r) ∧ Below w.heap.size w w' := by
 unfold impl_CountSymmetric.f at h
 by_cases h1 : a0 < 0
 ·rw [if_pos h1] at h
  cases h
  go_enter Try.func22,Try.ntmps22
  go_wp2
  go_ret
  exact ⟨rfl,below_alloc (Below.refl _ _) _⟩
 ·rw [if_neg h1] at h
  by_cases h2 : 4 < a0
  ·rw [if_pos h2] at h
   cases h
   go_enter Try.func22,Try.ntmps22
   go_wp2
   go_ret
   exact ⟨rfl,below_alloc (Below.refl _ _) _⟩
  ·rw [if_neg h2] at h
   split at h
   next ha =>
    obtain ⟨n,rfl⟩ := Int.eq_ofNat_of_zero_le (by omega : 0 ≤ a0)
    simp only [Option.some.injEq,Int.toNat_natCast] at h ha
    subst h
    rw [B.allN_iff] at ha
    have eg := enters_of Try.func8 (by kernel_rfl) rfl
    have HC := impl_countTables.any n (by omega) (impl_CountSymmetric.p n) 8 eg (fun x hx W => by
     have hs := ha x hx
     obtain ⟨b,hb⟩ := Option.isSome_iff_exists.mp hs
     have e : impl_CountSymmetric.p n x = b := by unfold impl_CountSymmetric.p;rw [hb];cases b <;> rfl
     rw [e]
     exact impl_IsSymmetric.calls 200 n x b W hb) w
    clear ha eg
    go_enter Try.func22,Try.ntmps22
    go_wp2_with (go_at_call 66;refine HC.mono ?_;rintro e w' ⟨rfl,hb⟩)
    go_ret
    exact ⟨rfl,hb⟩
   next => cases h
def spec_CountSymmetric.l0 : Nat → Int → Int → Int → Option (Int)
 | 0,_,_,_ => none
 | k + 1,x0,x3,x4 => (spec_l2Full.f x0).bind fun t102 => (if x4 ≤ t102 then ((spec_IsSymmetric.f k x0 x4).bind fun t103 => (if t103 = true then (spec_CountSymmetric.l0 k x0 (wrap64 (x3 + 1)) (wrap64 (x4 + 1))) else (spec_CountSymmetric.l0 k x0 x3 (wrap64 (x4 + 1))))) else (some x3))
def spec_CountSymmetric.f (k : Nat) (a0 : Int) : Option (Int) := (spec_l1In.f a0 0 4).bind fun t101 => (if t101 = true then (spec_CountSymmetric.l0 k a0 0 0) else (some (-1)))
set_option maxHeartbeats 8000000 in
set_option maxRecDepth 100000 in
theorem spec_CountSymmetric.calls (k : Nat) (a0 : Int) (r : Int) (w : World) (h : spec_CountSymmetric.f k a0 = some r) :
  Calls Try.prog 24 #[.int .i64 a0] w fun e w' => e = .returned (.int .i64 r) ∧ Below w.heap.size w w' := by
 have hu25 := Try.underlying25
 have HB := Aside0.mk (Below.refl w.heap.size w)
 have H : ((spec_l1In.f a0 0 4).bind fun t101 => (if t101 = true then (spec_CountSymmetric.l0 k a0 0 0) else (some (-1)))) = some r := h
 clear h
 replace H := Option.bind_eq_some_iff.mp H
 obtain ⟨t101,A20,H⟩ := H
 replace H : (if t101 = true then (spec_CountSymmetric.l0 k a0 0 0) else (some (-1))) = some r := H
 have A2 := Aside0.mk A20
 clear A20
 by_cases c3 : t101 = true
 ·subst c3
  have H1 : (spec_CountSymmetric.l0 k a0 0 0) = some r := by rw [if_pos rfl] at H;exact H
  clear H
  have H := H1
  clear H1
  have H' := Aside0.mk H
  clear H
  go_enter Try.func24,Try.ntmps24
  go_wp2_with (first | ((with_reducible refine gate_callee (f := 61) rfl ?_);refine goesL_ (some 6) rfl rfl Try.func61 (by kernel_rfl) rfl #[.int .i64 a0,.int .i64 0,.int .i64 4] rfl (by (try simp only [List.map_toArray,List.map_cons,List.map_nil]);first | done | rfl | (simp only [List.length_drop,List.length_take];rfl)) ?_;(with_reducible refine (spec_l1In.calls a0 0 4 true _ A2.out).mono ?_);rintro e w' ⟨rfl,⟨nd,rfl⟩⟩;refine ⟨_,rfl,?_⟩))
  go_loopg [3,4] k (fun kq v3 v4 w' => ∃ (x3_1 : Int) (x4_1 : Int),v3 = .int .i64 x3_1 ∧ v4 = .int .i64 x4_1 ∧ Aside0 (spec_CountSymmetric.l0 kq a0 x3_1 x4_1 = some r) ∧ Aside0 (kq ≤ k) ∧ Aside0 (Below w.heap.size w w'))
  case atStart => exact ⟨(0),(0),(by first | rfl | (simp;done) | (simp [*];done)),(by first | rfl | (simp;done) | (simp [*];done)),H',⟨Nat.le_refl _⟩,⟨by repeat (first | (with_reducible first | exact HB.out | apply below_alloc | apply pw_below_drewN | apply below_drew1) | exact HB.out)⟩⟩
  case round =>
   clear H'
   try clear c2
   try clear p2
   try clear c3
   obtain ⟨x3_1,x4_1,rfl,rfl,HA,HK1,HB⟩ := hrel
   cases gk with
   | zero => exact absurd HA.out (by simp [spec_CountSymmetric.l0])
   | succ k1 =>
    have H := HA.out
    clear HA
    simp only [spec_CountSymmetric.l0] at H
    replace H := Option.bind_eq_some_iff.mp H
    obtain ⟨t102,A40,H⟩ := H
    replace H : (if x4_1 ≤ t102 then ((spec_IsSymmetric.f k1 a0 x4_1).bind fun t103 => (if t103 = true then (spec_CountSymmetric.l0 k1 a0 (wrap64 (x3_1 + 1)) (wrap64 (x4_1 + 1))) else (spec_CountSymmetric.l0 k1 a0 x3_1 (wrap64 (x4_1 + 1))))) else (some x3_1)) = some r := H
    have A4 := Aside0.mk A40
    clear A40
    by_cases c5 : x4_1 ≤ t102
    ·rw [if_pos c5] at H
     have c5b0 : decide (x4_1 ≤ t102) = true := decide_eq_true c5
     clear c5
     replace H := Option.bind_eq_some_iff.mp H
     obtain ⟨t103,A60,H⟩ := H
     replace H : (if t103 = true then (spec_CountSymmetric.l0 k1 a0 (wrap64 (x3_1 + 1)) (wrap64 (x4_1 + 1))) else (spec_CountSymmetric.l0 k1 a0 x3_1 (wrap64 (x4_1 + 1)))) = some r := H
     have A6 := Aside0.mk A60
     clear A60
     by_cases c7 : t103 = true
     ·subst c7
      have H1 : (spec_CountSymmetric.l0 k1 a0 (wrap64 (x3_1 + 1)) (wrap64 (x4_1 + 1))) = some r := by rw [if_pos rfl] at H;exact H
      clear H
      have H := H1
      clear H1
      have H' := Aside0.mk H
      clear H
      go_wp2_with (first | ((with_reducible refine gate_callee (f := 67) rfl ?_);refine goesL_ (some 10) rfl rfl Try.func67 (by kernel_rfl) rfl #[.int .i64 a0] rfl (by (try simp only [List.map_toArray,List.map_cons,List.map_nil]);first | done | rfl | (simp only [List.length_drop,List.length_take];rfl)) ?_;(with_reducible refine (spec_l2Full.calls a0 t102 _ A4.out).mono ?_);rintro e w' ⟨rfl,⟨nd,rfl⟩⟩;refine ⟨_,rfl,?_⟩) | ((with_reducible refine gate_callee (f := 12) rfl ?_);refine goesL_ (some 17) rfl rfl Try.func12 (by kernel_rfl) rfl #[.agg #[.int .i64 a0,.int .i64 x4_1]] rfl (by (try simp only [List.map_toArray,List.map_cons,List.map_nil]);first | done | rfl | (simp only [List.length_drop,List.length_take];rfl)) ?_;(with_reducible refine (spec_IsSymmetric.calls k1 a0 x4_1 true _ A6.out).mono ?_);rintro e w8 ⟨rfl,hb⟩;refine ⟨_,rfl,?_⟩;have n0_ := Aside0.mk (below_step (by repeat (first | (with_reducible first | exact HB.out | apply below_alloc | apply pw_below_drewN | apply below_drew1) | exact HB.out)) hb);clear HB;have HB := n0_;clear n0_;(try clear hb);(try clear hb2);(try clear hk);(try clear hi)))
      go_roundg k1
      case measure => have := HK1.out;omega
      case rel => exact ⟨(wrap64 (x3_1 + 1)),(wrap64 (x4_1 + 1)),(by first | rfl | (simp;done) | (simp [*];done)),(by first | rfl | (simp;done) | (simp [*];done)),H',⟨by have := HK1.out;omega⟩,⟨by repeat (first | (with_reducible first | exact HB.out | apply below_alloc | apply pw_below_drewN | apply below_drew1) | exact HB.out)⟩⟩
     ·replace c7 := Bool.eq_false_iff.mpr c7
      subst c7
      have H1 : (spec_CountSymmetric.l0 k1 a0 x3_1 (wrap64 (x4_1 + 1))) = some r := by rw [if_neg (show ¬ (false = true) by decide)] at H;exact H
      clear H
      have H := H1
      clear H1
      have H' := Aside0.mk H
      clear H
      go_wp2_with (first | ((with_reducible refine gate_callee (f := 67) rfl ?_);refine goesL_ (some 10) rfl rfl Try.func67 (by kernel_rfl) rfl #[.int .i64 a0] rfl (by (try simp only [List.map_toArray,List.map_cons,List.map_nil]);first | done | rfl | (simp only [List.length_drop,List.length_take];rfl)) ?_;(with_reducible refine (spec_l2Full.calls a0 t102 _ A4.out).mono ?_);rintro e w' ⟨rfl,⟨nd,rfl⟩⟩;refine ⟨_,rfl,?_⟩) | ((with_reducible refine gate_callee (f := 12) rfl ?_);refine goesL_ (some 17) rfl rfl Try.func12 (by kernel_rfl) rfl #[.agg #[.int .i64 a0,.int .i64 x4_1]] rfl (by (try simp only [List.map_toArray,List.map_cons,List.map_nil]);first | done | rfl | (simp only [List.length_drop,List.length_take];rfl)) ?_;(with_reducible refine (spec_IsSymmetric.calls k1 a0 x4_1 false _ A6.out).mono ?_);rintro e w9 ⟨rfl,hb⟩;refine ⟨_,rfl,?_⟩;have n0_ := Aside0.mk (below_step (by repeat (first | (with_reducible first | exact HB.out | apply below_alloc | apply pw_below_drewN | apply below_drew1) | exact HB.out)) hb);clear HB;have HB := n0_;clear n0_;(try clear hb);(try clear hb2);(try clear hk);(try clear hi)))
      go_roundg k1
      case measure => have := HK1.out;omega
      case rel => exact ⟨(x3_1),(wrap64 (x4_1 + 1)),(by first | rfl | (simp;done) | (simp [*];done)),(by first | rfl | (simp;done) | (simp [*];done)),H',⟨by have := HK1.out;omega⟩,⟨by repeat (first | (with_reducible first | exact HB.out | apply below_alloc | apply pw_below_drewN | apply below_drew1) | exact HB.out)⟩⟩
    ·rw [if_neg c5] at H
     have c5b0 : decide (x4_1 ≤ t102) = false := decide_eq_false c5
     clear c5
     obtain rfl := Option.some.inj H
     go_wp2_with (first | ((with_reducible refine gate_callee (f := 67) rfl ?_);refine goesL_ (some 10) rfl rfl Try.func67 (by kernel_rfl) rfl #[.int .i64 a0] rfl (by (try simp only [List.map_toArray,List.map_cons,List.map_nil]);first | done | rfl | (simp only [List.length_drop,List.length_take];rfl)) ?_;(with_reducible refine (spec_l2Full.calls a0 t102 _ A4.out).mono ?_);rintro e w' ⟨rfl,⟨nd,rfl⟩⟩;refine ⟨_,rfl,?_⟩))
     go_ret
     exact ⟨by first | rfl | (simp [errW_none,errW_some] <;> rfl) | (simp [*,errW_none,errW_some] <;> rfl),by repeat (first | (with_reducible first | exact HB.out | apply below_alloc | apply pw_below_drewN | apply below_drew1) | exact HB.out)⟩
 ·replace c3 := Bool.eq_false_iff.mpr c3
  subst c3
  have H1 : (some (-1)) = some r := by rw [if_neg (show ¬ (false = true) by decide)] at H;exact H
  clear H
  have H := H1
  clear H1
  obtain rfl := Option.some.inj H
  go_enter Try.func24,Try.ntmps24
  go_wp2_with (first | ((with_reducible refine gate_callee (f := 61) rfl ?_);refine goesL_ (some 6) rfl rfl Try.func61 (by kernel_rfl) rfl #[.int .i64 a0,.int .i64 0,.int .i64 4] rfl (by (try simp only [List.map_toArray,List.map_cons,List.map_nil]);first | done | rfl | (simp only [List.length_drop,List.length_take];rfl)) ?_;(with_reducible refine (spec_l1In.calls a0 0 4 false _ A2.out).mono ?_);rintro e w' ⟨rfl,⟨nd,rfl⟩⟩;refine ⟨_,rfl,?_⟩))
  go_ret
  exact ⟨by first | rfl | (simp [errW_none,errW_some] <;> rfl) | (simp [*,errW_none,errW_some] <;> rfl),by repeat (first | (with_reducible first | exact HB.out | apply below_alloc | apply pw_below_drewN | apply below_drew1) | exact HB.out)⟩
end Go.Proofs.Ythlajlhjofjmcaa.F
