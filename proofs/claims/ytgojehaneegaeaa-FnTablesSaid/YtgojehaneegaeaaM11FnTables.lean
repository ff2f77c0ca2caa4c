/- Walks of Go functions and lemmas on what they compute, for the row of FnTables (a part of several): each call ends as the Lean function of its name tells; the conditions are those of each theorem. -/
import Derived.Test.YtgojehaneegaeaaM1FnTables
import Derived.Test.YtgojehaneegaeaaM2FnTables
import Derived.Test.YtgojehaneegaeaaM3FnTables
import Derived.Test.YtgojehaneegaeaaM4FnTables
import Derived.Test.YtgojehaneegaeaaM7FnTables
namespace Go.Proofs.Ytgojehaneegaeaa.F
open Go.RowKit Go.Proofs.YtgojehaneegaeaaW.PrintWords Go.Proofs.YtgojehaneegaeaaW.PrintLast Go.Proofs.YtgojehaneegaeaaW.PrintMore
attribute [local go_sem] max2_int min2_int max_two min_two max_three min_three max_four min_four 
set_option linter.unusedVariables false
set_option linter.unusedSimpArgs false
def spec_IsConstant.f (a0_0 : Int) (a0_1 : Int) : Option (Bool) := (spec_IsTable.f a0_0 a0_1).bind fun t102 => (if t102 = true then (if a0_1 = 0 then (some true) else ((spec_l2Full.f a0_0).bind fun t103 => (some (a0_1 == t103)))) else (some false))
def spec_IsConstant.T1 : Bool × List (List Nat × List Nat) := (true,[([],[]),([0],[0]),([1,1],[1]),([2],[2]),([3,2],[2,3]),([4,2],[2,4]),([5,2,2],[2,5]),([6],[6]),([7,6],[6,7]),([6],[6]),([9,6],[6,9]),([10,6,6],[6,10]),([8,11,6],[6,8,11]),([6,12,2],[2,6,12]),([2,13],[2,13]),([14,11,0,1,2,3,4,5,6,7,8,9,10,11,12,13,14],[14])])
def spec_IsConstant.B1 : List Nat := [0,1,3,7,15,31,63,127,255,127,639,1663,4095,8191,16383,32767]
theorem spec_IsConstant.tab1 : rtab .any (opsOf Try.f33 1) = spec_IsConstant.T1 := by kernel_rfl
theorem spec_IsConstant.bits1 : waitsOk spec_IsConstant.T1.2 spec_IsConstant.B1 = true := by kernel_rfl
set_option maxHeartbeats 8000000 in
set_option maxRecDepth 100000 in
theorem spec_IsConstant.calls (a0_0 : Int) (a0_1 : Int) (r : Bool) (w : World) (h : spec_IsConstant.f a0_0 a0_1 = some r) :
  Calls Try.prog 33 #[.agg #[.int .i64 a0_0,.int .i64 a0_1]] w fun e w' => e = .returned (.bool r) ∧ Below w.heap.size w w' := by
 have hu25 := Try.underlying25
 have HB := aZ_ (Below.refl w.heap.size w)
 have H : ((spec_IsTable.f a0_0 a0_1).bind fun t102 => (if t102 = true then (if a0_1 = 0 then (some true) else ((spec_l2Full.f a0_0).bind fun t103 => (some (a0_1 == t103)))) else (some false))) = some r := h
 clear h
 replace H := Option.bind_eq_some_iff.mp H
 obtain ⟨t102,A20,H⟩ := H
 replace H : (if t102 = true then (if a0_1 = 0 then (some true) else ((spec_l2Full.f a0_0).bind fun t103 => (some (a0_1 == t103)))) else (some false)) = some r := H
 have A2 := aZ_ A20
 clear A20
 by_cases c3 : t102 = true
 ·subst c3
  have H1 : (if a0_1 = 0 then (some true) else ((spec_l2Full.f a0_0).bind fun t103 => (some (a0_1 == t103)))) = some r := by rw [if_pos rfl] at H;exact H
  clear H
  have H := H1
  clear H1
  by_cases c4 : a0_1 = 0
  ·rw [if_pos c4] at H
   have c4b0 : (a0_1 == 0) = true := beq_iff_eq.mpr c4
   have c4b1 : (a0_1 != 0) = false := bne_eq_false_iff_eq.mpr c4
   clear c4
   obtain rfl := Option.some.inj H
   go_enter Try.func33,Try.ntmps33
   try go_wp2_with (first | ((with_reducible refine gate_dst (N := 1) rfl ?_);refine box_event ?hg (N := 1) ?hd (cs := #[.int .i64 a0_0,.int .i64 a0_1]) (t := 25) ?hr ?_;(case hd => rfl);(case hg => rfl);(case hr => first | (go_simp;done) | (go_simp;rfl));intro gb101 hg w5 hbox hb;have n0_ := aZ_ (below_step T6_ hb);have n1_ := aZ_ (hbox);have n2_ := aZ_ ((T1_ : w.heap.size ≤ gb101));have n3_ := aZ_ ((T1_ : w.heap.size ≤ gb101));clear HB;have HB := n0_;have BK101 := n1_;have GW101 := n2_;have GE101 := n3_;clear n0_ n1_ n2_ n3_;clear hb hbox hg))
   have n0_ := aZ_ (blk_drew BK101.out)
   have n1_ := aZ_ (below_drew1 HB.out)
   clear BK101
   clear HB
   have BK101 := n0_
   have HB := n1_
   clear n0_ n1_
   refine start_ (n := 16) (S := fun w' => w'.cell? ⟨gb101,0,none⟩ = some (.int .i64 a0_0) ∧ w'.cell? ⟨gb101,1,none⟩ = some (.int .i64 a0_1)) (ds := []) #[false,false,false,false,false,false,false,false,false,false,false,false,false,false,false,false] T17_ rfl rfl ⟨(blk_cell BK101.out 0).trans rfl,(blk_cell BK101.out 1).trans rfl⟩ (fun hHeld => ?_);refine with_tabW spec_IsConstant.tab1 spec_IsConstant.bits1 (fun HT_ HW_ => ?_)
   generalize w5.drew = w6 at BK101 HB hHeld ⊢
   refine tZ2_ 0 (some 3) #[true,false,false,false,false,false,false,false,false,false,false,false,false,false,false,false] hHeld ?_
   refine one_ (i := 1) (N := some 4) #[true,true,false,false,false,false,false,false,false,false,false,false,false,false,false,false] rfl rfl (one_of HT_.out T17_) T58_ (fun K hK => ?_)
   refine gZ_ Try.func18 #[.agg #[.int .i64 a0_0,.int .i64 a0_1]] ?_
   with_reducible refine (spec_IsTable.calls a0_0 a0_1 true _ A2.out).mono ?_
   rintro e w7 ⟨rfl,hb⟩
   refine ⟨_,rfl,?_⟩
   have n0_ := aZ_ (blk_below (g := gb101) (o := .cells #[.int .i64 a0_0,.int .i64 a0_1] 25 (0,0)) T2_ hb)
   have n1_ := aZ_ (below_step T5_ hb)
   clear BK101
   clear HB
   have BK101 := n0_
   have HB := n1_
   clear n0_ n1_
   (try clear hb)
   (try clear hb2)
   (try clear hk)
   (try clear hi)
   refine hK.out _ _ ⟨(blk_cell BK101.out 0).trans rfl,(blk_cell BK101.out 1).trans rfl⟩ (fun hHeld => ?_)
   clear hK K
   refine norm_ (a' := ?_) ?_ ?_
   rotate_left
   ·show Act.put _ (some 4) _ = _
    simp only [Act.put,List.setIfInBounds_toArray,List.set_cons_zero,List.set_cons_succ,i64_w,i32_w]
    rfl
   refine pZ_ 2 (some 5) #[true,true,true,false,false,false,false,false,false,false,false,false,false,false,false,false] ?_
   refine pZ_ 3 (some 6) #[true,true,true,true,false,false,false,false,false,false,false,false,false,false,false,false] ?_
   refine tZ2_ 4 (some 7) #[true,true,true,true,true,false,false,false,false,false,false,false,false,false,false,false] hHeld ?_
   refine pZ_ 5 (some 8) #[true,true,true,true,true,true,false,false,false,false,false,false,false,false,false,false] ?_
   refine pZ_ 6 (some 9) #[true,true,true,true,true,true,true,false,false,false,false,false,false,false,false,false] ?_
   refine oZ_ 7 (some 10) #[true,true,true,true,true,true,true,true,false,false,false,false,false,false,false,false] ?_
   refine oZ_ 8 (some 11) #[true,true,true,true,true,true,true,true,true,false,false,false,false,false,false,false] ?_
   refine oZ_ 9 (some 12) #[true,true,true,true,true,true,true,true,true,true,false,false,false,false,false,false] ?_
   refine oZ_ 10 (some 13) #[true,true,true,true,true,true,true,true,true,true,true,false,false,false,false,false] ?_
   refine oZ_ 11 (some 14) #[true,true,true,true,true,true,true,true,true,true,true,true,false,false,false,false] ?_
   refine oZ_ 12 (some 15) #[true,true,true,true,true,true,true,true,true,true,true,true,true,false,false,false] ?_
   refine pZ_ 13 (some 16) #[true,true,true,true,true,true,true,true,true,true,true,true,true,true,false,false] ?_
   refine pZ_ 14 (some 17) #[true,true,true,true,true,true,true,true,true,true,true,true,true,true,true,false] ?_
   refine pZ_ 15 (some 2) #[true,true,true,true,true,true,true,true,true,true,true,true,true,true,true,true] ?_
   refine done_ (done_of HT_.out T17_) ?_
   try go_wp2
   go_ret
   exact ⟨by first | rfl | (simp [errW_none,errW_some] <;> rfl) | (simp [*,errW_none,errW_some] <;> rfl),by repeat (first | (with_reducible first | exact HB.out | apply below_alloc | apply pw_below_drewN | apply below_drew1 | refine below_set ?_ GE101.out) | exact HB.out)⟩
  ·rw [if_neg c4] at H
   have c4b0 : (a0_1 == 0) = false := beq_eq_false_iff_ne.mpr c4
   have c4b1 : (a0_1 != 0) = true := bne_iff_ne.mpr c4
   replace H := Option.bind_eq_some_iff.mp H
   obtain ⟨t103,A80,H⟩ := H
   replace H : (some (a0_1 == t103)) = some r := H
   have A8 := aZ_ A80
   clear A80
   obtain rfl := Option.some.inj H
   go_enter Try.func33,Try.ntmps33
   try go_wp2_with (first | ((with_reducible refine gate_dst (N := 1) rfl ?_);refine box_event ?hg (N := 1) ?hd (cs := #[.int .i64 a0_0,.int .i64 a0_1]) (t := 25) ?hr ?_;(case hd => rfl);(case hg => rfl);(case hr => first | (go_simp;done) | (go_simp;rfl));intro gb101 hg w9 hbox hb;have n0_ := aZ_ (below_step T6_ hb);have n1_ := aZ_ (hbox);have n2_ := aZ_ ((T1_ : w.heap.size ≤ gb101));have n3_ := aZ_ ((T1_ : w.heap.size ≤ gb101));clear HB;have HB := n0_;have BK101 := n1_;have GW101 := n2_;have GE101 := n3_;clear n0_ n1_ n2_ n3_;clear hb hbox hg))
   have n0_ := aZ_ (blk_drew BK101.out)
   have n1_ := aZ_ (below_drew1 HB.out)
   clear BK101
   clear HB
   have BK101 := n0_
   have HB := n1_
   clear n0_ n1_
   refine start_ (n := 16) (S := fun w' => w'.cell? ⟨gb101,0,none⟩ = some (.int .i64 a0_0) ∧ w'.cell? ⟨gb101,1,none⟩ = some (.int .i64 a0_1)) (ds := []) #[false,false,false,false,false,false,false,false,false,false,false,false,false,false,false,false] T17_ rfl rfl ⟨(blk_cell BK101.out 0).trans rfl,(blk_cell BK101.out 1).trans rfl⟩ (fun hHeld => ?_);refine with_tabW spec_IsConstant.tab1 spec_IsConstant.bits1 (fun HT_ HW_ => ?_)
   generalize w9.drew = w10 at BK101 HB hHeld ⊢
   refine tZ2_ 0 (some 3) #[true,false,false,false,false,false,false,false,false,false,false,false,false,false,false,false] hHeld ?_
   refine one_ (i := 1) (N := some 4) #[true,true,false,false,false,false,false,false,false,false,false,false,false,false,false,false] rfl rfl (one_of HT_.out T17_) T58_ (fun K hK => ?_)
   refine gZ_ Try.func18 #[.agg #[.int .i64 a0_0,.int .i64 a0_1]] ?_
   with_reducible refine (spec_IsTable.calls a0_0 a0_1 true _ A2.out).mono ?_
   rintro e w11 ⟨rfl,hb⟩
   refine ⟨_,rfl,?_⟩
   have n0_ := aZ_ (blk_below (g := gb101) (o := .cells #[.int .i64 a0_0,.int .i64 a0_1] 25 (0,0)) T2_ hb)
   have n1_ := aZ_ (below_step T5_ hb)
   clear BK101
   clear HB
   have BK101 := n0_
   have HB := n1_
   clear n0_ n1_
   (try clear hb)
   (try clear hb2)
   (try clear hk)
   (try clear hi)
   refine hK.out _ _ ⟨(blk_cell BK101.out 0).trans rfl,(blk_cell BK101.out 1).trans rfl⟩ (fun hHeld => ?_)
   clear hK K
   refine norm_ (a' := ?_) ?_ ?_
   rotate_left
   ·show Act.put _ (some 4) _ = _
    simp only [Act.put,List.setIfInBounds_toArray,List.set_cons_zero,List.set_cons_succ,i64_w,i32_w]
    rfl
   refine pZ_ 2 (some 5) #[true,true,true,false,false,false,false,false,false,false,false,false,false,false,false,false] ?_
   refine pZ_ 3 (some 6) #[true,true,true,true,false,false,false,false,false,false,false,false,false,false,false,false] ?_
   refine tZ2_ 4 (some 7) #[true,true,true,true,true,false,false,false,false,false,false,false,false,false,false,false] hHeld ?_
   refine pZ_ 5 (some 8) #[true,true,true,true,true,true,false,false,false,false,false,false,false,false,false,false] ?_
   refine pZ_ 6 (some 9) #[true,true,true,true,true,true,true,false,false,false,false,false,false,false,false,false] ?_
   refine pZ_ 7 (some 10) #[true,true,true,true,true,true,true,true,false,false,false,false,false,false,false,false] ?_
   refine pZ_ 9 (some 12) #[true,true,true,true,true,true,true,true,false,true,false,false,false,false,false,false] ?_
   refine tZ2_ 8 (some 11) #[true,true,true,true,true,true,true,true,true,true,false,false,false,false,false,false] hHeld ?_
   refine tZ2_ 10 (some 13) #[true,true,true,true,true,true,true,true,true,true,true,false,false,false,false,false] hHeld ?_
   refine one_ (i := 11) (N := some 14) #[true,true,true,true,true,true,true,true,true,true,true,true,false,false,false,false] rfl rfl (one_of HT_.out T17_) T58_ (fun K hK => ?_)
   refine gZ_ Try.func52 #[.int .i64 a0_0] ?_
   with_reducible refine (spec_l2Full.calls a0_0 t103 _ A8.out).mono ?_
   rintro e w' ⟨rfl,⟨nd,rfl⟩⟩
   refine ⟨_,rfl,?_⟩
   refine hK.out _ _ ⟨(blk_cell BK101.out 0).trans rfl,(blk_cell BK101.out 1).trans rfl⟩ (fun hHeld => ?_)
   clear hK K
   refine norm_ (a' := ?_) ?_ ?_
   rotate_left
   ·show Act.put _ (some 14) _ = _
    simp only [Act.put,List.setIfInBounds_toArray,List.set_cons_zero,List.set_cons_succ,i64_w,i32_w]
    rfl
   refine pZ_ 12 (some 15) #[true,true,true,true,true,true,true,true,true,true,true,true,true,false,false,false] ?_
   refine pZ_ 13 (some 16) #[true,true,true,true,true,true,true,true,true,true,true,true,true,true,false,false] ?_
   refine pZ_ 14 (some 17) #[true,true,true,true,true,true,true,true,true,true,true,true,true,true,true,false] ?_
   refine pZ_ 15 (some 2) #[true,true,true,true,true,true,true,true,true,true,true,true,true,true,true,true] ?_
   refine done_ (done_of HT_.out T17_) ?_
   try go_wp2
   go_ret
   exact ⟨by first | rfl | (simp [errW_none,errW_some] <;> rfl) | (simp [*,errW_none,errW_some] <;> rfl),by repeat (first | (with_reducible first | exact HB.out | apply below_alloc | apply pw_below_drewN | apply below_drew1 | refine below_set ?_ GE101.out) | exact HB.out)⟩
 ·replace c3 := Bool.eq_false_iff.mpr c3
  subst c3
  have H1 : (some false) = some r := by rw [if_neg (show ¬ (false = true) by decide)] at H;exact H
  clear H
  have H := H1
  clear H1
  obtain rfl := Option.some.inj H
  go_enter Try.func33,Try.ntmps33
  try go_wp2_with (first | ((with_reducible refine gate_dst (N := 1) rfl ?_);refine box_event ?hg (N := 1) ?hd (cs := #[.int .i64 a0_0,.int .i64 a0_1]) (t := 25) ?hr ?_;(case hd => rfl);(case hg => rfl);(case hr => first | (go_simp;done) | (go_simp;rfl));intro gb101 hg w12 hbox hb;have n0_ := aZ_ (below_step T6_ hb);have n1_ := aZ_ (hbox);have n2_ := aZ_ ((T1_ : w.heap.size ≤ gb101));have n3_ := aZ_ ((T1_ : w.heap.size ≤ gb101));clear HB;have HB := n0_;have BK101 := n1_;have GW101 := n2_;have GE101 := n3_;clear n0_ n1_ n2_ n3_;clear hb hbox hg))
  have n0_ := aZ_ (blk_drew BK101.out)
  have n1_ := aZ_ (below_drew1 HB.out)
  clear BK101
  clear HB
  have BK101 := n0_
  have HB := n1_
  clear n0_ n1_
  refine start_ (n := 16) (S := fun w' => w'.cell? ⟨gb101,0,none⟩ = some (.int .i64 a0_0) ∧ w'.cell? ⟨gb101,1,none⟩ = some (.int .i64 a0_1)) (ds := []) #[false,false,false,false,false,false,false,false,false,false,false,false,false,false,false,false] T17_ rfl rfl ⟨(blk_cell BK101.out 0).trans rfl,(blk_cell BK101.out 1).trans rfl⟩ (fun hHeld => ?_);refine with_tabW spec_IsConstant.tab1 spec_IsConstant.bits1 (fun HT_ HW_ => ?_)
  generalize w12.drew = w13 at BK101 HB hHeld ⊢
  refine tZ2_ 0 (some 3) #[true,false,false,false,false,false,false,false,false,false,false,false,false,false,false,false] hHeld ?_
  refine one_ (i := 1) (N := some 4) #[true,true,false,false,false,false,false,false,false,false,false,false,false,false,false,false] rfl rfl (one_of HT_.out T17_) T58_ (fun K hK => ?_)
  refine gZ_ Try.func18 #[.agg #[.int .i64 a0_0,.int .i64 a0_1]] ?_
  with_reducible refine (spec_IsTable.calls a0_0 a0_1 false _ A2.out).mono ?_
  rintro e w14 ⟨rfl,hb⟩
  refine ⟨_,rfl,?_⟩
  have n0_ := aZ_ (blk_below (g := gb101) (o := .cells #[.int .i64 a0_0,.int .i64 a0_1] 25 (0,0)) T2_ hb)
  have n1_ := aZ_ (below_step T5_ hb)
  clear BK101
  clear HB
  have BK101 := n0_
  have HB := n1_
  clear n0_ n1_
  (try clear hb)
  (try clear hb2)
  (try clear hk)
  (try clear hi)
  refine hK.out _ _ ⟨(blk_cell BK101.out 0).trans rfl,(blk_cell BK101.out 1).trans rfl⟩ (fun hHeld => ?_)
  clear hK K
  refine norm_ (a' := ?_) ?_ ?_
  rotate_left
  ·show Act.put _ (some 4) _ = _
   simp only [Act.put,List.setIfInBounds_toArray,List.set_cons_zero,List.set_cons_succ,i64_w,i32_w]
   rfl
  refine pZ_ 2 (some 5) #[true,true,true,false,false,false,false,false,false,false,false,false,false,false,false,false] ?_
  refine oZ_ 3 (some 6) #[true,true,true,true,false,false,false,false,false,false,false,false,false,false,false,false] ?_
  refine oZ_ 4 (some 7) #[true,true,true,true,true,false,false,false,false,false,false,false,false,false,false,false] ?_
  refine oZ_ 5 (some 8) #[true,true,true,true,true,true,false,false,false,false,false,false,false,false,false,false] ?_
  refine oZ_ 6 (some 9) #[true,true,true,true,true,true,true,false,false,false,false,false,false,false,false,false] ?_
  refine oZ_ 7 (some 10) #[true,true,true,true,true,true,true,true,false,false,false,false,false,false,false,false] ?_
  refine oZ_ 8 (some 11) #[true,true,true,true,true,true,true,true,true,false,false,false,false,false,false,false] ?_
  refine oZ_ 9 (some 12) #[true,true,true,true,true,true,true,true,true,true,false,false,false,false,false,false] ?_
  refine oZ_ 10 (some 13) #[true,true,true,true,true,true,true,true,true,true,true,false,false,false,false,false] ?_
  refine oZ_ 11 (some 14) #[true,true,true,true,true,true,true,true,true,true,true,true,false,false,false,false] ?_
  refine oZ_ 12 (some 15) #[true,true,true,true,true,true,true,true,true,true,true,true,true,false,false,false] ?_
  refine oZ_ 13 (some 16) #[true,true,true,true,true,true,true,true,true,true,true,true,true,true,false,false] ?_
  refine pZ_ 14 (some 17) #[true,true,true,true,true,true,true,true,true,true,true,true,true,true,true,false] ?_
  refine pZ_ 15 (some 2) #[true,true,true,true,true,true,true,true,true,true,true,true,true,true,true,true] ?_
  refine done_ (done_of HT_.out T17_) ?_
  try go_wp2
  go_ret
  exact ⟨by first | rfl | (simp [errW_none,errW_some] <;> rfl) | (simp [*,errW_none,errW_some] <;> rfl),by repeat (first | (with_reducible first | exact HB.out | apply below_alloc | apply pw_below_drewN | apply below_drew1 | refine below_set ?_ GE101.out) | exact HB.out)⟩
def spec_DistanceBetween.f (k : Nat) (a0_0 : Int) (a0_1 : Int) (a1_0 : Int) (a1_1 : Int) : Option (Int) := (spec_l2Fit.f a0_0 a0_1 a1_0 a1_1).bind fun t103 => (if t103 = true then ((spec_l2Count.f k (Go.bits .xor .i64 a0_1 a1_1)).bind fun t104 => (some t104)) else (some (-1)))
set_option maxHeartbeats 8000000 in
set_option maxRecDepth 100000 in
theorem spec_DistanceBetween.calls (k : Nat) (a0_0 : Int) (a0_1 : Int) (a1_0 : Int) (a1_1 : Int) (r : Int) (w : World) (h : spec_DistanceBetween.f k a0_0 a0_1 a1_0 a1_1 = some r) :
  Calls Try.prog 34 #[.agg #[.int .i64 a0_0,.int .i64 a0_1],.agg #[.int .i64 a1_0,.int .i64 a1_1]] w fun e w' => e = .returned (.int .i64 r) ∧ Below w.heap.size w w' := by
 have hu25 := Try.underlying25
 have HB := aZ_ (Below.refl w.heap.size w)
 have H : ((spec_l2Fit.f a0_0 a0_1 a1_0 a1_1).bind fun t103 => (if t103 = true then ((spec_l2Count.f k (Go.bits .xor .i64 a0_1 a1_1)).bind fun t104 => (some t104)) else (some (-1)))) = some r := h
 clear h
 replace H := Option.bind_eq_some_iff.mp H
 obtain ⟨t103,A30,H⟩ := H
 replace H : (if t103 = true then ((spec_l2Count.f k (Go.bits .xor .i64 a0_1 a1_1)).bind fun t104 => (some t104)) else (some (-1))) = some r := H
 have A3 := aZ_ A30
 clear A30
 by_cases c4 : t103 = true
 ·subst c4
  have H1 : ((spec_l2Count.f k (Go.bits .xor .i64 a0_1 a1_1)).bind fun t104 => (some t104)) = some r := by rw [if_pos rfl] at H;exact H
  clear H
  have H := H1
  clear H1
  replace H := Option.bind_eq_some_iff.mp H
  obtain ⟨t104,A50,H⟩ := H
  replace H : (some t104) = some r := H
  have A5 := aZ_ A50
  clear A50
  obtain rfl := Option.some.inj H
  go_enter Try.func34,Try.ntmps34
  go_wp2_with (first | ((with_reducible refine gate_dst (N := 2) rfl ?_);refine box_event ?hg (N := 2) ?hd (cs := #[.int .i64 a0_0,.int .i64 a0_1]) (t := 25) ?hr ?_;(case hd => rfl);(case hg => rfl);(case hr => first | (go_simp;done) | (go_simp;rfl));intro gb101 hg w6 hbox hb;have n0_ := aZ_ (below_step T6_ hb);have n1_ := aZ_ (hbox);have n2_ := aZ_ ((T1_ : w.heap.size ≤ gb101));have n3_ := aZ_ ((T1_ : w.heap.size ≤ gb101));clear HB;have HB := n0_;have BK101 := n1_;have GW101 := n2_;have GE101 := n3_;clear n0_ n1_ n2_ n3_;clear hb hbox hg) | ((with_reducible refine gate_dst (N := 3) rfl ?_);refine box_event ?hg (N := 3) ?hd (cs := #[.int .i64 a1_0,.int .i64 a1_1]) (t := 25) ?hr ?_;(case hd => rfl);(case hg => rfl);(case hr => first | (go_simp;done) | (go_simp;rfl));intro gb102 hg w7 hbox hb;have n0_ := aZ_ (blk_below (g := gb101) (o := .cells #[.int .i64 a0_0,.int .i64 a0_1] 25 (0,0)) T2_ hb);have n1_ := aZ_ (below_step T5_ hb);have n2_ := aZ_ (hbox);have n3_ := aZ_ ((T4_ : w.heap.size ≤ gb102));have n4_ := aZ_ ((T4_ : w.heap.size ≤ gb102));have n5_ := aZ_ ((T7_ : gb101 ≠ gb102));have n6_ := aZ_ ((T8_ : gb102 ≠ gb101));clear BK101;clear HB;have BK101 := n0_;have HB := n1_;have BK102 := n2_;have GW102 := n3_;have GE102 := n4_;have NB101_102 := n5_;have NB102_101 := n6_;clear n0_ n1_ n2_ n3_ n4_ n5_ n6_;clear hb hbox hg;have hnb8 := NB101_102.out;have hnc8 := NB102_101.out;have hcz9_0 : w7.cell? ⟨gb101,0,none⟩ = some (.int .i64 a0_0) := (blk_cell BK101.out 0).trans rfl;have hcz9_1 : w7.cell? ⟨gb101,1,none⟩ = some (.int .i64 a0_1) := (blk_cell BK101.out 1).trans rfl;have hfz9_0 := blk_frozen BK101.out 0;have hfz9_1 := blk_frozen BK101.out 1;have hcz10_0 : w7.cell? ⟨gb102,0,none⟩ = some (.int .i64 a1_0) := (blk_cell BK102.out 0).trans rfl;have hcz10_1 : w7.cell? ⟨gb102,1,none⟩ = some (.int .i64 a1_1) := (blk_cell BK102.out 1).trans rfl;have hfz10_0 := blk_frozen BK102.out 0;have hfz10_1 := blk_frozen BK102.out 1) | ((with_reducible refine gate_callee (f := 38) rfl ?_);refine goesL_ (some 7) rfl rfl Try.func38 T17_ rfl #[.agg #[.int .i64 a0_0,.int .i64 a0_1],.agg #[.int .i64 a1_0,.int .i64 a1_1]] rfl T3_ ?_;(with_reducible refine (spec_l2Fit.calls a0_0 a0_1 a1_0 a1_1 true _ A3.out).mono ?_);rintro e w11 ⟨rfl,hb⟩;refine ⟨_,rfl,?_⟩;have n0_ := aZ_ (blk_below (g := gb101) (o := .cells #[.int .i64 a0_0,.int .i64 a0_1] 25 (0,0)) T2_ hb);have n1_ := aZ_ (blk_below (g := gb102) (o := .cells #[.int .i64 a1_0,.int .i64 a1_1] 25 (0,0)) T11_ hb);have n2_ := aZ_ (below_step T9_ hb);clear BK101;clear BK102;clear HB;have BK101 := n0_;have BK102 := n1_;have HB := n2_;clear n0_ n1_ n2_;(try clear hb);(try clear hb2);(try clear hk);(try clear hi);have hcz12_0 : w11.cell? ⟨gb101,0,none⟩ = some (.int .i64 a0_0) := (blk_cell BK101.out 0).trans rfl;have hcz12_1 : w11.cell? ⟨gb101,1,none⟩ = some (.int .i64 a0_1) := (blk_cell BK101.out 1).trans rfl;have hfz12_0 := blk_frozen BK101.out 0;have hfz12_1 := blk_frozen BK101.out 1;have hcz13_0 : w11.cell? ⟨gb102,0,none⟩ = some (.int .i64 a1_0) := (blk_cell BK102.out 0).trans rfl;have hcz13_1 : w11.cell? ⟨gb102,1,none⟩ = some (.int .i64 a1_1) := (blk_cell BK102.out 1).trans rfl;have hfz13_0 := blk_frozen BK102.out 0;have hfz13_1 := blk_frozen BK102.out 1) | ((with_reducible refine gate_callee (f := 57) rfl ?_);refine goesL_ (some 14) rfl rfl Try.func57 T17_ rfl #[.int .i64 (Go.bits .xor .i64 a0_1 a1_1)] rfl T3_ ?_;(with_reducible refine (spec_l2Count.calls k (Go.bits .xor .i64 a0_1 a1_1) t104 _ A5.out).mono ?_);rintro e w' ⟨rfl,⟨nd,rfl⟩⟩;refine ⟨_,rfl,?_⟩))
  go_ret
  exact ⟨by first | rfl | (simp [errW_none,errW_some] <;> rfl) | (simp [*,errW_none,errW_some] <;> rfl),by repeat (first | (with_reducible first | exact HB.out | apply below_alloc | apply pw_below_drewN | apply below_drew1 | refine below_set ?_ GE101.out | refine below_set ?_ GE102.out) | exact HB.out)⟩
 ·replace c4 := Bool.eq_false_iff.mpr c4
  subst c4
  have H1 : (some (-1)) = some r := by rw [if_neg (show ¬ (false = true) by decide)] at H;exact H
  clear H
  have H := H1
  clear H1
  obtain rfl := Option.some.inj H
  go_enter Try.func34,Try.ntmps34
  go_wp2_with (first | ((with_reducible refine gate_dst (N := 2) rfl ?_);refine box_event ?hg (N := 2) ?hd (cs := #[.int .i64 a0_0,.int .i64 a0_1]) (t := 25) ?hr ?_;(case hd => rfl);(case hg => rfl);(case hr => first | (go_simp;done) | (go_simp;rfl));intro gb101 hg w14 hbox hb;have n0_ := aZ_ (below_step T6_ hb);have n1_ := aZ_ (hbox);have n2_ := aZ_ ((T1_ : w.heap.size ≤ gb101));have n3_ := aZ_ ((T1_ : w.heap.size ≤ gb101));clear HB;have HB := n0_;have BK101 := n1_;have GW101 := n2_;have GE101 := n3_;clear n0_ n1_ n2_ n3_;clear hb hbox hg) | ((with_reducible refine gate_dst (N := 3) rfl ?_);refine box_event ?hg (N := 3) ?hd (cs := #[.int .i64 a1_0,.int .i64 a1_1]) (t := 25) ?hr ?_;(case hd => rfl);(case hg => rfl);(case hr => first | (go_simp;done) | (go_simp;rfl));intro gb102 hg w15 hbox hb;have n0_ := aZ_ (blk_below (g := gb101) (o := .cells #[.int .i64 a0_0,.int .i64 a0_1] 25 (0,0)) T2_ hb);have n1_ := aZ_ (below_step T5_ hb);have n2_ := aZ_ (hbox);have n3_ := aZ_ ((T4_ : w.heap.size ≤ gb102));have n4_ := aZ_ ((T4_ : w.heap.size ≤ gb102));have n5_ := aZ_ ((T7_ : gb101 ≠ gb102));have n6_ := aZ_ ((T8_ : gb102 ≠ gb101));clear BK101;clear HB;have BK101 := n0_;have HB := n1_;have BK102 := n2_;have GW102 := n3_;have GE102 := n4_;have NB101_102 := n5_;have NB102_101 := n6_;clear n0_ n1_ n2_ n3_ n4_ n5_ n6_;clear hb hbox hg;have hnb16 := NB101_102.out;have hnc16 := NB102_101.out;have hcz17_0 : w15.cell? ⟨gb101,0,none⟩ = some (.int .i64 a0_0) := (blk_cell BK101.out 0).trans rfl;have hcz17_1 : w15.cell? ⟨gb101,1,none⟩ = some (.int .i64 a0_1) := (blk_cell BK101.out 1).trans rfl;have hfz17_0 := blk_frozen BK101.out 0;have hfz17_1 := blk_frozen BK101.out 1;have hcz18_0 : w15.cell? ⟨gb102,0,none⟩ = some (.int .i64 a1_0) := (blk_cell BK102.out 0).trans rfl;have hcz18_1 : w15.cell? ⟨gb102,1,none⟩ = some (.int .i64 a1_1) := (blk_cell BK102.out 1).trans rfl;have hfz18_0 := blk_frozen BK102.out 0;have hfz18_1 := blk_frozen BK102.out 1) | ((with_reducible refine gate_callee (f := 38) rfl ?_);refine goesL_ (some 7) rfl rfl Try.func38 T17_ rfl #[.agg #[.int .i64 a0_0,.int .i64 a0_1],.agg #[.int .i64 a1_0,.int .i64 a1_1]] rfl T3_ ?_;(with_reducible refine (spec_l2Fit.calls a0_0 a0_1 a1_0 a1_1 false _ A3.out).mono ?_);rintro e w19 ⟨rfl,hb⟩;refine ⟨_,rfl,?_⟩;have n0_ := aZ_ (blk_below (g := gb101) (o := .cells #[.int .i64 a0_0,.int .i64 a0_1] 25 (0,0)) T2_ hb);have n1_ := aZ_ (blk_below (g := gb102) (o := .cells #[.int .i64 a1_0,.int .i64 a1_1] 25 (0,0)) T11_ hb);have n2_ := aZ_ (below_step T9_ hb);clear BK101;clear BK102;clear HB;have BK101 := n0_;have BK102 := n1_;have HB := n2_;clear n0_ n1_ n2_;(try clear hb);(try clear hb2);(try clear hk);(try clear hi)))
  go_ret
  exact ⟨by first | rfl | (simp [errW_none,errW_some] <;> rfl) | (simp [*,errW_none,errW_some] <;> rfl),by repeat (first | (with_reducible first | exact HB.out | apply below_alloc | apply pw_below_drewN | apply below_drew1 | refine below_set ?_ GE101.out | refine below_set ?_ GE102.out) | exact HB.out)⟩
def spec_CountOnes.f (k : Nat) (a0_0 : Int) (a0_1 : Int) : Option (Int) := (spec_IsTable.f a0_0 a0_1).bind fun t102 => (if t102 = true then ((spec_l2Count.f k a0_1).bind fun t103 => (some t103)) else (some (-1)))
set_option maxHeartbeats 8000000 in
set_option maxRecDepth 100000 in
theorem spec_CountOnes.calls (k : Nat) (a0_0 : Int) (a0_1 : Int) (r : Int) (w : World) (h : spec_CountOnes.f k a0_0 a0_1 = some r) :
  Calls Try.prog 35 #[.agg #[.int .i64 a0_0,.int .i64 a0_1]] w fun e w' => e = .returned (.int .i64 r) ∧ Below w.heap.size w w' := by
 have hu25 := Try.underlying25
 have HB := aZ_ (Below.refl w.heap.size w)
 have H : ((spec_IsTable.f a0_0 a0_1).bind fun t102 => (if t102 = true then ((spec_l2Count.f k a0_1).bind fun t103 => (some t103)) else (some (-1)))) = some r := h
 clear h
 replace H := Option.bind_eq_some_iff.mp H
 obtain ⟨t102,A20,H⟩ := H
 replace H : (if t102 = true then ((spec_l2Count.f k a0_1).bind fun t103 => (some t103)) else (some (-1))) = some r := H
 have A2 := aZ_ A20
 clear A20
 by_cases c3 : t102 = true
 ·subst c3
  have H1 : ((spec_l2Count.f k a0_1).bind fun t103 => (some t103)) = some r := by rw [if_pos rfl] at H;exact H
  clear H
  have H := H1
  clear H1
  replace H := Option.bind_eq_some_iff.mp H
  obtain ⟨t103,A40,H⟩ := H
  replace H : (some t103) = some r := H
  have A4 := aZ_ A40
  clear A40
  obtain rfl := Option.some.inj H
  go_enter Try.func35,Try.ntmps35
  go_wp2_with (first | ((with_reducible refine gate_dst (N := 1) rfl ?_);refine box_event ?hg (N := 1) ?hd (cs := #[.int .i64 a0_0,.int .i64 a0_1]) (t := 25) ?hr ?_;(case hd => rfl);(case hg => rfl);(case hr => first | (go_simp;done) | (go_simp;rfl));intro gb101 hg w5 hbox hb;have n0_ := aZ_ (below_step T6_ hb);have n1_ := aZ_ (hbox);have n2_ := aZ_ ((T1_ : w.heap.size ≤ gb101));have n3_ := aZ_ ((T1_ : w.heap.size ≤ gb101));clear HB;have HB := n0_;have BK101 := n1_;have GW101 := n2_;have GE101 := n3_;clear n0_ n1_ n2_ n3_;clear hb hbox hg;have hcz6_0 : w5.cell? ⟨gb101,0,none⟩ = some (.int .i64 a0_0) := (blk_cell BK101.out 0).trans rfl;have hcz6_1 : w5.cell? ⟨gb101,1,none⟩ = some (.int .i64 a0_1) := (blk_cell BK101.out 1).trans rfl;have hfz6_0 := blk_frozen BK101.out 0;have hfz6_1 := blk_frozen BK101.out 1) | ((with_reducible refine gate_callee (f := 18) rfl ?_);refine goesL_ (some 4) rfl rfl Try.func18 T17_ rfl #[.agg #[.int .i64 a0_0,.int .i64 a0_1]] rfl T3_ ?_;(with_reducible refine (spec_IsTable.calls a0_0 a0_1 true _ A2.out).mono ?_);rintro e w7 ⟨rfl,hb⟩;refine ⟨_,rfl,?_⟩;have n0_ := aZ_ (blk_below (g := gb101) (o := .cells #[.int .i64 a0_0,.int .i64 a0_1] 25 (0,0)) T2_ hb);have n1_ := aZ_ (below_step T5_ hb);clear BK101;clear HB;have BK101 := n0_;have HB := n1_;clear n0_ n1_;(try clear hb);(try clear hb2);(try clear hk);(try clear hi);have hcz8_0 : w7.cell? ⟨gb101,0,none⟩ = some (.int .i64 a0_0) := (blk_cell BK101.out 0).trans rfl;have hcz8_1 : w7.cell? ⟨gb101,1,none⟩ = some (.int .i64 a0_1) := (blk_cell BK101.out 1).trans rfl;have hfz8_0 := blk_frozen BK101.out 0;have hfz8_1 := blk_frozen BK101.out 1) | ((with_reducible refine gate_callee (f := 57) rfl ?_);refine goesL_ (some 8) rfl rfl Try.func57 T17_ rfl #[.int .i64 a0_1] rfl T3_ ?_;(with_reducible refine (spec_l2Count.calls k a0_1 t103 _ A4.out).mono ?_);rintro e w' ⟨rfl,⟨nd,rfl⟩⟩;refine ⟨_,rfl,?_⟩))
  go_ret
  exact ⟨by first | rfl | (simp [errW_none,errW_some] <;> rfl) | (simp [*,errW_none,errW_some] <;> rfl),by repeat (first | (with_reducible first | exact HB.out | apply below_alloc | apply pw_below_drewN | apply below_drew1 | refine below_set ?_ GE101.out) | exact HB.out)⟩
 ·replace c3 := Bool.eq_false_iff.mpr c3
  subst c3
  have H1 : (some (-1)) = some r := by rw [if_neg (show ¬ (false = true) by decide)] at H;exact H
  clear H
  have H := H1
  clear H1
  obtain rfl := Option.some.inj H
  go_enter Try.func35,Try.ntmps35
  go_wp2_with (first | ((with_reducible refine gate_dst (N := 1) rfl ?_);refine box_event ?hg (N := 1) ?hd (cs := #[.int .i64 a0_0,.int .i64 a0_1]) (t := 25) ?hr ?_;(case hd => rfl);(case hg => rfl);(case hr => first | (go_simp;done) | (go_simp;rfl));intro gb101 hg w9 hbox hb;have n0_ := aZ_ (below_step T6_ hb);have n1_ := aZ_ (hbox);have n2_ := aZ_ ((T1_ : w.heap.size ≤ gb101));have n3_ := aZ_ ((T1_ : w.heap.size ≤ gb101));clear HB;have HB := n0_;have BK101 := n1_;have GW101 := n2_;have GE101 := n3_;clear n0_ n1_ n2_ n3_;clear hb hbox hg;have hcz10_0 : w9.cell? ⟨gb101,0,none⟩ = some (.int .i64 a0_0) := (blk_cell BK101.out 0).trans rfl;have hcz10_1 : w9.cell? ⟨gb101,1,none⟩ = some (.int .i64 a0_1) := (blk_cell BK101.out 1).trans rfl;have hfz10_0 := blk_frozen BK101.out 0;have hfz10_1 := blk_frozen BK101.out 1) | ((with_reducible refine gate_callee (f := 18) rfl ?_);refine goesL_ (some 4) rfl rfl Try.func18 T17_ rfl #[.agg #[.int .i64 a0_0,.int .i64 a0_1]] rfl T3_ ?_;(with_reducible refine (spec_IsTable.calls a0_0 a0_1 false _ A2.out).mono ?_);rintro e w11 ⟨rfl,hb⟩;refine ⟨_,rfl,?_⟩;have n0_ := aZ_ (blk_below (g := gb101) (o := .cells #[.int .i64 a0_0,.int .i64 a0_1] 25 (0,0)) T2_ hb);have n1_ := aZ_ (below_step T5_ hb);clear BK101;clear HB;have BK101 := n0_;have HB := n1_;clear n0_ n1_;(try clear hb);(try clear hb2);(try clear hk);(try clear hi)))
  go_ret
  exact ⟨by first | rfl | (simp [errW_none,errW_some] <;> rfl) | (simp [*,errW_none,errW_some] <;> rfl),by repeat (first | (with_reducible first | exact HB.out | apply below_alloc | apply pw_below_drewN | apply below_drew1 | refine below_set ?_ GE101.out) | exact HB.out)⟩
end Go.Proofs.Ytgojehaneegaeaa.F
