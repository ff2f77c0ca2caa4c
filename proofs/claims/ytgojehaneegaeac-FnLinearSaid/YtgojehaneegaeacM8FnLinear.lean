/- Walks of Go functions and lemmas on what they compute, for the row of FnLinear (a part of several): each call ends as the Lean function of its name tells; the conditions are those of each theorem. -/
import Derived.Test.YtgojehaneegaeacM1FnLinear
import Derived.Test.YtgojehaneegaeacM2FnLinear
import Derived.Test.YtgojehaneegaeacM3FnLinear
import Derived.Test.YtgojehaneegaeacM4FnLinear
import Derived.Test.YtgojehaneegaeacM5FnLinear
import Derived.Test.YtgojehaneegaeacM7FnLinear
namespace Go.Proofs.Ytgojehaneegaeac.F
open Go.RowKit Go.Proofs.YtgojehaneegaeacW.PrintWords Go.Proofs.YtgojehaneegaeacW.PrintLast Go.Proofs.YtgojehaneegaeacW.PrintMore
attribute [local go_sem] max2_int min2_int max_two min_two max_three min_three max_four min_four 
set_option linter.unusedVariables false
set_option linter.unusedSimpArgs false
mutual
def spec_NearestAffine.l0 : Nat → Int → Int → Int → Int → Int → Int → Option (Int × Int × Int × Bool)
 | 0,_,_,_,_,_,_ => none
 | k + 1,x6,x7,x8,x9,x102000,x102001 => if 0 ≤ x102000 then (if x9 < (shl .i64 1 x102000) then (spec_NearestAffine.l1 k x6 x7 x8 x9 0 x102000 x102001) else (some (x6,x7,x8,true))) else (none)
def spec_NearestAffine.l1 : Nat → Int → Int → Int → Int → Int → Int → Int → Option (Int × Int × Int × Bool)
 | 0,_,_,_,_,_,_,_ => none
 | k + 1,x6,x7,x8,x9,x10,x102000,x102001 => if x10 < 2 then ((spec_l14Affine.f k x102000 x9 x10).bind fun t103 => ((spec_l2Count.f k (Go.bits .xor .i64 x102001 t103)).bind fun t104 => (if t104 < x8 then (spec_NearestAffine.l1 k x9 x10 t104 x9 (wrap64 (x10 + 1)) x102000 x102001) else (spec_NearestAffine.l1 k x6 x7 x8 x9 (wrap64 (x10 + 1)) x102000 x102001)))) else (spec_NearestAffine.l0 k x6 x7 x8 (wrap64 (x9 + 1)) x102000 x102001)
end
def spec_NearestAffine.f (k : Nat) (a0_0 : Int) (a0_1 : Int) : Option (Int × Int × Int × Bool) := (spec_IsTable.f a0_0 a0_1).bind fun t102 => (if t102 = true then (spec_NearestAffine.l0 k 0 0 100 0 a0_0 a0_1) else (some (0,0,0,false)))
def spec_NearestAffine.T12 : Bool × List (List Nat × List Nat) := (true,[([],[]),([0],[0]),([],[]),([2],[2]),([],[]),([],[]),([3,4,5],[3,4,5]),([1,6],[1,6]),([7,6],[7]),([8,8,0,1,2,3,4,5,6,7,8],[8])])
def spec_NearestAffine.B12 : List Nat := [0,1,0,4,0,0,60,127,255,511]
theorem spec_NearestAffine.tab12 : rtab .any (opsOf Try.f14 12) = spec_NearestAffine.T12 := by kernel_rfl
theorem spec_NearestAffine.bits12 : waitsOk spec_NearestAffine.T12.2 spec_NearestAffine.B12 = true := by kernel_rfl
set_option maxHeartbeats 8000000 in
set_option maxRecDepth 100000 in
theorem spec_NearestAffine.calls (k : Nat) (a0_0 : Int) (a0_1 : Int) (r1 : Int) (r2 : Int) (r3 : Int) (r4 : Bool) (w : World) (h : spec_NearestAffine.f k a0_0 a0_1 = some (r1,r2,r3,r4)) :
  Calls Try.prog 14 #[.agg #[.int .i64 a0_0,.int .i64 a0_1]] w fun e w' => e = .returned (.tuple #[.int .i64 r1,.int .i64 r2,.int .i64 r3,.bool r4]) ∧ Below w.heap.size w w' := by
 have hu25 := Try.underlying25
 have HB := aZ_ (Below.refl w.heap.size w)
 have H : ((spec_IsTable.f a0_0 a0_1).bind fun t102 => (if t102 = true then (spec_NearestAffine.l0 k 0 0 100 0 a0_0 a0_1) else (some (0,0,0,false)))) = some (r1,r2,r3,r4) := h
 clear h
 replace H := Option.bind_eq_some_iff.mp H
 obtain ⟨t102,A20,H⟩ := H
 replace H : (if t102 = true then (spec_NearestAffine.l0 k 0 0 100 0 a0_0 a0_1) else (some (0,0,0,false))) = some (r1,r2,r3,r4) := H
 have A2 := aZ_ A20
 clear A20
 by_cases c3 : t102 = true
 ·subst c3
  have H1 : (spec_NearestAffine.l0 k 0 0 100 0 a0_0 a0_1) = some (r1,r2,r3,r4) := by rw [if_pos rfl] at H;exact H
  clear H
  have H := H1
  clear H1
  have H' := aZ_ H
  clear H
  go_enter Try.func14,Try.ntmps14
  go_wp2_with (first | ((with_reducible refine gate_dst (N := 1) rfl ?_);refine box_event ?hg (N := 1) ?hd (cs := #[.int .i64 a0_0,.int .i64 a0_1]) (t := 25) ?hr ?_;(case hd => rfl);(case hg => rfl);(case hr => first | (go_simp;done) | (go_simp;rfl));intro gb101 hg w4 hbox hb;have n0_ := aZ_ (below_step T5_ hb);have n1_ := aZ_ (hbox);have n2_ := aZ_ ((T2_ : w.heap.size ≤ gb101));have n3_ := aZ_ ((T2_ : w.heap.size ≤ gb101));clear HB;have HB := n0_;have BK101 := n1_;have GW101 := n2_;have GE101 := n3_;clear n0_ n1_ n2_ n3_;clear hb hbox hg;have hcz5_0 : w4.cell? ⟨gb101,0,none⟩ = some (.int .i64 a0_0) := (blk_cell BK101.out 0).trans rfl;have hcz5_1 : w4.cell? ⟨gb101,1,none⟩ = some (.int .i64 a0_1) := (blk_cell BK101.out 1).trans rfl;have hfz5_0 := blk_frozen BK101.out 0;have hfz5_1 := blk_frozen BK101.out 1) | ((with_reducible refine gate_callee (f := 8) rfl ?_);refine goesL_ (some 13) rfl rfl Try.func8 T17_ rfl #[.agg #[.int .i64 a0_0,.int .i64 a0_1]] rfl T4_ ?_;(with_reducible refine (spec_IsTable.calls a0_0 a0_1 true _ A2.out).mono ?_);rintro e w6 ⟨rfl,hb⟩;refine ⟨_,rfl,?_⟩;have n0_ := aZ_ (blk_below (g := gb101) (o := .cells #[.int .i64 a0_0,.int .i64 a0_1] 25 (0,0)) T1_ hb);have n1_ := aZ_ (below_step T3_ hb);clear BK101;clear HB;have BK101 := n0_;have HB := n1_;clear n0_ n1_;(try clear hb);(try clear hb2);(try clear hk);(try clear hi)))
  go_loopg [6,7,8,9] k (fun kq v6 v7 v8 v9 w' => ∃ (x6_1 : Int) (x7_1 : Int) (x8_1 : Int) (x9_1 : Int),v6 = .int .i64 x6_1 ∧ v7 = .int .i64 x7_1 ∧ v8 = .int .i64 x8_1 ∧ v9 = .int .i64 x9_1 ∧ Aside0 (spec_NearestAffine.l0 kq x6_1 x7_1 x8_1 x9_1 a0_0 a0_1 = some (r1,r2,r3,r4)) ∧ Aside0 (kq ≤ k) ∧ Aside0 (w'.heap[gb101]? = some (.cells #[.int .i64 a0_0,.int .i64 a0_1] 25 (0,0))) ∧ Aside0 (Below w.heap.size w w'))
  case atStart => exact ⟨(0),(0),(100),(0),T7_,T7_,T7_,T7_,H',⟨Nat.le_refl _⟩,⟨by (with_reducible repeat (first | refine blk_drewN ?_ _ | refine blk_drew ?_ | refine blk_alloc ?_ _));exact BK101.out⟩,⟨by repeat (first | (with_reducible first | exact HB.out | apply below_alloc | apply pw_below_drewN | apply below_drew1 | refine below_set ?_ GE101.out) | exact HB.out)⟩⟩
  case round =>
   clear H'
   try clear c1
   try clear p2
   try clear c3
   try clear hcz5_0
   try clear hcz5_1
   try clear hfz5_0
   try clear hfz5_1
   obtain ⟨x6_1,x7_1,x8_1,x9_1,rfl,rfl,rfl,rfl,HA,HK1,BK101,HB⟩ := hrel
   cases gk with
   | zero => exact absurd HA.out (by simp [spec_NearestAffine.l0])
   | succ k1 =>
    have H := HA.out
    clear HA
    simp only [spec_NearestAffine.l0] at H
    by_cases c7 : 0 ≤ a0_0
    ·rw [if_pos c7] at H
     have c7b0 := eq_true c7
     have c7b1 : decide (0 ≤ a0_0) = true := decide_eq_true c7
     clear c7
     obtain ⟨ji8,hji8⟩ : ∃ j_ : Int,(shl .i64 1 a0_0) = j_ := ⟨_,rfl⟩
     replace H : (if x9_1 < (ji8) then (spec_NearestAffine.l1 k1 x6_1 x7_1 x8_1 x9_1 0 a0_0 a0_1) else (some (x6_1,x7_1,x8_1,true))) = some (r1,r2,r3,r4) := by first | (rw [hji8] at H;exact H) | (simp only [hji8] at H ⊢;exact H)
     have hji8_ : (IntKind.i64.wrap (1 * 2 ^ min a0_0.toNat 64)) = ji8 := hji8
     have hji8z : a0_0 ≤ 64 → (IntKind.i64.wrap (1 * 2 ^ a0_0.toNat)) = ji8 := shl_small hji8
     have hji8u : (IntKind.i64.wrap (2 ^ min a0_0.toNat 64)) = ji8 := by have h_ := hji8_;rw [Int.one_mul] at h_;exact h_
     have hji8v : a0_0 ≤ 64 → (IntKind.i64.wrap (2 ^ a0_0.toNat)) = ji8 := fun hle_ => by have h_ := hji8z hle_;rw [Int.one_mul] at h_;exact h_
     have hji8y : (wrap64 (1 * 2 ^ min a0_0.toNat 64)) = ji8 := (i64_w _).symm.trans hji8_
     have hji8x : a0_0 ≤ 64 → (wrap64 (1 * 2 ^ a0_0.toNat)) = ji8 := fun h_ => (i64_w _).symm.trans (hji8z h_)
     by_cases c9 : x9_1 < (ji8)
     ·rw [if_pos c9] at H
      have c9b0 : decide (x9_1 < (ji8)) = true := decide_eq_true c9
      clear c9
      have H' := aZ_ H
      clear H
      have hcz10_0 : wr.cell? ⟨gb101,0,none⟩ = some (.int .i64 a0_0) := (blk_cell BK101.out 0).trans rfl
      have hcz10_1 : wr.cell? ⟨gb101,1,none⟩ = some (.int .i64 a0_1) := (blk_cell BK101.out 1).trans rfl
      have hfz10_0 := blk_frozen BK101.out 0
      have hfz10_1 := blk_frozen BK101.out 1
      go_wp2
      go_loopg [6,7,8,10] k1 (fun kq v6 v7 v8 v10 w' => ∃ (x6_2 : Int) (x7_2 : Int) (x8_2 : Int) (x10_2 : Int),v6 = .int .i64 x6_2 ∧ v7 = .int .i64 x7_2 ∧ v8 = .int .i64 x8_2 ∧ v10 = .int .i64 x10_2 ∧ Aside0 (spec_NearestAffine.l1 kq x6_2 x7_2 x8_2 x9_1 x10_2 a0_0 a0_1 = some (r1,r2,r3,r4)) ∧ Aside0 (kq ≤ k1) ∧ Aside0 (w'.heap[gb101]? = some (.cells #[.int .i64 a0_0,.int .i64 a0_1] 25 (0,0))) ∧ Aside0 (Below w.heap.size w w'))
      case atStart => exact ⟨(x6_1),(x7_1),(x8_1),(0),T7_,T7_,T7_,T7_,H',⟨Nat.le_refl _⟩,⟨by (with_reducible repeat (first | refine blk_drewN ?_ _ | refine blk_drew ?_ | refine blk_alloc ?_ _));exact BK101.out⟩,⟨by repeat (first | (with_reducible first | exact HB.out | apply below_alloc | apply pw_below_drewN | apply below_drew1 | refine below_set ?_ GE101.out) | exact HB.out)⟩⟩
      case round =>
       clear H'
       try clear c1
       try clear p2
       try clear c3
       try clear p6
       try clear c7
       try clear c7b0
       try clear c7b1
       try clear c8
       try clear c9
       try clear c9b0
       try clear hcz10_0
       try clear hcz10_1
       try clear hcz5_0
       try clear hcz5_1
       try clear hfz10_0
       try clear hfz10_1
       try clear hfz5_0
       try clear hfz5_1
       try clear p2
       obtain ⟨x6_2,x7_2,x8_2,x10_2,rfl,rfl,rfl,rfl,HA,HK2,BK101,HB⟩ := hrel
       cases gk with
       | zero => exact absurd HA.out (by simp [spec_NearestAffine.l1])
       | succ k2 =>
        have H := HA.out
        clear HA
        simp only [spec_NearestAffine.l1] at H
        by_cases c11 : x10_2 < 2
        ·rw [if_pos c11] at H
         have c11b0 : decide (x10_2 < 2) = true := decide_eq_true c11
         clear c11
         replace H := Option.bind_eq_some_iff.mp H
         obtain ⟨t103,A120,H⟩ := H
         replace H : ((spec_l2Count.f k2 (Go.bits .xor .i64 a0_1 t103)).bind fun t104 => (if t104 < x8_2 then (spec_NearestAffine.l1 k2 x9_1 x10_2 t104 x9_1 (wrap64 (x10_2 + 1)) a0_0 a0_1) else (spec_NearestAffine.l1 k2 x6_2 x7_2 x8_2 x9_1 (wrap64 (x10_2 + 1)) a0_0 a0_1))) = some (r1,r2,r3,r4) := H
         have A12 := aZ_ A120
         clear A120
         replace H := Option.bind_eq_some_iff.mp H
         obtain ⟨t104,A130,H⟩ := H
         replace H : (if t104 < x8_2 then (spec_NearestAffine.l1 k2 x9_1 x10_2 t104 x9_1 (wrap64 (x10_2 + 1)) a0_0 a0_1) else (spec_NearestAffine.l1 k2 x6_2 x7_2 x8_2 x9_1 (wrap64 (x10_2 + 1)) a0_0 a0_1)) = some (r1,r2,r3,r4) := H
         have A13 := aZ_ A130
         clear A130
         by_cases c14 : t104 < x8_2
         ·rw [if_pos c14] at H
          have c14b0 : decide (t104 < x8_2) = true := decide_eq_true c14
          clear c14
          have H' := aZ_ H
          clear H
          try go_wp2
          have n0_ := aZ_ (blk_drew BK101.out)
          have n1_ := aZ_ (below_drew1 HB.out)
          clear BK101
          clear HB
          have BK101 := n0_
          have HB := n1_
          clear n0_ n1_
          refine start_ (n := 10) (S := fun w' => w'.cell? ⟨gb101,0,none⟩ = some (.int .i64 a0_0) ∧ w'.cell? ⟨gb101,1,none⟩ = some (.int .i64 a0_1)) (ds := []) #[false,false,false,false,false,false,false,false,false,false] T17_ rfl rfl ⟨(blk_cell BK101.out 0).trans rfl,(blk_cell BK101.out 1).trans rfl⟩ (fun hHeld => ?_);refine with_tabW spec_NearestAffine.tab12 spec_NearestAffine.bits12 (fun HT_ HW_ => ?_)
          generalize wr.drew = w15 at BK101 HB hHeld ⊢
          refine pZ_ 0 (some 26) #[true,false,false,false,false,false,false,false,false,false] ?_
          refine pZ_ 2 (some 28) #[true,false,true,false,false,false,false,false,false,false] ?_
          refine pZ_ 4 (some 30) #[true,false,true,false,true,false,false,false,false,false] ?_
          refine pZ_ 5 (some 31) #[true,false,true,false,true,true,false,false,false,false] ?_
          refine tZ2_ 1 (some 27) #[true,true,true,false,true,true,false,false,false,false] hHeld ?_
          refine tZ2_ 3 (some 29) #[true,true,true,true,true,true,false,false,false,false] hHeld ?_
          refine one_ (i := 6) (N := some 32) #[true,true,true,true,true,true,true,false,false,false] rfl rfl (one_of HT_.out T17_) T46_ (fun K hK => ?_)
          refine gZ_ Try.func44 #[.int .i64 a0_0,.int .i64 x9_1,.int .i64 x10_2] ?_
          with_reducible refine (spec_l14Affine.calls k2 a0_0 x9_1 x10_2 t103 _ A12.out).mono ?_
          rintro e w' ⟨rfl,⟨nd,rfl⟩⟩
          refine ⟨_,rfl,?_⟩
          refine hK.out _ _ ⟨(blk_cell BK101.out 0).trans rfl,(blk_cell BK101.out 1).trans rfl⟩ (fun hHeld => ?_)
          clear hK K
          refine norm_ (a' := ?_) ?_ ?_
          rotate_left
          ·show Act.put _ (some 32) _ = _
           simp only [Act.put,List.setIfInBounds_toArray,List.set_cons_zero,List.set_cons_succ,i64_w,i32_w]
           rfl
          refine pZ_ 7 (some 33) #[true,true,true,true,true,true,true,true,false,false] ?_
          refine one_ (i := 8) (N := some 34) #[true,true,true,true,true,true,true,true,true,false] rfl rfl (one_of HT_.out T17_) T46_ (fun K hK => ?_)
          refine gZ_ Try.func43 #[.int .i64 (Go.bits .xor .i64 a0_1 t103)] ?_
          with_reducible refine (spec_l2Count.calls k2 (Go.bits .xor .i64 a0_1 t103) t104 _ A13.out).mono ?_
          rintro e w' ⟨rfl,⟨nd,rfl⟩⟩
          refine ⟨_,rfl,?_⟩
          refine hK.out _ _ ⟨(blk_cell BK101.out 0).trans rfl,(blk_cell BK101.out 1).trans rfl⟩ (fun hHeld => ?_)
          clear hK K
          refine norm_ (a' := ?_) ?_ ?_
          rotate_left
          ·show Act.put _ (some 34) _ = _
           simp only [Act.put,List.setIfInBounds_toArray,List.set_cons_zero,List.set_cons_succ,i64_w,i32_w]
           rfl
          refine pZ_ 9 (some 11) #[true,true,true,true,true,true,true,true,true,true] ?_
          refine done_ (done_of HT_.out T17_) ?_
          try go_wp2
          go_roundg k2
          case measure => have := HK1.out;have := HK2.out;omega
          case rel => exact ⟨(x9_1),(x10_2),(t104),(wrap64 (x10_2 + 1)),T7_,T7_,T7_,T7_,H',⟨by have := HK1.out;have := HK2.out;omega⟩,⟨by (with_reducible repeat (first | refine blk_drewN ?_ _ | refine blk_drew ?_ | refine blk_alloc ?_ _));exact BK101.out⟩,⟨by repeat (first | (with_reducible first | exact HB.out | apply below_alloc | apply pw_below_drewN | apply below_drew1 | refine below_set ?_ GE101.out) | exact HB.out)⟩⟩
         ·rw [if_neg c14] at H
          have c14b0 : decide (t104 < x8_2) = false := decide_eq_false c14
          clear c14
          have H' := aZ_ H
          clear H
          try go_wp2
          have n0_ := aZ_ (blk_drew BK101.out)
          have n1_ := aZ_ (below_drew1 HB.out)
          clear BK101
          clear HB
          have BK101 := n0_
          have HB := n1_
          clear n0_ n1_
          refine start_ (n := 10) (S := fun w' => w'.cell? ⟨gb101,0,none⟩ = some (.int .i64 a0_0) ∧ w'.cell? ⟨gb101,1,none⟩ = some (.int .i64 a0_1)) (ds := []) #[false,false,false,false,false,false,false,false,false,false] T17_ rfl rfl ⟨(blk_cell BK101.out 0).trans rfl,(blk_cell BK101.out 1).trans rfl⟩ (fun hHeld => ?_);refine with_tabW spec_NearestAffine.tab12 spec_NearestAffine.bits12 (fun HT_ HW_ => ?_)
          generalize wr.drew = w16 at BK101 HB hHeld ⊢
          refine pZ_ 0 (some 26) #[true,false,false,false,false,false,false,false,false,false] ?_
          refine pZ_ 2 (some 28) #[true,false,true,false,false,false,false,false,false,false] ?_
          refine pZ_ 4 (some 30) #[true,false,true,false,true,false,false,false,false,false] ?_
          refine pZ_ 5 (some 31) #[true,false,true,false,true,true,false,false,false,false] ?_
          refine tZ2_ 1 (some 27) #[true,true,true,false,true,true,false,false,false,false] hHeld ?_
          refine tZ2_ 3 (some 29) #[true,true,true,true,true,true,false,false,false,false] hHeld ?_
          refine one_ (i := 6) (N := some 32) #[true,true,true,true,true,true,true,false,false,false] rfl rfl (one_of HT_.out T17_) T46_ (fun K hK => ?_)
          refine gZ_ Try.func44 #[.int .i64 a0_0,.int .i64 x9_1,.int .i64 x10_2] ?_
          with_reducible refine (spec_l14Affine.calls k2 a0_0 x9_1 x10_2 t103 _ A12.out).mono ?_
          rintro e w' ⟨rfl,⟨nd,rfl⟩⟩
          refine ⟨_,rfl,?_⟩
          refine hK.out _ _ ⟨(blk_cell BK101.out 0).trans rfl,(blk_cell BK101.out 1).trans rfl⟩ (fun hHeld => ?_)
          clear hK K
          refine norm_ (a' := ?_) ?_ ?_
          rotate_left
          ·show Act.put _ (some 32) _ = _
           simp only [Act.put,List.setIfInBounds_toArray,List.set_cons_zero,List.set_cons_succ,i64_w,i32_w]
           rfl
          refine pZ_ 7 (some 33) #[true,true,true,true,true,true,true,true,false,false] ?_
          refine one_ (i := 8) (N := some 34) #[true,true,true,true,true,true,true,true,true,false] rfl rfl (one_of HT_.out T17_) T46_ (fun K hK => ?_)
          refine gZ_ Try.func43 #[.int .i64 (Go.bits .xor .i64 a0_1 t103)] ?_
          with_reducible refine (spec_l2Count.calls k2 (Go.bits .xor .i64 a0_1 t103) t104 _ A13.out).mono ?_
          rintro e w' ⟨rfl,⟨nd,rfl⟩⟩
          refine ⟨_,rfl,?_⟩
          refine hK.out _ _ ⟨(blk_cell BK101.out 0).trans rfl,(blk_cell BK101.out 1).trans rfl⟩ (fun hHeld => ?_)
          clear hK K
          refine norm_ (a' := ?_) ?_ ?_
          rotate_left
          ·show Act.put _ (some 34) _ = _
           simp only [Act.put,List.setIfInBounds_toArray,List.set_cons_zero,List.set_cons_succ,i64_w,i32_w]
           rfl
          refine pZ_ 9 (some 11) #[true,true,true,true,true,true,true,true,true,true] ?_
          refine done_ (done_of HT_.out T17_) ?_
          try go_wp2
          go_roundg k2
          case measure => have := HK1.out;have := HK2.out;omega
          case rel => exact ⟨(x6_2),(x7_2),(x8_2),(wrap64 (x10_2 + 1)),T7_,T7_,T7_,T7_,H',⟨by have := HK1.out;have := HK2.out;omega⟩,⟨by (with_reducible repeat (first | refine blk_drewN ?_ _ | refine blk_drew ?_ | refine blk_alloc ?_ _));exact BK101.out⟩,⟨by repeat (first | (with_reducible first | exact HB.out | apply below_alloc | apply pw_below_drewN | apply below_drew1 | refine below_set ?_ GE101.out) | exact HB.out)⟩⟩
        ·rw [if_neg c11] at H
         have c11b0 : decide (x10_2 < 2) = false := decide_eq_false c11
         clear c11
         have H' := aZ_ H
         clear H
         go_wp2
         go_roundg k2
         case measure => have := HK1.out;have := HK2.out;omega
         case rel => exact ⟨(x6_2),(x7_2),(x8_2),(wrap64 (x9_1 + 1)),T7_,T7_,T7_,T7_,H',⟨by have := HK1.out;have := HK2.out;omega⟩,⟨by (with_reducible repeat (first | refine blk_drewN ?_ _ | refine blk_drew ?_ | refine blk_alloc ?_ _));exact BK101.out⟩,⟨by repeat (first | (with_reducible first | exact HB.out | apply below_alloc | apply pw_below_drewN | apply below_drew1 | refine below_set ?_ GE101.out) | exact HB.out)⟩⟩
     ·rw [if_neg c9] at H
      have c9b0 : decide (x9_1 < (ji8)) = false := decide_eq_false c9
      clear c9
      simp only [Option.some.injEq,Prod.mk.injEq] at H
      obtain ⟨rfl,rfl,rfl,rfl⟩ := H
      have hcz17_0 : wr.cell? ⟨gb101,0,none⟩ = some (.int .i64 a0_0) := (blk_cell BK101.out 0).trans rfl
      have hcz17_1 : wr.cell? ⟨gb101,1,none⟩ = some (.int .i64 a0_1) := (blk_cell BK101.out 1).trans rfl
      have hfz17_0 := blk_frozen BK101.out 0
      have hfz17_1 := blk_frozen BK101.out 1
      go_wp2
      refine bodyPost_ret (results_list (rs := [.tmp 2,.tmp 3,.tmp 4,.tmp 5]) rfl T44_ (.tmp (.tmp (.tmp (.tmp .nil))))) rfl ?_
      exact ⟨by first | rfl | (simp [errW_none,errW_some] <;> rfl) | (simp only [← hji8];first | rfl | (simp [errW_none,errW_some] <;> rfl)) | (simp [*,errW_none,errW_some] <;> rfl),by repeat (first | (with_reducible first | exact HB.out | apply below_alloc | apply pw_below_drewN | apply below_drew1 | refine below_set ?_ GE101.out) | exact HB.out)⟩
    ·rw [if_neg c7] at H
     exact absurd H T44_
 ·replace c3 := Bool.eq_false_iff.mpr c3
  subst c3
  have H1 : (some (0,0,0,false)) = some (r1,r2,r3,r4) := by rw [if_neg (show ¬ (false = true) by decide)] at H;exact H
  clear H
  have H := H1
  clear H1
  simp only [Option.some.injEq,Prod.mk.injEq] at H
  obtain ⟨rfl,rfl,rfl,rfl⟩ := H
  go_enter Try.func14,Try.ntmps14
  go_wp2_with (first | ((with_reducible refine gate_dst (N := 1) rfl ?_);refine box_event ?hg (N := 1) ?hd (cs := #[.int .i64 a0_0,.int .i64 a0_1]) (t := 25) ?hr ?_;(case hd => rfl);(case hg => rfl);(case hr => first | (go_simp;done) | (go_simp;rfl));intro gb101 hg w18 hbox hb;have n0_ := aZ_ (below_step T5_ hb);have n1_ := aZ_ (hbox);have n2_ := aZ_ ((T2_ : w.heap.size ≤ gb101));have n3_ := aZ_ ((T2_ : w.heap.size ≤ gb101));clear HB;have HB := n0_;have BK101 := n1_;have GW101 := n2_;have GE101 := n3_;clear n0_ n1_ n2_ n3_;clear hb hbox hg;have hcz19_0 : w18.cell? ⟨gb101,0,none⟩ = some (.int .i64 a0_0) := (blk_cell BK101.out 0).trans rfl;have hcz19_1 : w18.cell? ⟨gb101,1,none⟩ = some (.int .i64 a0_1) := (blk_cell BK101.out 1).trans rfl;have hfz19_0 := blk_frozen BK101.out 0;have hfz19_1 := blk_frozen BK101.out 1) | ((with_reducible refine gate_callee (f := 8) rfl ?_);refine goesL_ (some 13) rfl rfl Try.func8 T17_ rfl #[.agg #[.int .i64 a0_0,.int .i64 a0_1]] rfl T4_ ?_;(with_reducible refine (spec_IsTable.calls a0_0 a0_1 false _ A2.out).mono ?_);rintro e w20 ⟨rfl,hb⟩;refine ⟨_,rfl,?_⟩;have n0_ := aZ_ (blk_below (g := gb101) (o := .cells #[.int .i64 a0_0,.int .i64 a0_1] 25 (0,0)) T1_ hb);have n1_ := aZ_ (below_step T3_ hb);clear BK101;clear HB;have BK101 := n0_;have HB := n1_;clear n0_ n1_;(try clear hb);(try clear hb2);(try clear hk);(try clear hi)))
  refine bodyPost_ret (results_list (rs := [.tmp 2,.tmp 3,.tmp 4,.tmp 5]) rfl T44_ (.tmp (.tmp (.tmp (.tmp .nil))))) rfl ?_
  exact ⟨by first | rfl | (simp [errW_none,errW_some] <;> rfl) | (simp [*,errW_none,errW_some] <;> rfl),by repeat (first | (with_reducible first | exact HB.out | apply below_alloc | apply pw_below_drewN | apply below_drew1 | refine below_set ?_ GE101.out) | exact HB.out)⟩
def spec_IsAffine.f (k : Nat) (a0_0 : Int) (a0_1 : Int) : Option (Bool) := (spec_NearestAffine.f k a0_0 a0_1).bind fun bt102 => (if bt102.2.2.2 = true then (some (bt102.2.2.1 == 0)) else (some false))
set_option maxHeartbeats 8000000 in
set_option maxRecDepth 100000 in
theorem spec_IsAffine.calls (k : Nat) (a0_0 : Int) (a0_1 : Int) (r : Bool) (w : World) (h : spec_IsAffine.f k a0_0 a0_1 = some r) :
  Calls Try.prog 7 #[.agg #[.int .i64 a0_0,.int .i64 a0_1]] w fun e w' => e = .returned (.bool r) ∧ Below w.heap.size w w' := by
 have hu25 := Try.underlying25
 have HB := aZ_ (Below.refl w.heap.size w)
 have H : ((spec_NearestAffine.f k a0_0 a0_1).bind fun bt102 => (if bt102.2.2.2 = true then (some (bt102.2.2.1 == 0)) else (some false))) = some r := h
 clear h
 replace H := Option.bind_eq_some_iff.mp H
 obtain ⟨⟨t102,t103,t104,t105⟩,A20,H⟩ := H
 replace H : (if t105 = true then (some (t104 == 0)) else (some false)) = some r := H
 have A2 := aZ_ A20
 clear A20
 by_cases c3 : t105 = true
 ·subst c3
  have H1 : (some (t104 == 0)) = some r := by rw [if_pos rfl] at H;exact H
  clear H
  have H := H1
  clear H1
  obtain rfl := Option.some.inj H
  go_enter Try.func7,Try.ntmps7
  go_wp2_with (first | ((with_reducible refine gate_dst (N := 1) rfl ?_);refine box_event ?hg (N := 1) ?hd (cs := #[.int .i64 a0_0,.int .i64 a0_1]) (t := 25) ?hr ?_;(case hd => rfl);(case hg => rfl);(case hr => first | (go_simp;done) | (go_simp;rfl));intro gb101 hg w4 hbox hb;have n0_ := aZ_ (below_step T5_ hb);have n1_ := aZ_ (hbox);have n2_ := aZ_ ((T2_ : w.heap.size ≤ gb101));have n3_ := aZ_ ((T2_ : w.heap.size ≤ gb101));clear HB;have HB := n0_;have BK101 := n1_;have GW101 := n2_;have GE101 := n3_;clear n0_ n1_ n2_ n3_;clear hb hbox hg;have hcz5_0 : w4.cell? ⟨gb101,0,none⟩ = some (.int .i64 a0_0) := (blk_cell BK101.out 0).trans rfl;have hcz5_1 : w4.cell? ⟨gb101,1,none⟩ = some (.int .i64 a0_1) := (blk_cell BK101.out 1).trans rfl;have hfz5_0 := blk_frozen BK101.out 0;have hfz5_1 := blk_frozen BK101.out 1) | ((with_reducible refine gate_callee (f := 14) rfl ?_);refine goesL_ (some 9) rfl rfl Try.func14 T17_ rfl #[.agg #[.int .i64 a0_0,.int .i64 a0_1]] rfl T4_ ?_;(with_reducible refine (spec_NearestAffine.calls k a0_0 a0_1 t102 t103 t104 true _ A2.out).mono ?_);rintro e w6 ⟨rfl,hb⟩;refine ⟨_,rfl,?_⟩;have n0_ := aZ_ (blk_below (g := gb101) (o := .cells #[.int .i64 a0_0,.int .i64 a0_1] 25 (0,0)) T1_ hb);have n1_ := aZ_ (below_step T3_ hb);clear BK101;clear HB;have BK101 := n0_;have HB := n1_;clear n0_ n1_;(try clear hb);(try clear hb2);(try clear hk);(try clear hi)))
  go_ret
  exact ⟨by first | rfl | (simp [errW_none,errW_some] <;> rfl) | (simp [*,errW_none,errW_some] <;> rfl),by repeat (first | (with_reducible first | exact HB.out | apply below_alloc | apply pw_below_drewN | apply below_drew1 | refine below_set ?_ GE101.out) | exact HB.out)⟩
 ·replace c3 := Bool.eq_false_iff.mpr c3
  subst c3
  have H1 : (some false) = some r := by rw [if_neg (show ¬ (false = true) by decide)] at H;exact H
  clear H
  have H := H1
  clear H1
  obtain rfl := Option.some.inj H
  go_enter Try.func7,Try.ntmps7
  go_wp2_with (first | ((with_reducible refine gate_dst (N := 1) rfl ?_);refine box_event ?hg (N := 1) ?hd (cs := #[.int .i64 a0_0,.int .i64 a0_1]) (t := 25) ?hr ?_;(case hd => rfl);(case hg => rfl);(case hr => first | (go_simp;done) | (go_simp;rfl));intro gb101 hg w7 hbox hb;have n0_ := aZ_ (below_step T5_ hb);have n1_ := aZ_ (hbox);have n2_ := aZ_ ((T2_ : w.heap.size ≤ gb101));have n3_ := aZ_ ((T2_ : w.heap.size ≤ gb101));clear HB;have HB := n0_;have BK101 := n1_;have GW101 := n2_;have GE101 := n3_;clear n0_ n1_ n2_ n3_;clear hb hbox hg;have hcz8_0 : w7.cell? ⟨gb101,0,none⟩ = some (.int .i64 a0_0) := (blk_cell BK101.out 0).trans rfl;have hcz8_1 : w7.cell? ⟨gb101,1,none⟩ = some (.int .i64 a0_1) := (blk_cell BK101.out 1).trans rfl;have hfz8_0 := blk_frozen BK101.out 0;have hfz8_1 := blk_frozen BK101.out 1) | ((with_reducible refine gate_callee (f := 14) rfl ?_);refine goesL_ (some 9) rfl rfl Try.func14 T17_ rfl #[.agg #[.int .i64 a0_0,.int .i64 a0_1]] rfl T4_ ?_;(with_reducible refine (spec_NearestAffine.calls k a0_0 a0_1 t102 t103 t104 false _ A2.out).mono ?_);rintro e w9 ⟨rfl,hb⟩;refine ⟨_,rfl,?_⟩;have n0_ := aZ_ (blk_below (g := gb101) (o := .cells #[.int .i64 a0_0,.int .i64 a0_1] 25 (0,0)) T1_ hb);have n1_ := aZ_ (below_step T3_ hb);clear BK101;clear HB;have BK101 := n0_;have HB := n1_;clear n0_ n1_;(try clear hb);(try clear hb2);(try clear hk);(try clear hi)))
  go_ret
  exact ⟨by first | rfl | (simp [errW_none,errW_some] <;> rfl) | (simp [*,errW_none,errW_some] <;> rfl),by repeat (first | (with_reducible first | exact HB.out | apply below_alloc | apply pw_below_drewN | apply below_drew1 | refine below_set ?_ GE101.out) | exact HB.out)⟩
mutual
def impl_TestRejects.l0 : Nat → Int → Int → Int → Int → Int → Option (Int)
 | 0,_,_,_,_,_ => none
 | k + 1,x3,x10,x11,x102000,x102001 => if x11 < x10 then ((impl_Table_size.f x102000 x102001).bind fun t104 => (impl_TestRejects.l1 k x3 x11 x10 x11 t104 0 x102000 x102001)) else (some x3)
def impl_TestRejects.l1 : Nat → Int → Int → Int → Int → Int → Int → Int → Int → Option (Int)
 | 0,_,_,_,_,_,_,_,_ => none
 | k + 1,x3,x4,x10,x11,x15,x16,x102000,x102001 => if x16 < x15 then ((impl_Table_at.f x102000 x102001 x4).bind fun t105 => ((impl_Table_at.f x102000 x102001 x16).bind fun t106 => ((impl_Table_at.f x102000 x102001 (Go.bits .xor .i64 x4 x16)).bind fun t107 => (impl_TestRejects.l1 k (wrap64 (x3 + (Go.bits .xor .i64 (Go.bits .xor .i64 t105 t106) t107))) x4 x10 x11 x15 (wrap64 (x16 + 1)) x102000 x102001)))) else (impl_TestRejects.l0 k x3 x10 (wrap64 (x11 + 1)) x102000 x102001)
end
def impl_TestRejects.f (k : Nat) (a0_0 : Int) (a0_1 : Int) : Option (Int) := (impl_IsTable.f a0_0 a0_1).bind fun t102 => (if t102 = true then ((impl_Table_size.f a0_0 a0_1).bind fun t103 => (impl_TestRejects.l0 k 0 t103 0 a0_0 a0_1)) else (some (-1)))
def impl_TestRejects.T10 : Bool × List (List Nat × List Nat) := (true,[([],[]),([],[]),([],[]),([1,2],[1,2]),([],[]),([],[]),([4,5,3],[4,5]),([3,6],[3,6]),([],[]),([],[]),([],[]),([9,10],[9,10]),([8,11,6],[8,11]),([7,12],[7,12]),([0,13],[0,13]),([14,12,0,1,2,3,4,5,6,7,8,9,10,11,12,13,14],[0,14])])
def impl_TestRejects.B10 : List Nat := [0,0,0,6,0,0,62,126,0,0,0,1536,3966,8190,16383,32767]
theorem impl_TestRejects.tab10 : rtab .any (opsOf Try.f9 10) = impl_TestRejects.T10 := by kernel_rfl
theorem impl_TestRejects.bits10 : waitsOk impl_TestRejects.T10.2 impl_TestRejects.B10 = true := by kernel_rfl
set_option maxHeartbeats 8000000 in
set_option maxRecDepth 100000 in
theorem impl_TestRejects.calls (k : Nat) (a0_0 : Int) (a0_1 : Int) (r : Int) (w : World) (h : impl_TestRejects.f k a0_0 a0_1 = some r) :
  Calls Try.prog 9 #[.agg #[.int .i64 a0_0,.int .i64 a0_1]] w fun e w' => e = .returned (.int .i64 r) ∧ Below w.heap.size w w' := by
 have hu25 := Try.underlying25
 have HB := aZ_ (Below.refl w.heap.size w)
 have H : ((impl_IsTable.f a0_0 a0_1).bind fun t102 => (if t102 = true then ((impl_Table_size.f a0_0 a0_1).bind fun t103 => (impl_TestRejects.l0 k 0 t103 0 a0_0 a0_1)) else (some (-1)))) = some r := h
 clear h
 replace H := Option.bind_eq_some_iff.mp H
 obtain ⟨t102,A20,H⟩ := H
 replace H : (if t102 = true then ((impl_Table_size.f a0_0 a0_1).bind fun t103 => (impl_TestRejects.l0 k 0 t103 0 a0_0 a0_1)) else (some (-1))) = some r := H
 have A2 := aZ_ A20
 clear A20
 by_cases c3 : t102 = true
 ·subst c3
  have H1 : ((impl_Table_size.f a0_0 a0_1).bind fun t103 => (impl_TestRejects.l0 k 0 t103 0 a0_0 a0_1)) = some r := by rw [if_pos rfl] at H;exact H
  clear H
  have H := H1
  clear H1
  replace H := Option.bind_eq_some_iff.mp H
  obtain ⟨t103,A40,H⟩ := H
  replace H : (impl_TestRejects.l0 k 0 t103 0 a0_0 a0_1) = some r := H
  have A4 := aZ_ A40
  clear A40
  have H' := aZ_ H
  clear H
  go_enter Try.func9,Try.ntmps9
  go_wp2_with (first | ((with_reducible refine gate_dst (N := 1) rfl ?_);refine box_event ?hg (N := 1) ?hd (cs := #[.int .i64 a0_0,.int .i64 a0_1]) (t := 25) ?hr ?_;(case hd => rfl);(case hg => rfl);(case hr => first | (go_simp;done) | (go_simp;rfl));intro gb101 hg w5 hbox hb;have n0_ := aZ_ (below_step T5_ hb);have n1_ := aZ_ (hbox);have n2_ := aZ_ ((T2_ : w.heap.size ≤ gb101));have n3_ := aZ_ ((T2_ : w.heap.size ≤ gb101));clear HB;have HB := n0_;have BK101 := n1_;have GW101 := n2_;have GE101 := n3_;clear n0_ n1_ n2_ n3_;clear hb hbox hg;have hcz6_0 : w5.cell? ⟨gb101,0,none⟩ = some (.int .i64 a0_0) := (blk_cell BK101.out 0).trans rfl;have hcz6_1 : w5.cell? ⟨gb101,1,none⟩ = some (.int .i64 a0_1) := (blk_cell BK101.out 1).trans rfl;have hfz6_0 := blk_frozen BK101.out 0;have hfz6_1 := blk_frozen BK101.out 1) | ((with_reducible refine gate_callee (f := 34) rfl ?_);refine goesL_ (some 7) rfl rfl Try.func34 T17_ rfl #[.agg #[.int .i64 a0_0,.int .i64 a0_1]] rfl T4_ ?_;(with_reducible refine (impl_IsTable.calls a0_0 a0_1 true _ A2.out).mono ?_);rintro e w7 ⟨rfl,hb⟩;refine ⟨_,rfl,?_⟩;have n0_ := aZ_ (blk_below (g := gb101) (o := .cells #[.int .i64 a0_0,.int .i64 a0_1] 25 (0,0)) T1_ hb);have n1_ := aZ_ (below_step T3_ hb);clear BK101;clear HB;have BK101 := n0_;have HB := n1_;clear n0_ n1_;(try clear hb);(try clear hb2);(try clear hk);(try clear hi);have hcz8_0 : w7.cell? ⟨gb101,0,none⟩ = some (.int .i64 a0_0) := (blk_cell BK101.out 0).trans rfl;have hcz8_1 : w7.cell? ⟨gb101,1,none⟩ = some (.int .i64 a0_1) := (blk_cell BK101.out 1).trans rfl;have hfz8_0 := blk_frozen BK101.out 0;have hfz8_1 := blk_frozen BK101.out 1) | ((with_reducible refine gate_callee (f := 35) rfl ?_);refine goesL_ (some 10) rfl rfl Try.func35 T17_ rfl #[.agg #[.int .i64 a0_0,.int .i64 a0_1]] rfl T4_ ?_;(with_reducible refine (impl_Table_size.calls a0_0 a0_1 t103 _ A4.out).mono ?_);rintro e w9 ⟨rfl,hb⟩;refine ⟨_,rfl,?_⟩;have n0_ := aZ_ (blk_below (g := gb101) (o := .cells #[.int .i64 a0_0,.int .i64 a0_1] 25 (0,0)) T1_ hb);have n1_ := aZ_ (below_step T3_ hb);clear BK101;clear HB;have BK101 := n0_;have HB := n1_;clear n0_ n1_;(try clear hb);(try clear hb2);(try clear hk);(try clear hi)))
  go_loopg [3,11] k (fun kq v3 v11 w' => ∃ (x3_1 : Int) (x11_1 : Int),v3 = .int .i64 x3_1 ∧ v11 = .int .i64 x11_1 ∧ Aside0 (impl_TestRejects.l0 kq x3_1 t103 x11_1 a0_0 a0_1 = some r) ∧ Aside0 (kq ≤ k) ∧ Aside0 (w'.heap[gb101]? = some (.cells #[.int .i64 a0_0,.int .i64 a0_1] 25 (0,0))) ∧ Aside0 (Below w.heap.size w w'))
  case atStart => exact ⟨(0),(0),T7_,T7_,H',⟨Nat.le_refl _⟩,⟨by (with_reducible repeat (first | refine blk_drewN ?_ _ | refine blk_drew ?_ | refine blk_alloc ?_ _));exact BK101.out⟩,⟨by repeat (first | (with_reducible first | exact HB.out | apply below_alloc | apply pw_below_drewN | apply below_drew1 | refine below_set ?_ GE101.out) | exact HB.out)⟩⟩
  case round =>
   clear H'
   try clear p2
   try clear c3
   try clear c9
   try clear hcz6_0
   try clear hcz6_1
   try clear hcz8_0
   try clear hcz8_1
   try clear hfz6_0
   try clear hfz6_1
   try clear hfz8_0
   try clear hfz8_1
   obtain ⟨x3_1,x11_1,rfl,rfl,HA,HK1,BK101,HB⟩ := hrel
   cases gk with
   | zero => exact absurd HA.out (by simp [impl_TestRejects.l0])
   | succ k1 =>
    have H := HA.out
    clear HA
    simp only [impl_TestRejects.l0] at H
    by_cases c10 : x11_1 < t103
    ·rw [if_pos c10] at H
     have c10b0 : decide (x11_1 < t103) = true := decide_eq_true c10
     clear c10
     replace H := Option.bind_eq_some_iff.mp H
     obtain ⟨t104,A110,H⟩ := H
     replace H : (impl_TestRejects.l1 k1 x3_1 x11_1 t103 x11_1 t104 0 a0_0 a0_1) = some r := H
     have A11 := aZ_ A110
     clear A110
     have H' := aZ_ H
     clear H
     have hcz12_0 : wr.cell? ⟨gb101,0,none⟩ = some (.int .i64 a0_0) := (blk_cell BK101.out 0).trans rfl
     have hcz12_1 : wr.cell? ⟨gb101,1,none⟩ = some (.int .i64 a0_1) := (blk_cell BK101.out 1).trans rfl
     have hfz12_0 := blk_frozen BK101.out 0
     have hfz12_1 := blk_frozen BK101.out 1
     go_wp2_with (first | ((with_reducible refine gate_callee (f := 35) rfl ?_);refine goesL_ (some 15) rfl rfl Try.func35 T17_ rfl #[.agg #[.int .i64 a0_0,.int .i64 a0_1]] rfl T4_ ?_;(with_reducible refine (impl_Table_size.calls a0_0 a0_1 t104 _ A11.out).mono ?_);rintro e w13 ⟨rfl,hb⟩;refine ⟨_,rfl,?_⟩;have n0_ := aZ_ (blk_below (g := gb101) (o := .cells #[.int .i64 a0_0,.int .i64 a0_1] 25 (0,0)) T1_ hb);have n1_ := aZ_ (below_step T3_ hb);clear BK101;clear HB;have BK101 := n0_;have HB := n1_;clear n0_ n1_;(try clear hb);(try clear hb2);(try clear hk);(try clear hi)))
     go_loopg [3,16] k1 (fun kq v3 v16 w' => ∃ (x3_2 : Int) (x16_2 : Int),v3 = .int .i64 x3_2 ∧ v16 = .int .i64 x16_2 ∧ Aside0 (impl_TestRejects.l1 kq x3_2 x11_1 t103 x11_1 t104 x16_2 a0_0 a0_1 = some r) ∧ Aside0 (kq ≤ k1) ∧ Aside0 (w'.heap[gb101]? = some (.cells #[.int .i64 a0_0,.int .i64 a0_1] 25 (0,0))) ∧ Aside0 (Below w.heap.size w w'))
     case atStart => exact ⟨(x3_1),(0),T7_,T7_,H',⟨Nat.le_refl _⟩,⟨by (with_reducible repeat (first | refine blk_drewN ?_ _ | refine blk_drew ?_ | refine blk_alloc ?_ _));exact BK101.out⟩,⟨by repeat (first | (with_reducible first | exact HB.out | apply below_alloc | apply pw_below_drewN | apply below_drew1 | refine below_set ?_ GE101.out) | exact HB.out)⟩⟩
     case round =>
      clear H'
      try clear c1
      try clear p2
      try clear c3
      try clear c9
      try clear c10
      try clear c10b0
      try clear hcz12_0
      try clear hcz12_1
      try clear hcz6_0
      try clear hcz6_1
      try clear hcz8_0
      try clear hcz8_1
      try clear hfz12_0
      try clear hfz12_1
      try clear hfz6_0
      try clear hfz6_1
      try clear hfz8_0
      try clear hfz8_1
      try clear p2
      obtain ⟨x3_2,x16_2,rfl,rfl,HA,HK2,BK101,HB⟩ := hrel
      cases gk with
      | zero => exact absurd HA.out (by simp [impl_TestRejects.l1])
      | succ k2 =>
       have H := HA.out
       clear HA
       simp only [impl_TestRejects.l1] at H
       by_cases c14 : x16_2 < t104
       ·rw [if_pos c14] at H
        have c14b0 : decide (x16_2 < t104) = true := decide_eq_true c14
        clear c14
        replace H := Option.bind_eq_some_iff.mp H
        obtain ⟨t105,A150,H⟩ := H
        replace H : ((impl_Table_at.f a0_0 a0_1 x16_2).bind fun t106 => ((impl_Table_at.f a0_0 a0_1 (Go.bits .xor .i64 x11_1 x16_2)).bind fun t107 => (impl_TestRejects.l1 k2 (wrap64 (x3_2 + (Go.bits .xor .i64 (Go.bits .xor .i64 t105 t106) t107))) x11_1 t103 x11_1 t104 (wrap64 (x16_2 + 1)) a0_0 a0_1))) = some r := H
        have A15 := aZ_ A150
        clear A150
        replace H := Option.bind_eq_some_iff.mp H
        obtain ⟨t106,A160,H⟩ := H
        replace H : ((impl_Table_at.f a0_0 a0_1 (Go.bits .xor .i64 x11_1 x16_2)).bind fun t107 => (impl_TestRejects.l1 k2 (wrap64 (x3_2 + (Go.bits .xor .i64 (Go.bits .xor .i64 t105 t106) t107))) x11_1 t103 x11_1 t104 (wrap64 (x16_2 + 1)) a0_0 a0_1)) = some r := H
        have A16 := aZ_ A160
        clear A160
        replace H := Option.bind_eq_some_iff.mp H
        obtain ⟨t107,A170,H⟩ := H
        replace H : (impl_TestRejects.l1 k2 (wrap64 (x3_2 + (Go.bits .xor .i64 (Go.bits .xor .i64 t105 t106) t107))) x11_1 t103 x11_1 t104 (wrap64 (x16_2 + 1)) a0_0 a0_1) = some r := H
        have A17 := aZ_ A170
        clear A170
        have H' := aZ_ H
        clear H
        try go_wp2
        have n0_ := aZ_ (blk_drew BK101.out)
        have n1_ := aZ_ (below_drew1 HB.out)
        clear BK101
        clear HB
        have BK101 := n0_
        have HB := n1_
        clear n0_ n1_
        refine start_ (n := 16) (S := fun w' => w'.cell? ⟨gb101,0,none⟩ = some (.int .i64 a0_0) ∧ w'.cell? ⟨gb101,1,none⟩ = some (.int .i64 a0_1)) (ds := []) #[false,false,false,false,false,false,false,false,false,false,false,false,false,false,false,false] T17_ rfl rfl ⟨(blk_cell BK101.out 0).trans rfl,(blk_cell BK101.out 1).trans rfl⟩ (fun hHeld => ?_);refine with_tabW impl_TestRejects.tab10 impl_TestRejects.bits10 (fun HT_ HW_ => ?_)
        generalize wr.drew = w18 at BK101 HB hHeld ⊢
        refine pZ_ 0 (some 19) #[true,false,false,false,false,false,false,false,false,false,false,false,false,false,false,false] ?_
        refine pZ_ 2 (some 21) #[true,false,true,false,false,false,false,false,false,false,false,false,false,false,false,false] ?_
        refine pZ_ 5 (some 24) #[true,false,true,false,false,true,false,false,false,false,false,false,false,false,false,false] ?_
        refine pZ_ 9 (some 28) #[true,false,true,false,false,true,false,false,false,true,false,false,false,false,false,false] ?_
        refine pZ_ 10 (some 29) #[true,false,true,false,false,true,false,false,false,true,true,false,false,false,false,false] ?_
        refine pZ_ 11 (some 30) #[true,false,true,false,false,true,false,false,false,true,true,true,false,false,false,false] ?_
        refine tZ2_ 1 (some 20) #[true,true,true,false,false,true,false,false,false,true,true,true,false,false,false,false] hHeld ?_
        refine tZ2_ 4 (some 23) #[true,true,true,false,true,true,false,false,false,true,true,true,false,false,false,false] hHeld ?_
        refine tZ2_ 8 (some 27) #[true,true,true,false,true,true,false,false,true,true,true,true,false,false,false,false] hHeld ?_
        refine one_ (i := 3) (N := some 22) #[true,true,true,true,true,true,false,false,true,true,true,true,false,false,false,false] rfl rfl (one_of HT_.out T17_) T46_ (fun K hK => ?_)
        refine gZ_ Try.func36 #[.agg #[.int .i64 a0_0,.int .i64 a0_1],.int .i64 x11_1] ?_
        with_reducible refine (impl_Table_at.calls a0_0 a0_1 x11_1 t105 _ A15.out).mono ?_
        rintro e w19 ⟨rfl,hb⟩
        refine ⟨_,rfl,?_⟩
        have n0_ := aZ_ (blk_below (g := gb101) (o := .cells #[.int .i64 a0_0,.int .i64 a0_1] 25 (0,0)) T1_ hb)
        have n1_ := aZ_ (below_step T3_ hb)
        clear BK101
        clear HB
        have BK101 := n0_
        have HB := n1_
        clear n0_ n1_
        (try clear hb)
        (try clear hb2)
        (try clear hk)
        (try clear hi)
        refine hK.out _ _ ⟨(blk_cell BK101.out 0).trans rfl,(blk_cell BK101.out 1).trans rfl⟩ (fun hHeld => ?_)
        clear hK K
        refine norm_ (a' := ?_) ?_ ?_
        rotate_left
        ·show Act.put _ (some 22) _ = _
         simp only [Act.put,List.setIfInBounds_toArray,List.set_cons_zero,List.set_cons_succ,i64_w,i32_w]
         rfl
        refine one_ (i := 6) (N := some 25) #[true,true,true,true,true,true,true,false,true,true,true,true,false,false,false,false] rfl rfl (one_of HT_.out T17_) T46_ (fun K hK => ?_)
        refine gZ_ Try.func36 #[.agg #[.int .i64 a0_0,.int .i64 a0_1],.int .i64 x16_2] ?_
        with_reducible refine (impl_Table_at.calls a0_0 a0_1 x16_2 t106 _ A16.out).mono ?_
        rintro e w20 ⟨rfl,hb⟩
        refine ⟨_,rfl,?_⟩
        have n0_ := aZ_ (blk_below (g := gb101) (o := .cells #[.int .i64 a0_0,.int .i64 a0_1] 25 (0,0)) T1_ hb)
        have n1_ := aZ_ (below_step T3_ hb)
        clear BK101
        clear HB
        have BK101 := n0_
        have HB := n1_
        clear n0_ n1_
        (try clear hb)
        (try clear hb2)
        (try clear hk)
        (try clear hi)
        refine hK.out _ _ ⟨(blk_cell BK101.out 0).trans rfl,(blk_cell BK101.out 1).trans rfl⟩ (fun hHeld => ?_)
        clear hK K
        refine norm_ (a' := ?_) ?_ ?_
        rotate_left
        ·show Act.put _ (some 25) _ = _
         simp only [Act.put,List.setIfInBounds_toArray,List.set_cons_zero,List.set_cons_succ,i64_w,i32_w]
         rfl
        refine pZ_ 7 (some 26) #[true,true,true,true,true,true,true,true,true,true,true,true,false,false,false,false] ?_
        refine one_ (i := 12) (N := some 31) #[true,true,true,true,true,true,true,true,true,true,true,true,true,false,false,false] rfl rfl (one_of HT_.out T17_) T46_ (fun K hK => ?_)
        refine gZ_ Try.func36 #[.agg #[.int .i64 a0_0,.int .i64 a0_1],.int .i64 (Go.bits .xor .i64 x11_1 x16_2)] ?_
        with_reducible refine (impl_Table_at.calls a0_0 a0_1 (Go.bits .xor .i64 x11_1 x16_2) t107 _ A17.out).mono ?_
        rintro e w21 ⟨rfl,hb⟩
        refine ⟨_,rfl,?_⟩
        have n0_ := aZ_ (blk_below (g := gb101) (o := .cells #[.int .i64 a0_0,.int .i64 a0_1] 25 (0,0)) T1_ hb)
        have n1_ := aZ_ (below_step T3_ hb)
        clear BK101
        clear HB
        have BK101 := n0_
        have HB := n1_
        clear n0_ n1_
        (try clear hb)
        (try clear hb2)
        (try clear hk)
        (try clear hi)
        refine hK.out _ _ ⟨(blk_cell BK101.out 0).trans rfl,(blk_cell BK101.out 1).trans rfl⟩ (fun hHeld => ?_)
        clear hK K
        refine norm_ (a' := ?_) ?_ ?_
        rotate_left
        ·show Act.put _ (some 31) _ = _
         simp only [Act.put,List.setIfInBounds_toArray,List.set_cons_zero,List.set_cons_succ,i64_w,i32_w]
         rfl
        refine pZ_ 13 (some 32) #[true,true,true,true,true,true,true,true,true,true,true,true,true,true,false,false] ?_
        refine pZ_ 14 (some 33) #[true,true,true,true,true,true,true,true,true,true,true,true,true,true,true,false] ?_
        refine pZ_ 15 (some 3) #[true,true,true,true,true,true,true,true,true,true,true,true,true,true,true,true] ?_
        refine done_ (done_of HT_.out T17_) ?_
        try go_wp2
        go_roundg k2
        case measure => have := HK1.out;have := HK2.out;omega
        case rel => exact ⟨(wrap64 (x3_2 + (Go.bits .xor .i64 (Go.bits .xor .i64 t105 t106) t107))),(wrap64 (x16_2 + 1)),T7_,T7_,H',⟨by have := HK1.out;have := HK2.out;omega⟩,⟨by (with_reducible repeat (first | refine blk_drewN ?_ _ | refine blk_drew ?_ | refine blk_alloc ?_ _));exact BK101.out⟩,⟨by repeat (first | (with_reducible first | exact HB.out | apply below_alloc | apply pw_below_drewN | apply below_drew1 | refine below_set ?_ GE101.out) | exact HB.out)⟩⟩
       ·rw [if_neg c14] at H
        have c14b0 : decide (x16_2 < t104) = false := decide_eq_false c14
        clear c14
        have H' := aZ_ H
        clear H
        go_wp2
        go_roundg k2
        case measure => have := HK1.out;have := HK2.out;omega
        case rel => exact ⟨(x3_2),(wrap64 (x11_1 + 1)),T7_,T7_,H',⟨by have := HK1.out;have := HK2.out;omega⟩,⟨by (with_reducible repeat (first | refine blk_drewN ?_ _ | refine blk_drew ?_ | refine blk_alloc ?_ _));exact BK101.out⟩,⟨by repeat (first | (with_reducible first | exact HB.out | apply below_alloc | apply pw_below_drewN | apply below_drew1 | refine below_set ?_ GE101.out) | exact HB.out)⟩⟩
    ·rw [if_neg c10] at H
     have c10b0 : decide (x11_1 < t103) = false := decide_eq_false c10
     clear c10
     obtain rfl := Option.some.inj H
     go_wp2
     go_ret
     exact ⟨by first | rfl | (simp [errW_none,errW_some] <;> rfl) | (simp [*,errW_none,errW_some] <;> rfl),by repeat (first | (with_reducible first | exact HB.out | apply below_alloc | apply pw_below_drewN | apply below_drew1 | refine below_set ?_ GE101.out) | exact HB.out)⟩
 ·replace c3 := Bool.eq_false_iff.mpr c3
  subst c3
  have H1 : (some (-1)) = some r := by rw [if_neg (show ¬ (false = true) by decide)] at H;exact H
  clear H
  have H := H1
  clear H1
  obtain rfl := Option.some.inj H
  go_enter Try.func9,Try.ntmps9
  go_wp2_with (first | ((with_reducible refine gate_dst (N := 1) rfl ?_);refine box_event ?hg (N := 1) ?hd (cs := #[.int .i64 a0_0,.int .i64 a0_1]) (t := 25) ?hr ?_;(case hd => rfl);(case hg => rfl);(case hr => first | (go_simp;done) | (go_simp;rfl));intro gb101 hg w22 hbox hb;have n0_ := aZ_ (below_step T5_ hb);have n1_ := aZ_ (hbox);have n2_ := aZ_ ((T2_ : w.heap.size ≤ gb101));have n3_ := aZ_ ((T2_ : w.heap.size ≤ gb101));clear HB;have HB := n0_;have BK101 := n1_;have GW101 := n2_;have GE101 := n3_;clear n0_ n1_ n2_ n3_;clear hb hbox hg;have hcz23_0 : w22.cell? ⟨gb101,0,none⟩ = some (.int .i64 a0_0) := (blk_cell BK101.out 0).trans rfl;have hcz23_1 : w22.cell? ⟨gb101,1,none⟩ = some (.int .i64 a0_1) := (blk_cell BK101.out 1).trans rfl;have hfz23_0 := blk_frozen BK101.out 0;have hfz23_1 := blk_frozen BK101.out 1) | ((with_reducible refine gate_callee (f := 34) rfl ?_);refine goesL_ (some 7) rfl rfl Try.func34 T17_ rfl #[.agg #[.int .i64 a0_0,.int .i64 a0_1]] rfl T4_ ?_;(with_reducible refine (impl_IsTable.calls a0_0 a0_1 false _ A2.out).mono ?_);rintro e w24 ⟨rfl,hb⟩;refine ⟨_,rfl,?_⟩;have n0_ := aZ_ (blk_below (g := gb101) (o := .cells #[.int .i64 a0_0,.int .i64 a0_1] 25 (0,0)) T1_ hb);have n1_ := aZ_ (below_step T3_ hb);clear BK101;clear HB;have BK101 := n0_;have HB := n1_;clear n0_ n1_;(try clear hb);(try clear hb2);(try clear hk);(try clear hi)))
  go_ret
  exact ⟨by first | rfl | (simp [errW_none,errW_some] <;> rfl) | (simp [*,errW_none,errW_some] <;> rfl),by repeat (first | (with_reducible first | exact HB.out | apply below_alloc | apply pw_below_drewN | apply below_drew1 | refine below_set ?_ GE101.out) | exact HB.out)⟩
def impl_Table_anf.x (w m : Nat) : Nat → Bool
 | 0 => false
 | x + 1 => impl_Table_anf.x w m x ^^ (B.ldiff x m == 0 && w.testBit x)
def impl_Table_anf.p (n w m : Nat) : Bool := impl_Table_anf.x w m (2 ^ n)
theorem anf_at {n w x : Nat} (hw : w < 9223372036854775808) (hx : x ≤ 64) : impl_Table_at.f n w x = some ((B.bitN w x : Nat) : Int) := by
 unfold impl_Table_at.f
 rw [if_pos (by omega),B.bit_cast hw hx]
theorem xor_bool (a b : Bool) : Go.bits .xor .i64 ((a.toNat : Nat) : Int) ((b.toNat : Nat) : Int) = (((a ^^ b).toNat : Nat) : Int) := by
 rw [B.xor_cast (by cases a <;> decide) (by cases b <;> decide)]
 cases a <;> cases b <;> rfl
set_option maxHeartbeats 2000000 in
set_option maxRecDepth 100000 in
theorem impl_Table_anf_1.any (n v m : Nat) (hn : n ≤ 5) (hv : v < 9223372036854775808) (hm : m < 32) (g1 : Nat) (w : World) (h1 : w.heap[g1]? = some (.cells #[.int .i64 n,.int .i64 v] 25 (0,0))) :
  Gives Try.prog 60 #[.pointer (some ⟨g1,0,none⟩)] #[.int .i64 m] (.bool (impl_Table_anf.p n v m)) w := by
 show Calls Try.prog 60 #[.int .i64 m,.pointer (some ⟨g1,0,none⟩)] w _
 have hu := Try.underlying25
 have hc0 : w.cell? ⟨g1,0,none⟩ = some (.int .i64 n) := (blk_cell h1 0).trans rfl
 have hc1 : w.cell? ⟨g1,1,none⟩ = some (.int .i64 v) := (blk_cell h1 1).trans rfl
 unfold impl_Table_anf.p
 obtain ⟨M,hM⟩ : ∃ M : Nat,M = 2 ^ n := ⟨_,rfl⟩
 have hM32 : M ≤ 32 := by rw [hM];exact B.pow_le hn
 have HSZ : Aside0 (impl_Table_size.f (n : Int) (v : Int) = some (M : Int)) := ⟨by unfold impl_Table_size.f;rw [if_pos (by omega),B.shl1_of (by omega),hM]⟩
 rw [← hM]
 have HV := aZ_ hv
 have HB1 := aZ_ h1
 clear hM hv hn h1
 go_enter Try.func60,Try.ntmps60
 go_wp2_with (go_at_call 35;refine (impl_Table_size.calls n v M _ HSZ.out).mono ?_;rintro e w2 ⟨rfl,hb⟩;have BK := aZ_ (blk_below HB1.out hb);have HB := aZ_ (below_step (Below.refl w.heap.size w) hb);clear hb hc0 hc1)
 go_loopg [4,8] M (fun gg v4 v8 wr => ∃ x : Nat,x ≤ M ∧ M - x ≤ gg ∧ v4 = .int .i64 (((impl_Table_anf.x v m x).toNat : Nat) : Int) ∧ v8 = .int .i64 x ∧ Aside0 (wr.heap[g1]? = some (.cells #[.int .i64 n,.int .i64 v] 25 (0,0))) ∧ Aside0 (Below w.heap.size w wr))
 case atStart => exact ⟨0,Nat.zero_le _,by omega,rfl,rfl,BK,HB⟩
 case round =>
  clear BK HB
  obtain ⟨x,hx,hg,rfl,rfl,BK,HB⟩ := hrel
  by_cases hlt : x < M
  ·have hltz : (x : Int) < (M : Int) := by omega
   have hc0 : wr.cell? ⟨g1,0,none⟩ = some (.int .i64 n) := (blk_cell BK.out 0).trans rfl
   have hc1 : wr.cell? ⟨g1,1,none⟩ = some (.int .i64 v) := (blk_cell BK.out 1).trans rfl
   have hand : Go.bits .andNot .i64 (x : Int) (m : Int) = ((B.ldiff x m : Nat) : Int) := B.andNot_cast (by omega) (by omega)
   have HAT := aZ_ (anf_at (n := n) (w := v) (x := x) HV.out (by omega))
   have HSX : Aside0 (impl_Table_anf.x v m (x + 1) = (impl_Table_anf.x v m x ^^ (B.ldiff x m == 0 && v.testBit x))) := ⟨rfl⟩
   have HX := aZ_ (And.intro hx (And.intro hg (And.intro hlt hM32)))
   by_cases hc : B.ldiff x m = 0
   ·rw [beq_iff_eq.mpr hc,Bool.true_and] at HSX
    have hcz1 : (((B.ldiff x m : Nat) : Int) == 0) = true := by rw [hc];rfl
    have hcz2 : decide (((B.ldiff x m : Nat) : Int) = 0) = true := decide_eq_true (by rw [hc];rfl)
    have hxr := xor_bool (impl_Table_anf.x v m x) (v.testBit x)
    have HAT : Aside0 (impl_Table_at.f (n : Int) (v : Int) (x : Int) = some (((v.testBit x).toNat : Nat) : Int)) := HAT
    rw [← HSX.out] at hxr
    generalize B.ldiff x m = xm at hand hcz1 hcz2
    generalize hsx : impl_Table_anf.x v m x = sx at hxr ⊢
    generalize hwx : v.testBit x = wx at hxr HAT
    clear hc hx hg hlt hM32 HSX hsx hwx
    go_wp2_with (go_at_call 36;refine (impl_Table_at.calls n v x _ _ HAT.out).mono ?_;rintro e w' ⟨rfl,hb'⟩;have BK' := aZ_ (blk_below BK.out hb');have HB' := aZ_ (below_step HB.out hb');clear hb')
    go_roundg (M - (x + 1))
    case measure => have := HX.out;omega
    case rel => exact ⟨x + 1,by have := HX.out;omega,by omega,rfl,(by have hx_ := HX.out;have e_ : wrap64 ((x : Int) + 1) = ((x + 1 : Nat) : Int) := B.wrap64_succ (by omega);first | (rw [e_];done) | (simp only [i64_w];rw [e_];done) | go_num),BK',HB'⟩
   ·rw [beq_eq_false_iff_ne.mpr hc,Bool.false_and,Bool.xor_false] at HSX
    have hcz1 : (((B.ldiff x m : Nat) : Int) == 0) = false := beq_eq_false_iff_ne.mpr (by omega)
    have hcz2 : decide (((B.ldiff x m : Nat) : Int) = 0) = false := decide_eq_false (by omega)
    generalize B.ldiff x m = xm at hand hcz1 hcz2 hc
    clear hc hx hg hlt hM32
    go_wp2
    go_roundg (M - (x + 1))
    case measure => have := HX.out;omega
    case rel => exact ⟨x + 1,by have := HX.out;omega,by omega,by rw [HSX.out],(by have hx_ := HX.out;have e_ : wrap64 ((x : Int) + 1) = ((x + 1 : Nat) : Int) := B.wrap64_succ (by omega);first | (rw [e_];done) | (simp only [i64_w];rw [e_];done) | go_num),BK,HB⟩
  ·have hltz : ¬ (x : Int) < (M : Int) := by omega
   obtain rfl : x = M := by omega
   obtain ⟨s0,e0⟩ : ∃ s0,impl_Table_anf.x v m x = s0 := ⟨_,rfl⟩
   have E0 := aZ_ e0
   rw [e0]
   clear e0 hx hg hlt
   cases s0
   all_goals
    go_wp2
    go_ret
    exact ⟨by rw [E0.out];rfl,HB.out⟩
set_option maxHeartbeats 400000 in
set_option maxRecDepth 100000 in
theorem impl_Table_anf.any (n v : Nat) (hn : n ≤ 5) (hv : v < 9223372036854775808) (w : World) :
  Calls Try.prog 37 #[.agg #[.int .i64 n,.int .i64 v]] w fun e w' => e = .returned (.agg #[.int .i64 n,.int .i64 (B.tabN (impl_Table_anf.p n v) (2 ^ n) : Nat)]) ∧ Below w.heap.size w w' := by
 have hu := Try.underlying25
 have HN := aZ_ hn
 have HV := aZ_ hv
 clear hn hv
 have EG := aZ_ (enters_of Try.func60 T17_ rfl)
 go_enter Try.func37,Try.ntmps37
 go_wp2_with (go_at_call 59;refine (impl_makeTable.any n HN.out (impl_Table_anf.p n v) 60 #[.pointer (some ⟨w.heap.size,0,none⟩)] EG.out _ (fun W x hx hb => impl_Table_anf_1.any n v x HN.out HV.out (Nat.lt_of_lt_of_le hx (B.pow_le HN.out)) _ W (blk_below (blk_alloc (blk_new w _) _) hb))).mono ?_;rintro e w' ⟨rfl,hb⟩;have BK : Aside0 (w'.heap[w.heap.size + 1]? = some (.cells #[.int .i64 0,.int .i64 0] 25 (0,0))) := ⟨by have h_ := blk_below (blk_new _ _) hb;simpa using h_⟩;have HB := aZ_ (below_step (below_alloc (below_alloc (Below.refl w.heap.size w) _) _) hb);clear hb;have hc0 : w'.cell? ⟨w.heap.size + 1,0,none⟩ = some (.int .i64 0) := (blk_cell BK.out 0).trans rfl;have hc1 : w'.cell? ⟨w.heap.size + 1,1,none⟩ = some (.int .i64 0) := (blk_cell BK.out 1).trans rfl;have hf0 : w'.frozen? ⟨w.heap.size + 1,0,none⟩ = false := blk_frozen BK.out 0;have hf1 : w'.frozen? ⟨w.heap.size + 1,1,none⟩ = false := blk_frozen BK.out 1)
 refine bodyPost_ret (results_cell_row rfl _ _ (w.heap.size + 1) 25 #[.int .i64 n,.int .i64 (B.tabN (impl_Table_anf.p n v) (2 ^ n) : Nat)] (0,0) _ rfl T49_ Try.underlying25 rfl T17_) rfl ?_
 exact ⟨rfl,below_set (below_set HB.out (by omega)) (by omega)⟩
set_option maxHeartbeats 400000 in
theorem impl_DegreeMod2_1.any (n w x : Nat) (hw : w < 9223372036854775808) (hx : x < 32) (g1 : Nat) (W : World) (h1 : W.heap[g1]? = some (.cells #[.int .i64 n,.int .i64 w] 25 (0,0))) :
  Gives Try.prog 39 #[.pointer (some ⟨g1,0,none⟩)] #[.int .i64 x] (.bool (w.testBit x)) W := by
 show Calls Try.prog 39 #[.int .i64 x,.pointer (some ⟨g1,0,none⟩)] W _
 have hu := Try.underlying25
 have hc0 : W.cell? ⟨g1,0,none⟩ = some (.int .i64 n) := (blk_cell h1 0).trans rfl
 have hc1 : W.cell? ⟨g1,1,none⟩ = some (.int .i64 w) := (blk_cell h1 1).trans rfl
 have A := aZ_ (anf_at (n := n) hw (show x ≤ 64 by omega))
 have hq : (((B.bitN w x : Nat) : Int) == 1) = w.testBit x := by unfold B.bitN;cases w.testBit x <;> rfl
 clear h1 hx hw
 go_enter Try.func39,Try.ntmps39
 go_wp2_with (go_at_call 36;refine (impl_Table_at.calls n w x _ _ A.out).mono ?_;rintro e w' ⟨rfl,hb⟩)
 go_ret
 exact ⟨rfl,hb⟩
def impl_degree.v (p : Nat → Bool) (c : Nat → Int) : Nat → Int
 | 0 => -1
 | x + 1 => if p x = true then max (impl_degree.v p c x) (c x) else impl_degree.v p c x
set_option maxHeartbeats 2000000 in
set_option maxRecDepth 100000 in
theorem impl_degree.any (n : Nat) (hn : n ≤ 5) (p : Nat → Bool) (c : Nat → Int) (ho : ∀ x : Nat,x < 2 ^ n → impl_ones.f (x : Int) = some (c x)) (g : Nat) (lb : Array Value) (eg : ∀ args w,(callFunc g args).run Try.prog w = .ok (.enter g args) w) (w : World)
  (hp : ∀ (W : World) (x : Nat),x < 2 ^ n → Below w.heap.size w W → Gives Try.prog g lb #[.int .i64 x] (.bool (p x)) W) :
  Calls Try.prog 38 #[.int .i64 n,.func (.func g) #[] lb] w fun e w' => e = .returned (.int .i64 (impl_degree.v p c (2 ^ n))) ∧ Below w.heap.size w w' := by
 have HP := aZ_ hp
 have HO := aZ_ ho
 clear hp ho
 have h63 : (n : Int) ≤ 64 := by omega
 have h0 : (0 : Int) ≤ n := by omega
 obtain ⟨M,hM⟩ : ∃ M : Nat,M = 2 ^ n := ⟨_,rfl⟩
 have hM32 : M ≤ 32 := by rw [hM];exact B.pow_le hn
 have hwr : wrap64 (2 ^ n) = (M : Int) := by rw [show (2 : Int) ^ n = (M : Int) by rw [hM];simp];exact B.wrap64_of (by omega) (by omega)
 have HM := aZ_ hM
 rw [← hM]
 clear hn hM
 go_enter Try.func38,Try.ntmps38
 go_wp2
 try rw [hwr]
 go_loopg [5,9] M (fun gg v5 v9 wr => ∃ x : Nat,x ≤ M ∧ M - x ≤ gg ∧ v5 = .int .i64 (impl_degree.v p c x) ∧ v9 = .int .i64 x ∧ Aside0 (Below w.heap.size w wr))
 case atStart => exact ⟨0,Nat.zero_le _,by omega,rfl,rfl,⟨Below.refl _ _⟩⟩
 case round =>
  obtain ⟨x,hx,hg,rfl,rfl,HB⟩ := hrel
  by_cases hlt : x < M
  ·have hltz : (x : Int) < (M : Int) := by omega
   have hcall := HP.out wr x (by rw [← HM.out];exact hlt) HB.out
   have HOX := aZ_ (HO.out x (by rw [← HM.out];exact hlt))
   unfold Gives at hcall
   have HX := aZ_ (And.intro hx (And.intro hg (And.intro hlt hM32)))
   have HS : Aside0 (impl_degree.v p c (x + 1) = if p x = true then max (impl_degree.v p c x) (c x) else impl_degree.v p c x) := ⟨rfl⟩
   generalize impl_degree.v p c x = sx at HS ⊢
   clear hx hg hlt hM32
   cases hq : p x with
   | true =>
    rw [hq] at hcall HS
    rw [if_pos rfl] at HS
    clear hq
    go_wp2_with (first | (go_at_fn g;refine hcall.mono ?_;rintro e w' ⟨rfl,hb'⟩;have HB' := aZ_ (below_step HB.out hb');clear hb') | (go_at_call 41;refine (impl_ones.calls (x : Int) (c x) _ HOX.out).mono ?_;rintro e w'' ⟨rfl,⟨nd,rfl⟩⟩))
    all_goals
     go_roundg (M - (x + 1))
     case measure => have := HX.out;omega
     case rel => exact ⟨x + 1,by have := HX.out;omega,by omega,congrArg (Value.int .i64) (by rw [HS.out];omega),(by have hx_ := HX.out;have e_ : wrap64 ((x : Int) + 1) = ((x + 1 : Nat) : Int) := B.wrap64_succ (by omega);first | (rw [e_];done) | (simp only [i64_w];rw [e_];done) | go_num),⟨pw_below_drewN HB'.out _⟩⟩
   | false =>
    rw [hq] at hcall HS
    rw [if_neg T46_] at HS
    clear hq
    go_wp2_with (go_at_fn g;refine hcall.mono ?_;rintro e w' ⟨rfl,hb'⟩;have HB' := aZ_ (below_step HB.out hb');clear hb')
    go_roundg (M - (x + 1))
    case measure => have := HX.out;omega
    case rel => exact ⟨x + 1,by have := HX.out;omega,by omega,by rw [HS.out],(by have hx_ := HX.out;have e_ : wrap64 ((x : Int) + 1) = ((x + 1 : Nat) : Int) := B.wrap64_succ (by omega);first | (rw [e_];done) | (simp only [i64_w];rw [e_];done) | go_num),HB'⟩
  ·have hltz : ¬ (x : Int) < (M : Int) := by omega
   obtain rfl : x = M := by omega
   go_wp2
   go_ret
   exact ⟨rfl,HB.out⟩
def impl_DegreeMod2.c (x : Nat) : Int := ((B.cntN (fun i => x.testBit i) 5 : Nat) : Int)
def impl_DegreeMod2.okx (x : Nat) : Bool := (impl_ones.f ((x : Nat) : Int)).any fun v => decide (v = impl_DegreeMod2.c x)
theorem impl_DegreeMod2.okx_of {x : Nat} (h : impl_DegreeMod2.okx x = true) : impl_ones.f (x : Int) = some (impl_DegreeMod2.c x) := by
 unfold impl_DegreeMod2.okx at h
 generalize impl_ones.f ((x : Nat) : Int) = o at h ⊢
 cases o with
 | none => cases h
 | some v => rw [of_decide_eq_true h]
def impl_DegreeMod2.f (a0_0 a0_1 : Int) : Option Int :=
 (impl_IsTable.f a0_0 a0_1).bind fun t => if t = true then (if (0 ≤ a0_0 ∧ a0_0 ≤ 5 ∧ 0 ≤ a0_1 ∧ a0_1 < 4294967296) ∧ B.allN impl_DegreeMod2.okx (2 ^ a0_0.toNat) = true then some (impl_degree.v (fun x => (B.tabN (impl_Table_anf.p a0_0.toNat a0_1.toNat) (2 ^ a0_0.toNat)).testBit x) impl_DegreeMod2.c (2 ^ a0_0.toNat)) else none) else some (-2)
set_option maxHeartbeats 2000000 in
set_option maxRecDepth 100000 in
theorem impl_DegreeMod2.calls (a0_0 a0_1 r : Int) (w : World) (h : impl_DegreeMod2.f a0_0 a0_1 = some r) :
  Calls Try.prog 10 #[.agg #[.int .i64 a0_0,.int .i64 a0_1]] w fun e w' => e = .returned (.int .i64 r) ∧ Below w.heap.size w w' := by
 have hu := Try.underlying25
 unfold impl_DegreeMod2.f at h
 obtain ⟨t,ht,h⟩ := Option.bind_eq_some_iff.mp h
 have HT := aZ_ ht
 clear ht
 cases t with
 | false =>
  rw [if_neg T46_] at h
  cases h
  go_enter Try.func10,Try.ntmps10
  go_wp2_with (go_at_call 34;refine (impl_IsTable.calls a0_0 a0_1 false _ HT.out).mono ?_;rintro e w1 ⟨rfl,hb⟩;have HB := aZ_ (below_step (below_alloc (Below.refl w.heap.size w) _) hb);clear hb)
  go_ret
  exact ⟨rfl,HB.out⟩
 | true =>
  rw [if_pos rfl] at h
  split at h
  next hc =>
   obtain ⟨n,rfl⟩ := Int.eq_ofNat_of_zero_le hc.1.1
   obtain ⟨v,rfl⟩ := Int.eq_ofNat_of_zero_le hc.1.2.2.1
   simp only [Int.toNat_natCast] at h hc
   have HC := aZ_ hc.1
   have HOK := aZ_ (fun (x : Nat) (hx : x < 2 ^ n) => impl_DegreeMod2.okx_of (B.allN_iff.mp hc.2 x hx))
   obtain ⟨u,hu_⟩ : ∃ u : Nat,u = B.tabN (impl_Table_anf.p n v) (2 ^ n) := ⟨_,rfl⟩
   have HU := aZ_ hu_
   have hul : u < 4294967296 := by rw [hu_];exact Nat.lt_of_lt_of_le (B.tabN_lt _ _) (B.full_le (by omega))
   rw [← hu_] at h
   obtain rfl := Option.some.inj h
   have HAN := impl_Table_anf.any n v (by omega) (by omega)
   rw [← hu_] at HAN
   have HA := aZ_ HAN
   have HUL := aZ_ hul
   clear hc h hu_ hul HAN
   have EG := aZ_ (enters_of Try.func39 T17_ rfl)
   go_enter Try.func10,Try.ntmps10
   go_upto_region 4 with (first | (go_at_call 34;refine (impl_IsTable.calls n v true _ HT.out).mono ?_;rintro e w1 ⟨rfl,hb⟩;have BK := aZ_ (blk_below (blk_new w (.cells #[.int .i64 n,.int .i64 v] 25 (0,0))) hb);have HB := aZ_ (below_step (below_alloc (Below.refl w.heap.size w) _) hb);clear hb;have hc0 : w1.cell? ⟨w.heap.size,0,none⟩ = some (.int .i64 n) := (blk_cell BK.out 0).trans rfl;have hc1 : w1.cell? ⟨w.heap.size,1,none⟩ = some (.int .i64 v) := (blk_cell BK.out 1).trans rfl) | (go_at_call 37;refine (HA.out _).mono ?_;rintro e w2 ⟨rfl,hb⟩;have n0_ := aZ_ (blk_below BK.out hb);have n1_ := aZ_ (below_step HB.out hb);clear BK HB hc0 hc1 hb;have BK := n0_;have HB := n1_;clear n0_ n1_))
   have BG := aZ_ (blk_new w2 (.cells #[.int .i64 n,.int .i64 u] 25 (0,0)))
   have hb := below_alloc (Below.refl w2.heap.size w2) (.cells #[.int .i64 n,.int .i64 u] 25 (0,0))
   have n0_ := aZ_ (blk_below BK.out hb)
   have n1_ := aZ_ (below_step HB.out hb)
   clear BK HB hb
   have BK := n0_
   have HB := n1_
   clear n0_ n1_
   obtain ⟨gf,hgf_⟩ : ∃ gf,gf = w2.heap.size := ⟨_,rfl⟩
   rw [← hgf_] at BG ⊢
   clear hgf_
   generalize w2.alloc (.cells #[.int .i64 n,.int .i64 u] 25 (0,0)) = w3 at BK HB BG ⊢
   have hc0 : w3.cell? ⟨w.heap.size,0,none⟩ = some (.int .i64 n) := (blk_cell BK.out 0).trans rfl
   have hc1 : w3.cell? ⟨w.heap.size,1,none⟩ = some (.int .i64 v) := (blk_cell BK.out 1).trans rfl
   go_wp2_with (go_at_call 38;refine (impl_degree.any n (by have := HC.out;omega) (fun x => u.testBit x) impl_DegreeMod2.c HOK.out 39 #[.pointer (some ⟨gf,0,none⟩)] EG.out _ (fun W x hx hb => impl_DegreeMod2_1.any n u x (by have := HUL.out;omega) (Nat.lt_of_lt_of_le hx (B.pow_le (by have := HC.out;omega))) gf W (blk_below BG.out hb))).mono ?_;rintro e w4 ⟨rfl,hb⟩;have HB' := aZ_ (below_step HB.out hb);clear hb)
   go_ret
   exact ⟨rfl,HB'.out⟩
  next => cases h
def impl_ValueAt.f (a0_0 : Int) (a0_1 : Int) (a1 : Int) : Option (Int) := (impl_hasInput.f a0_0 a0_1 a1).bind fun t102 => (if t102 = true then ((impl_Table_at.f a0_0 a0_1 a1).bind fun t103 => (some t103)) else (some (-1)))
set_option maxHeartbeats 8000000 in
set_option maxRecDepth 100000 in
theorem impl_ValueAt.calls (a0_0 : Int) (a0_1 : Int) (a1 : Int) (r : Int) (w : World) (h : impl_ValueAt.f a0_0 a0_1 a1 = some r) :
  Calls Try.prog 11 #[.agg #[.int .i64 a0_0,.int .i64 a0_1],.int .i64 a1] w fun e w' => e = .returned (.int .i64 r) ∧ Below w.heap.size w w' := by
 have hu25 := Try.underlying25
 have HB := aZ_ (Below.refl w.heap.size w)
 have H : ((impl_hasInput.f a0_0 a0_1 a1).bind fun t102 => (if t102 = true then ((impl_Table_at.f a0_0 a0_1 a1).bind fun t103 => (some t103)) else (some (-1)))) = some r := h
 clear h
 replace H := Option.bind_eq_some_iff.mp H
 obtain ⟨t102,A30,H⟩ := H
 replace H : (if t102 = true then ((impl_Table_at.f a0_0 a0_1 a1).bind fun t103 => (some t103)) else (some (-1))) = some r := H
 have A3 := aZ_ A30
 clear A30
 by_cases c4 : t102 = true
 ·subst c4
  have H1 : ((impl_Table_at.f a0_0 a0_1 a1).bind fun t103 => (some t103)) = some r := by rw [if_pos rfl] at H;exact H
  clear H
  have H := H1
  clear H1
  replace H := Option.bind_eq_some_iff.mp H
  obtain ⟨t103,A50,H⟩ := H
  replace H : (some t103) = some r := H
  have A5 := aZ_ A50
  clear A50
  obtain rfl := Option.some.inj H
  go_enter Try.func11,Try.ntmps11
  go_wp2_with (first | ((with_reducible refine gate_dst (N := 2) rfl ?_);refine box_event ?hg (N := 2) ?hd (cs := #[.int .i64 a0_0,.int .i64 a0_1]) (t := 25) ?hr ?_;(case hd => rfl);(case hg => rfl);(case hr => first | (go_simp;done) | (go_simp;rfl));intro gb101 hg w6 hbox hb;have n0_ := aZ_ (below_step T5_ hb);have n1_ := aZ_ (hbox);have n2_ := aZ_ ((T2_ : w.heap.size ≤ gb101));have n3_ := aZ_ ((T2_ : w.heap.size ≤ gb101));clear HB;have HB := n0_;have BK101 := n1_;have GW101 := n2_;have GE101 := n3_;clear n0_ n1_ n2_ n3_;clear hb hbox hg;have hcz7_0 : w6.cell? ⟨gb101,0,none⟩ = some (.int .i64 a0_0) := (blk_cell BK101.out 0).trans rfl;have hcz7_1 : w6.cell? ⟨gb101,1,none⟩ = some (.int .i64 a0_1) := (blk_cell BK101.out 1).trans rfl;have hfz7_0 := blk_frozen BK101.out 0;have hfz7_1 := blk_frozen BK101.out 1) | ((with_reducible refine gate_callee (f := 40) rfl ?_);refine goesL_ (some 7) rfl rfl Try.func40 T17_ rfl #[.agg #[.int .i64 a0_0,.int .i64 a0_1],.int .i64 a1] rfl T4_ ?_;(with_reducible refine (impl_hasInput.calls a0_0 a0_1 a1 true _ A3.out).mono ?_);rintro e w8 ⟨rfl,hb⟩;refine ⟨_,rfl,?_⟩;have n0_ := aZ_ (blk_below (g := gb101) (o := .cells #[.int .i64 a0_0,.int .i64 a0_1] 25 (0,0)) T1_ hb);have n1_ := aZ_ (below_step T3_ hb);clear BK101;clear HB;have BK101 := n0_;have HB := n1_;clear n0_ n1_;(try clear hb);(try clear hb2);(try clear hk);(try clear hi);have hcz9_0 : w8.cell? ⟨gb101,0,none⟩ = some (.int .i64 a0_0) := (blk_cell BK101.out 0).trans rfl;have hcz9_1 : w8.cell? ⟨gb101,1,none⟩ = some (.int .i64 a0_1) := (blk_cell BK101.out 1).trans rfl;have hfz9_0 := blk_frozen BK101.out 0;have hfz9_1 := blk_frozen BK101.out 1) | ((with_reducible refine gate_callee (f := 36) rfl ?_);refine goesL_ (some 11) rfl rfl Try.func36 T17_ rfl #[.agg #[.int .i64 a0_0,.int .i64 a0_1],.int .i64 a1] rfl T4_ ?_;(with_reducible refine (impl_Table_at.calls a0_0 a0_1 a1 t103 _ A5.out).mono ?_);rintro e w10 ⟨rfl,hb⟩;refine ⟨_,rfl,?_⟩;have n0_ := aZ_ (blk_below (g := gb101) (o := .cells #[.int .i64 a0_0,.int .i64 a0_1] 25 (0,0)) T1_ hb);have n1_ := aZ_ (below_step T3_ hb);clear BK101;clear HB;have BK101 := n0_;have HB := n1_;clear n0_ n1_;(try clear hb);(try clear hb2);(try clear hk);(try clear hi)))
  go_ret
  exact ⟨by first | rfl | (simp [errW_none,errW_some] <;> rfl) | (simp [*,errW_none,errW_some] <;> rfl),by repeat (first | (with_reducible first | exact HB.out | apply below_alloc | apply pw_below_drewN | apply below_drew1 | refine below_set ?_ GE101.out) | exact HB.out)⟩
 ·replace c4 := Bool.eq_false_iff.mpr c4
  subst c4
  have H1 : (some (-1)) = some r := by rw [if_neg (show ¬ (false = true) by decide)] at H;exact H
  clear H
  have H := H1
  clear H1
  obtain rfl := Option.some.inj H
  go_enter Try.func11,Try.ntmps11
  go_wp2_with (first | ((with_reducible refine gate_dst (N := 2) rfl ?_);refine box_event ?hg (N := 2) ?hd (cs := #[.int .i64 a0_0,.int .i64 a0_1]) (t := 25) ?hr ?_;(case hd => rfl);(case hg => rfl);(case hr => first | (go_simp;done) | (go_simp;rfl));intro gb101 hg w11 hbox hb;have n0_ := aZ_ (below_step T5_ hb);have n1_ := aZ_ (hbox);have n2_ := aZ_ ((T2_ : w.heap.size ≤ gb101));have n3_ := aZ_ ((T2_ : w.heap.size ≤ gb101));clear HB;have HB := n0_;have BK101 := n1_;have GW101 := n2_;have GE101 := n3_;clear n0_ n1_ n2_ n3_;clear hb hbox hg;have hcz12_0 : w11.cell? ⟨gb101,0,none⟩ = some (.int .i64 a0_0) := (blk_cell BK101.out 0).trans rfl;have hcz12_1 : w11.cell? ⟨gb101,1,none⟩ = some (.int .i64 a0_1) := (blk_cell BK101.out 1).trans rfl;have hfz12_0 := blk_frozen BK101.out 0;have hfz12_1 := blk_frozen BK101.out 1) | ((with_reducible refine gate_callee (f := 40) rfl ?_);refine goesL_ (some 7) rfl rfl Try.func40 T17_ rfl #[.agg #[.int .i64 a0_0,.int .i64 a0_1],.int .i64 a1] rfl T4_ ?_;(with_reducible refine (impl_hasInput.calls a0_0 a0_1 a1 false _ A3.out).mono ?_);rintro e w13 ⟨rfl,hb⟩;refine ⟨_,rfl,?_⟩;have n0_ := aZ_ (blk_below (g := gb101) (o := .cells #[.int .i64 a0_0,.int .i64 a0_1] 25 (0,0)) T1_ hb);have n1_ := aZ_ (below_step T3_ hb);clear BK101;clear HB;have BK101 := n0_;have HB := n1_;clear n0_ n1_;(try clear hb);(try clear hb2);(try clear hk);(try clear hi)))
  go_ret
  exact ⟨by first | rfl | (simp [errW_none,errW_some] <;> rfl) | (simp [*,errW_none,errW_some] <;> rfl),by repeat (first | (with_reducible first | exact HB.out | apply below_alloc | apply pw_below_drewN | apply below_drew1 | refine below_set ?_ GE101.out) | exact HB.out)⟩
def spec_DrawNearestAffine.f (k : Nat) (l0 : List Int) : Option (Int × Int) := (spec_l1New.f k l0).bind fun bt102 => ((spec_l2Any.f k bt102.1 bt102.2.1 bt102.2.2).bind fun bt106 => (some (bt106.1,bt106.2.1)))
set_option maxHeartbeats 8000000 in
set_option maxRecDepth 100000 in
theorem spec_DrawNearestAffine.calls (k : Nat) (A0 : Option Addr) (c0 : Nat) (l0 : List Int) (r1 : Int) (r2 : Int) (w : World) (hr0 : Kd.C (Kd.int .u8) w A0 l0.length l0) (hc0 : l0.length ≤ c0) (h : spec_DrawNearestAffine.f k l0 = some (r1,r2)) :
  Calls Try.prog 12 #[.slice A0 l0.length c0] w fun e w' => e = .returned (.agg #[.int .i64 r1,.int .i64 r2]) ∧ Below w.heap.size w w' := by
 have hu25 := Try.underlying25
 have HR0 := aZ_ hr0
 have HC0 := aZ_ hc0
 clear hr0 hc0
 have HB := aZ_ (Below.refl w.heap.size w)
 have H : ((spec_l1New.f k l0).bind fun bt102 => ((spec_l2Any.f k bt102.1 bt102.2.1 bt102.2.2).bind fun bt106 => (some (bt106.1,bt106.2.1)))) = some (r1,r2) := h
 clear h
 replace H := Option.bind_eq_some_iff.mp H
 obtain ⟨⟨t102,t103,t104⟩,A20,H⟩ := H
 replace H : ((spec_l2Any.f k t102 t103 t104).bind fun bt106 => (some (bt106.1,bt106.2.1))) = some (r1,r2) := H
 have A2 := aZ_ A20
 clear A20
 replace H := Option.bind_eq_some_iff.mp H
 obtain ⟨⟨t106,t107,t108,t109⟩,A30,H⟩ := H
 replace H : (some (t106,t107)) = some (r1,r2) := H
 have A3 := aZ_ A30
 clear A30
 simp only [Option.some.injEq,Prod.mk.injEq] at H
 obtain ⟨rfl,rfl⟩ := H
 go_enter Try.func12,Try.ntmps12
 go_wp2_with (first | ((with_reducible refine gate_dst (N := 2) rfl ?_);refine box_event ?hg (N := 2) ?hd (cs := #[.int .i64 0,.int .i64 0]) (t := 25) ?hr ?_;(case hd => rfl);(case hg => rfl);(case hr => first | (go_simp;done) | (go_simp;rfl));intro gb101 hg w4 hbox hb;have n0_ := aZ_ (below_step T5_ hb);have n1_ := aZ_ (hbox);have n2_ := aZ_ ((T2_ : w.heap.size ≤ gb101));have n3_ := aZ_ ((T2_ : w.heap.size ≤ gb101));clear HB;have HB := n0_;have BK101 := n1_;have GW101 := n2_;have GE101 := n3_;clear n0_ n1_ n2_ n3_;clear hb hbox hg) | ((with_reducible refine gate_callee (f := 29) rfl ?_);refine goesL_ (some 4) rfl rfl Try.func29 T17_ rfl #[.slice A0 l0.length c0] rfl T4_ ?_;(with_reducible refine (spec_l1New.calls k _ _ l0 t102 t103 t104 w _ ?side1 ?side2 ?side3 A2.out).mono ?_);(case side1 => repeat (first | (with_reducible first | exact HB.out | apply below_alloc | apply pw_below_drewN | apply below_drew1 | refine below_set ?_ GE101.out) | exact HB.out));(case side2 => exact HR0.out);(case side3 => exact HC0.out);rintro e w5 ⟨g105,rfl,hi,hb,hb2⟩;refine ⟨_,rfl,?_⟩;have n0_ := aZ_ (blk_below (g := gb101) (o := .cells #[.int .i64 0,.int .i64 0] 25 (0,0)) T1_ hb2);have n1_ := aZ_ (hb);have n2_ := aZ_ (hi);have n3_ := aZ_ (IsS64.ne_blk hi (blk_below (g := gb101) (o := .cells #[.int .i64 0,.int .i64 0] 25 (0,0)) T1_ hb2) T46_);have n4_ := aZ_ (Ne.symm (IsS64.ne_blk hi (blk_below (g := gb101) (o := .cells #[.int .i64 0,.int .i64 0] 25 (0,0)) T1_ hb2) T46_));clear BK101;clear HB;have BK101 := n0_;have HB := n1_;have HI105 := n2_;have NB105_101 := n3_;have NB101_105 := n4_;clear n0_ n1_ n2_ n3_ n4_;(try clear hb);(try clear hb2);(try clear hk);(try clear hi)) | ((with_reducible refine gate_callee (f := 32) rfl ?_);refine goesL_ (some 5) rfl rfl Try.func32 T17_ rfl #[.pointer (some ⟨g105,0,none⟩)] rfl T4_ ?_;(with_reducible refine (spec_l2Any.calls k g105 t102 t103 t104 t106 t107 t108 t109 w _ ?side1 ?side2 A3.out).mono ?_);(case side1 => repeat (first | (with_reducible first | exact HI105.out | apply IsS64.alloc | apply IsS64.drewN | apply IsS64.drew | apply IsS64.set_1 | apply IsS64.set_2 | refine IsS64.far ?_ NB105_101.out _) | exact HI105.out));(case side2 => repeat (first | (with_reducible first | exact HB.out | apply below_alloc | apply pw_below_drewN | apply below_drew1 | refine below_set ?_ (IsS64.ge HI105.out) | refine below_set ?_ GE101.out) | exact HB.out));rintro e w6 ⟨rfl,hi,hb,hk⟩;refine ⟨_,rfl,?_⟩;have n0_ := aZ_ (KeepBut.blk hk (g' := gb101) (o := .cells #[.int .i64 0,.int .i64 0] 25 (0,0)) T1_ NB101_105.out T44_);have n1_ := aZ_ (hb);have n2_ := aZ_ (hi);clear BK101;clear HB;clear HI105;have BK101 := n0_;have HB := n1_;have HI105 := n2_;clear n0_ n1_ n2_;(try clear hb);(try clear hb2);(try clear hk);(try clear hi);have hnb7 := NB101_105.out;have hnc7 := NB105_101.out;have hcz8_0 : w6.cell? ⟨gb101,0,none⟩ = some (.int .i64 0) := (blk_cell BK101.out 0).trans rfl;have hcz8_1 : w6.cell? ⟨gb101,1,none⟩ = some (.int .i64 0) := (blk_cell BK101.out 1).trans rfl;have hfz8_0 := blk_frozen BK101.out 0;have hfz8_1 := blk_frozen BK101.out 1))
 refine bodyPost_ret (results_cell_row rfl _ _ gb101 25 #[.int .i64 t106,.int .i64 t107] (0,0) _ rfl T22_ Try.underlying25 rfl T17_) rfl ?_
 exact ⟨by first | rfl | (simp [errW_none,errW_some] <;> rfl) | (simp [*,errW_none,errW_some] <;> rfl),by repeat (first | (with_reducible first | exact HB.out | apply below_alloc | apply pw_below_drewN | apply below_drew1 | refine below_set ?_ (IsS64.ge HI105.out) | refine below_set ?_ GE101.out) | exact HB.out)⟩
def impl_isBit.f (a0 : Int) : Option (Bool) := if a0 = 0 then (some true) else (some (a0 == 1))
set_option maxHeartbeats 8000000 in
set_option maxRecDepth 100000 in
theorem impl_isBit.calls (a0 : Int) (r : Bool) (w : World) (h : impl_isBit.f a0 = some r) :
  Calls Try.prog 47 #[.int .i64 a0] w fun e w' => e = .returned (.bool r) ∧ Drawn0 w w' := by
 have H : (if a0 = 0 then (some true) else (some (a0 == 1))) = some r := h
 clear h
 by_cases c2 : a0 = 0
 ·rw [if_pos c2] at H
  have c2b0 : (a0 == 0) = true := beq_iff_eq.mpr c2
  have c2b1 : (a0 != 0) = false := bne_eq_false_iff_eq.mpr c2
  clear c2
  obtain rfl := Option.some.inj H
  go_enter Try.func47,Try.ntmps47
  go_wp2
  go_ret
  exact ⟨by first | rfl | (simp;done) | (simp [*];done),by repeat (first | exact Drawn0.refl _ | apply Drawn0.step)⟩
 ·rw [if_neg c2] at H
  have c2b0 : (a0 == 0) = false := beq_eq_false_iff_ne.mpr c2
  have c2b1 : (a0 != 0) = true := bne_iff_ne.mpr c2
  obtain rfl := Option.some.inj H
  go_enter Try.func47,Try.ntmps47
  go_wp2
  go_ret
  exact ⟨by first | rfl | (simp;done) | (simp [*];done),by repeat (first | exact Drawn0.refl _ | apply Drawn0.step)⟩
def impl_AffineTable.f (a0 : Int) (a1 : Int) (a2 : Int) : Option (Int × Int × Bool) := (impl_isBits.f a0).bind fun t102 => (if t102 = true then ((impl_isInput.f a0 a1).bind fun t103 => (if t103 = true then ((impl_isBit.f a2).bind fun t104 => (if t104 = true then ((impl_affine.f a0 a1 a2).bind fun bt105 => (some (bt105.1,bt105.2,true))) else (some (0,0,false)))) else (some (0,0,false)))) else (some (0,0,false)))
set_option maxHeartbeats 8000000 in
set_option maxRecDepth 100000 in
theorem impl_AffineTable.calls (a0 : Int) (a1 : Int) (a2 : Int) (r1 : Int) (r2 : Int) (r3 : Bool) (w : World) (h : impl_AffineTable.f a0 a1 a2 = some (r1,r2,r3)) :
  Calls Try.prog 15 #[.int .i64 a0,.int .i64 a1,.int .i64 a2] w fun e w' => e = .returned (.tuple #[.agg #[.int .i64 r1,.int .i64 r2],.bool r3]) ∧ Below w.heap.size w w' := by
 have hu25 := Try.underlying25
 have HB := aZ_ (Below.refl w.heap.size w)
 have H : ((impl_isBits.f a0).bind fun t102 => (if t102 = true then ((impl_isInput.f a0 a1).bind fun t103 => (if t103 = true then ((impl_isBit.f a2).bind fun t104 => (if t104 = true then ((impl_affine.f a0 a1 a2).bind fun bt105 => (some (bt105.1,bt105.2,true))) else (some (0,0,false)))) else (some (0,0,false)))) else (some (0,0,false)))) = some (r1,r2,r3) := h
 clear h
 replace H := Option.bind_eq_some_iff.mp H
 obtain ⟨t102,A40,H⟩ := H
 replace H : (if t102 = true then ((impl_isInput.f a0 a1).bind fun t103 => (if t103 = true then ((impl_isBit.f a2).bind fun t104 => (if t104 = true then ((impl_affine.f a0 a1 a2).bind fun bt105 => (some (bt105.1,bt105.2,true))) else (some (0,0,false)))) else (some (0,0,false)))) else (some (0,0,false))) = some (r1,r2,r3) := H
 have A4 := aZ_ A40
 clear A40
 by_cases c5 : t102 = true
 ·subst c5
  have H1 : ((impl_isInput.f a0 a1).bind fun t103 => (if t103 = true then ((impl_isBit.f a2).bind fun t104 => (if t104 = true then ((impl_affine.f a0 a1 a2).bind fun bt105 => (some (bt105.1,bt105.2,true))) else (some (0,0,false)))) else (some (0,0,false)))) = some (r1,r2,r3) := by rw [if_pos rfl] at H;exact H
  clear H
  have H := H1
  clear H1
  replace H := Option.bind_eq_some_iff.mp H
  obtain ⟨t103,A60,H⟩ := H
  replace H : (if t103 = true then ((impl_isBit.f a2).bind fun t104 => (if t104 = true then ((impl_affine.f a0 a1 a2).bind fun bt105 => (some (bt105.1,bt105.2,true))) else (some (0,0,false)))) else (some (0,0,false))) = some (r1,r2,r3) := H
  have A6 := aZ_ A60
  clear A60
  by_cases c7 : t103 = true
  ·subst c7
   have H1 : ((impl_isBit.f a2).bind fun t104 => (if t104 = true then ((impl_affine.f a0 a1 a2).bind fun bt105 => (some (bt105.1,bt105.2,true))) else (some (0,0,false)))) = some (r1,r2,r3) := by rw [if_pos rfl] at H;exact H
   clear H
   have H := H1
   clear H1
   replace H := Option.bind_eq_some_iff.mp H
   obtain ⟨t104,A80,H⟩ := H
   replace H : (if t104 = true then ((impl_affine.f a0 a1 a2).bind fun bt105 => (some (bt105.1,bt105.2,true))) else (some (0,0,false))) = some (r1,r2,r3) := H
   have A8 := aZ_ A80
   clear A80
   by_cases c9 : t104 = true
   ·subst c9
    have H1 : ((impl_affine.f a0 a1 a2).bind fun bt105 => (some (bt105.1,bt105.2,true))) = some (r1,r2,r3) := by rw [if_pos rfl] at H;exact H
    clear H
    have H := H1
    clear H1
    replace H := Option.bind_eq_some_iff.mp H
    obtain ⟨⟨t105,t106⟩,A100,H⟩ := H
    replace H : (some (t105,t106,true)) = some (r1,r2,r3) := H
    have A10 := aZ_ A100
    clear A100
    simp only [Option.some.injEq,Prod.mk.injEq] at H
    obtain ⟨rfl,rfl,rfl⟩ := H
    go_enter Try.func15,Try.ntmps15
    go_wp2_with (first | ((with_reducible refine gate_dst (N := 6) rfl ?_);refine box_event ?hg (N := 6) ?hd (cs := #[.int .i64 0,.int .i64 0]) (t := 25) ?hr ?_;(case hd => rfl);(case hg => rfl);(case hr => first | (go_simp;done) | (go_simp;rfl));intro gb101 hg w11 hbox hb;have n0_ := aZ_ (below_step T5_ hb);have n1_ := aZ_ (hbox);have n2_ := aZ_ ((T2_ : w.heap.size ≤ gb101));have n3_ := aZ_ ((T2_ : w.heap.size ≤ gb101));clear HB;have HB := n0_;have BK101 := n1_;have GW101 := n2_;have GE101 := n3_;clear n0_ n1_ n2_ n3_;clear hb hbox hg) | ((with_reducible refine gate_callee (f := 45) rfl ?_);refine goesL_ (some 9) rfl rfl Try.func45 T17_ rfl #[.int .i64 a0] rfl T4_ ?_;(with_reducible refine (impl_isBits.calls a0 true _ A4.out).mono ?_);rintro e w' ⟨rfl,⟨nd,rfl⟩⟩;refine ⟨_,rfl,?_⟩;(try (rw [drewN_self w11];generalize hq_ : World.drewN w11 _ = w11;have n0_ : Aside0 (w11.heap[gb101]? = some (.cells #[.int .i64 0,.int .i64 0] 25 (0,0))) := ⟨by rw [← hq_];exact T1_⟩;have n1_ : Aside0 (Below w.heap.size w w11) := ⟨by rw [← hq_];exact T3_⟩;clear BK101 HB hq_;have BK101 := n0_;have HB := n1_;clear n0_ n1_))) | (go_at_call 46;(with_reducible refine (impl_isInput.calls a0 a1 true _ A6.out).mono ?_);rintro e w' ⟨rfl,⟨nd,rfl⟩⟩;(try (rw [drewN_self w11];generalize hq_ : World.drewN w11 _ = w11;have n0_ : Aside0 (w11.heap[gb101]? = some (.cells #[.int .i64 0,.int .i64 0] 25 (0,0))) := ⟨by rw [← hq_];exact T1_⟩;have n1_ : Aside0 (Below w.heap.size w w11) := ⟨by rw [← hq_];exact T3_⟩;clear BK101 HB hq_;have BK101 := n0_;have HB := n1_;clear n0_ n1_))) | (go_at_call 47;(with_reducible refine (impl_isBit.calls a2 true _ A8.out).mono ?_);rintro e w' ⟨rfl,⟨nd,rfl⟩⟩;(try (rw [drewN_self w11];generalize hq_ : World.drewN w11 _ = w11;have n0_ : Aside0 (w11.heap[gb101]? = some (.cells #[.int .i64 0,.int .i64 0] 25 (0,0))) := ⟨by rw [← hq_];exact T1_⟩;have n1_ : Aside0 (Below w.heap.size w w11) := ⟨by rw [← hq_];exact T3_⟩;clear BK101 HB hq_;have BK101 := n0_;have HB := n1_;clear n0_ n1_))) | ((with_reducible refine gate_callee (f := 42) rfl ?_);refine goesL_ (some 26) rfl rfl Try.func42 T17_ rfl #[.int .i64 a0,.int .i64 a1,.int .i64 a2] rfl T4_ ?_;(with_reducible refine (impl_affine.calls a0 a1 a2 t105 t106 _ A10.out).mono ?_);rintro e w12 ⟨rfl,hb⟩;refine ⟨_,rfl,?_⟩;have n0_ := aZ_ (blk_below (g := gb101) (o := .cells #[.int .i64 0,.int .i64 0] 25 (0,0)) T1_ hb);have n1_ := aZ_ (below_step T3_ hb);clear BK101;clear HB;have BK101 := n0_;have HB := n1_;clear n0_ n1_;(try clear hb);(try clear hb2);(try clear hk);(try clear hi);have hcz13_0 : w12.cell? ⟨gb101,0,none⟩ = some (.int .i64 0) := (blk_cell BK101.out 0).trans rfl;have hcz13_1 : w12.cell? ⟨gb101,1,none⟩ = some (.int .i64 0) := (blk_cell BK101.out 1).trans rfl;have hfz13_0 := blk_frozen BK101.out 0;have hfz13_1 := blk_frozen BK101.out 1))
    refine bodyPost_ret (results_ct rfl _ _ gb101 25 #[.int .i64 t105,.int .i64 t106] (0,0) _ rfl T29_ Try.underlying25 rfl T17_) rfl ?_
    exact ⟨by first | rfl | (simp [errW_none,errW_some] <;> rfl) | (simp [*,errW_none,errW_some] <;> rfl),by repeat (first | (with_reducible first | exact HB.out | apply below_alloc | apply pw_below_drewN | apply below_drew1 | refine below_set ?_ GE101.out) | exact HB.out)⟩
   ·replace c9 := Bool.eq_false_iff.mpr c9
    subst c9
    have H1 : (some (0,0,false)) = some (r1,r2,r3) := by rw [if_neg (show ¬ (false = true) by decide)] at H;exact H
    clear H
    have H := H1
    clear H1
    simp only [Option.some.injEq,Prod.mk.injEq] at H
    obtain ⟨rfl,rfl,rfl⟩ := H
    go_enter Try.func15,Try.ntmps15
    go_wp2_with (first | ((with_reducible refine gate_dst (N := 6) rfl ?_);refine box_event ?hg (N := 6) ?hd (cs := #[.int .i64 0,.int .i64 0]) (t := 25) ?hr ?_;(case hd => rfl);(case hg => rfl);(case hr => first | (go_simp;done) | (go_simp;rfl));intro gb101 hg w14 hbox hb;have n0_ := aZ_ (below_step T5_ hb);have n1_ := aZ_ (hbox);have n2_ := aZ_ ((T2_ : w.heap.size ≤ gb101));have n3_ := aZ_ ((T2_ : w.heap.size ≤ gb101));clear HB;have HB := n0_;have BK101 := n1_;have GW101 := n2_;have GE101 := n3_;clear n0_ n1_ n2_ n3_;clear hb hbox hg) | ((with_reducible refine gate_callee (f := 45) rfl ?_);refine goesL_ (some 9) rfl rfl Try.func45 T17_ rfl #[.int .i64 a0] rfl T4_ ?_;(with_reducible refine (impl_isBits.calls a0 true _ A4.out).mono ?_);rintro e w' ⟨rfl,⟨nd,rfl⟩⟩;refine ⟨_,rfl,?_⟩;(try (rw [drewN_self w14];generalize hq_ : World.drewN w14 _ = w14;have n0_ : Aside0 (w14.heap[gb101]? = some (.cells #[.int .i64 0,.int .i64 0] 25 (0,0))) := ⟨by rw [← hq_];exact T1_⟩;have n1_ : Aside0 (Below w.heap.size w w14) := ⟨by rw [← hq_];exact T3_⟩;clear BK101 HB hq_;have BK101 := n0_;have HB := n1_;clear n0_ n1_))) | (go_at_call 46;(with_reducible refine (impl_isInput.calls a0 a1 true _ A6.out).mono ?_);rintro e w' ⟨rfl,⟨nd,rfl⟩⟩;(try (rw [drewN_self w14];generalize hq_ : World.drewN w14 _ = w14;have n0_ : Aside0 (w14.heap[gb101]? = some (.cells #[.int .i64 0,.int .i64 0] 25 (0,0))) := ⟨by rw [← hq_];exact T1_⟩;have n1_ : Aside0 (Below w.heap.size w w14) := ⟨by rw [← hq_];exact T3_⟩;clear BK101 HB hq_;have BK101 := n0_;have HB := n1_;clear n0_ n1_))) | (go_at_call 47;(with_reducible refine (impl_isBit.calls a2 false _ A8.out).mono ?_);rintro e w' ⟨rfl,⟨nd,rfl⟩⟩;(try (rw [drewN_self w14];generalize hq_ : World.drewN w14 _ = w14;have n0_ : Aside0 (w14.heap[gb101]? = some (.cells #[.int .i64 0,.int .i64 0] 25 (0,0))) := ⟨by rw [← hq_];exact T1_⟩;have n1_ : Aside0 (Below w.heap.size w w14) := ⟨by rw [← hq_];exact T3_⟩;clear BK101 HB hq_;have BK101 := n0_;have HB := n1_;clear n0_ n1_));have hcz15_0 : w14.cell? ⟨gb101,0,none⟩ = some (.int .i64 0) := (blk_cell BK101.out 0).trans rfl;have hcz15_1 : w14.cell? ⟨gb101,1,none⟩ = some (.int .i64 0) := (blk_cell BK101.out 1).trans rfl;have hfz15_0 := blk_frozen BK101.out 0;have hfz15_1 := blk_frozen BK101.out 1))
    refine bodyPost_ret (results_ct rfl _ _ gb101 25 #[.int .i64 0,.int .i64 0] (0,0) _ rfl T16_ Try.underlying25 rfl T17_) rfl ?_
    exact ⟨by first | rfl | (simp [errW_none,errW_some] <;> rfl) | (simp [*,errW_none,errW_some] <;> rfl),by repeat (first | (with_reducible first | exact HB.out | apply below_alloc | apply pw_below_drewN | apply below_drew1 | refine below_set ?_ GE101.out) | exact HB.out)⟩
  ·replace c7 := Bool.eq_false_iff.mpr c7
   subst c7
   have H1 : (some (0,0,false)) = some (r1,r2,r3) := by rw [if_neg (show ¬ (false = true) by decide)] at H;exact H
   clear H
   have H := H1
   clear H1
   simp only [Option.some.injEq,Prod.mk.injEq] at H
   obtain ⟨rfl,rfl,rfl⟩ := H
   go_enter Try.func15,Try.ntmps15
   go_wp2_with (first | ((with_reducible refine gate_dst (N := 6) rfl ?_);refine box_event ?hg (N := 6) ?hd (cs := #[.int .i64 0,.int .i64 0]) (t := 25) ?hr ?_;(case hd => rfl);(case hg => rfl);(case hr => first | (go_simp;done) | (go_simp;rfl));intro gb101 hg w16 hbox hb;have n0_ := aZ_ (below_step T5_ hb);have n1_ := aZ_ (hbox);have n2_ := aZ_ ((T2_ : w.heap.size ≤ gb101));have n3_ := aZ_ ((T2_ : w.heap.size ≤ gb101));clear HB;have HB := n0_;have BK101 := n1_;have GW101 := n2_;have GE101 := n3_;clear n0_ n1_ n2_ n3_;clear hb hbox hg) | ((with_reducible refine gate_callee (f := 45) rfl ?_);refine goesL_ (some 9) rfl rfl Try.func45 T17_ rfl #[.int .i64 a0] rfl T4_ ?_;(with_reducible refine (impl_isBits.calls a0 true _ A4.out).mono ?_);rintro e w' ⟨rfl,⟨nd,rfl⟩⟩;refine ⟨_,rfl,?_⟩;(try (rw [drewN_self w16];generalize hq_ : World.drewN w16 _ = w16;have n0_ : Aside0 (w16.heap[gb101]? = some (.cells #[.int .i64 0,.int .i64 0] 25 (0,0))) := ⟨by rw [← hq_];exact T1_⟩;have n1_ : Aside0 (Below w.heap.size w w16) := ⟨by rw [← hq_];exact T3_⟩;clear BK101 HB hq_;have BK101 := n0_;have HB := n1_;clear n0_ n1_))) | (go_at_call 46;(with_reducible refine (impl_isInput.calls a0 a1 false _ A6.out).mono ?_);rintro e w' ⟨rfl,⟨nd,rfl⟩⟩;(try (rw [drewN_self w16];generalize hq_ : World.drewN w16 _ = w16;have n0_ : Aside0 (w16.heap[gb101]? = some (.cells #[.int .i64 0,.int .i64 0] 25 (0,0))) := ⟨by rw [← hq_];exact T1_⟩;have n1_ : Aside0 (Below w.heap.size w w16) := ⟨by rw [← hq_];exact T3_⟩;clear BK101 HB hq_;have BK101 := n0_;have HB := n1_;clear n0_ n1_));have hcz17_0 : w16.cell? ⟨gb101,0,none⟩ = some (.int .i64 0) := (blk_cell BK101.out 0).trans rfl;have hcz17_1 : w16.cell? ⟨gb101,1,none⟩ = some (.int .i64 0) := (blk_cell BK101.out 1).trans rfl;have hfz17_0 := blk_frozen BK101.out 0;have hfz17_1 := blk_frozen BK101.out 1))
   refine bodyPost_ret (results_ct rfl _ _ gb101 25 #[.int .i64 0,.int .i64 0] (0,0) _ rfl T16_ Try.underlying25 rfl T17_) rfl ?_
   exact ⟨by first | rfl | (simp [errW_none,errW_some] <;> rfl) | (simp [*,errW_none,errW_some] <;> rfl),by repeat (first | (with_reducible first | exact HB.out | apply below_alloc | apply pw_below_drewN | apply below_drew1 | refine below_set ?_ GE101.out) | exact HB.out)⟩
 ·replace c5 := Bool.eq_false_iff.mpr c5
  subst c5
  have H1 : (some (0,0,false)) = some (r1,r2,r3) := by rw [if_neg (show ¬ (false = true) by decide)] at H;exact H
  clear H
  have H := H1
  clear H1
  simp only [Option.some.injEq,Prod.mk.injEq] at H
  obtain ⟨rfl,rfl,rfl⟩ := H
  go_enter Try.func15,Try.ntmps15
  go_wp2_with (first | ((with_reducible refine gate_dst (N := 6) rfl ?_);refine box_event ?hg (N := 6) ?hd (cs := #[.int .i64 0,.int .i64 0]) (t := 25) ?hr ?_;(case hd => rfl);(case hg => rfl);(case hr => first | (go_simp;done) | (go_simp;rfl));intro gb101 hg w18 hbox hb;have n0_ := aZ_ (below_step T5_ hb);have n1_ := aZ_ (hbox);have n2_ := aZ_ ((T2_ : w.heap.size ≤ gb101));have n3_ := aZ_ ((T2_ : w.heap.size ≤ gb101));clear HB;have HB := n0_;have BK101 := n1_;have GW101 := n2_;have GE101 := n3_;clear n0_ n1_ n2_ n3_;clear hb hbox hg) | ((with_reducible refine gate_callee (f := 45) rfl ?_);refine goesL_ (some 9) rfl rfl Try.func45 T17_ rfl #[.int .i64 a0] rfl T4_ ?_;(with_reducible refine (impl_isBits.calls a0 false _ A4.out).mono ?_);rintro e w' ⟨rfl,⟨nd,rfl⟩⟩;refine ⟨_,rfl,?_⟩;(try (rw [drewN_self w18];generalize hq_ : World.drewN w18 _ = w18;have n0_ : Aside0 (w18.heap[gb101]? = some (.cells #[.int .i64 0,.int .i64 0] 25 (0,0))) := ⟨by rw [← hq_];exact T1_⟩;have n1_ : Aside0 (Below w.heap.size w w18) := ⟨by rw [← hq_];exact T3_⟩;clear BK101 HB hq_;have BK101 := n0_;have HB := n1_;clear n0_ n1_));have hcz19_0 : w18.cell? ⟨gb101,0,none⟩ = some (.int .i64 0) := (blk_cell BK101.out 0).trans rfl;have hcz19_1 : w18.cell? ⟨gb101,1,none⟩ = some (.int .i64 0) := (blk_cell BK101.out 1).trans rfl;have hfz19_0 := blk_frozen BK101.out 0;have hfz19_1 := blk_frozen BK101.out 1))
  refine bodyPost_ret (results_ct rfl _ _ gb101 25 #[.int .i64 0,.int .i64 0] (0,0) _ rfl T16_ Try.underlying25 rfl T17_) rfl ?_
  exact ⟨by first | rfl | (simp [errW_none,errW_some] <;> rfl) | (simp [*,errW_none,errW_some] <;> rfl),by repeat (first | (with_reducible first | exact HB.out | apply below_alloc | apply pw_below_drewN | apply below_drew1 | refine below_set ?_ GE101.out) | exact HB.out)⟩
def impl_areTables.f (a0_0 : Int) (a0_1 : Int) (a1_0 : Int) (a1_1 : Int) : Option (Bool) := (impl_IsTable.f a0_0 a0_1).bind fun t103 => (if t103 = true then ((impl_IsTable.f a1_0 a1_1).bind fun t104 => (if t104 = true then (some (a0_0 == a1_0)) else (some false))) else (some false))
set_option maxHeartbeats 8000000 in
set_option maxRecDepth 100000 in
theorem impl_areTables.calls (a0_0 : Int) (a0_1 : Int) (a1_0 : Int) (a1_1 : Int) (r : Bool) (w : World) (h : impl_areTables.f a0_0 a0_1 a1_0 a1_1 = some r) :
  Calls Try.prog 48 #[.agg #[.int .i64 a0_0,.int .i64 a0_1],.agg #[.int .i64 a1_0,.int .i64 a1_1]] w fun e w' => e = .returned (.bool r) ∧ Below w.heap.size w w' := by
 have hu25 := Try.underlying25
 have HB := aZ_ (Below.refl w.heap.size w)
 have H : ((impl_IsTable.f a0_0 a0_1).bind fun t103 => (if t103 = true then ((impl_IsTable.f a1_0 a1_1).bind fun t104 => (if t104 = true then (some (a0_0 == a1_0)) else (some false))) else (some false))) = some r := h
 clear h
 replace H := Option.bind_eq_some_iff.mp H
 obtain ⟨t103,A30,H⟩ := H
 replace H : (if t103 = true then ((impl_IsTable.f a1_0 a1_1).bind fun t104 => (if t104 = true then (some (a0_0 == a1_0)) else (some false))) else (some false)) = some r := H
 have A3 := aZ_ A30
 clear A30
 by_cases c4 : t103 = true
 ·subst c4
  have H1 : ((impl_IsTable.f a1_0 a1_1).bind fun t104 => (if t104 = true then (some (a0_0 == a1_0)) else (some false))) = some r := by rw [if_pos rfl] at H;exact H
  clear H
  have H := H1
  clear H1
  replace H := Option.bind_eq_some_iff.mp H
  obtain ⟨t104,A50,H⟩ := H
  replace H : (if t104 = true then (some (a0_0 == a1_0)) else (some false)) = some r := H
  have A5 := aZ_ A50
  clear A50
  by_cases c6 : t104 = true
  ·subst c6
   have H1 : (some (a0_0 == a1_0)) = some r := by rw [if_pos rfl] at H;exact H
   clear H
   have H := H1
   clear H1
   obtain rfl := Option.some.inj H
   go_enter Try.func48,Try.ntmps48
   go_wp2_with (first | ((with_reducible refine gate_dst (N := 2) rfl ?_);refine box_event ?hg (N := 2) ?hd (cs := #[.int .i64 a0_0,.int .i64 a0_1]) (t := 25) ?hr ?_;(case hd => rfl);(case hg => rfl);(case hr => first | (go_simp;done) | (go_simp;rfl));intro gb101 hg w7 hbox hb;have n0_ := aZ_ (below_step T5_ hb);have n1_ := aZ_ (hbox);have n2_ := aZ_ ((T2_ : w.heap.size ≤ gb101));have n3_ := aZ_ ((T2_ : w.heap.size ≤ gb101));clear HB;have HB := n0_;have BK101 := n1_;have GW101 := n2_;have GE101 := n3_;clear n0_ n1_ n2_ n3_;clear hb hbox hg) | ((with_reducible refine gate_dst (N := 3) rfl ?_);refine box_event ?hg (N := 3) ?hd (cs := #[.int .i64 a1_0,.int .i64 a1_1]) (t := 25) ?hr ?_;(case hd => rfl);(case hg => rfl);(case hr => first | (go_simp;done) | (go_simp;rfl));intro gb102 hg w8 hbox hb;have n0_ := aZ_ (blk_below (g := gb101) (o := .cells #[.int .i64 a0_0,.int .i64 a0_1] 25 (0,0)) T1_ hb);have n1_ := aZ_ (below_step T3_ hb);have n2_ := aZ_ (hbox);have n3_ := aZ_ ((T12_ : w.heap.size ≤ gb102));have n4_ := aZ_ ((T12_ : w.heap.size ≤ gb102));have n5_ := aZ_ ((T23_ : gb101 ≠ gb102));have n6_ := aZ_ ((T24_ : gb102 ≠ gb101));clear BK101;clear HB;have BK101 := n0_;have HB := n1_;have BK102 := n2_;have GW102 := n3_;have GE102 := n4_;have NB101_102 := n5_;have NB102_101 := n6_;clear n0_ n1_ n2_ n3_ n4_ n5_ n6_;clear hb hbox hg;have hnb9 := NB101_102.out;have hnc9 := NB102_101.out;have hcz10_0 : w8.cell? ⟨gb101,0,none⟩ = some (.int .i64 a0_0) := (blk_cell BK101.out 0).trans rfl;have hcz10_1 : w8.cell? ⟨gb101,1,none⟩ = some (.int .i64 a0_1) := (blk_cell BK101.out 1).trans rfl;have hfz10_0 := blk_frozen BK101.out 0;have hfz10_1 := blk_frozen BK101.out 1) | ((with_reducible refine gate_callee (f := 34) rfl ?_);refine goesL_ (some 6) rfl rfl Try.func34 T17_ rfl #[.agg #[.int .i64 a0_0,.int .i64 a0_1]] rfl T4_ ?_;(with_reducible refine (impl_IsTable.calls a0_0 a0_1 true _ A3.out).mono ?_);rintro e w11 ⟨rfl,hb⟩;refine ⟨_,rfl,?_⟩;have n0_ := aZ_ (blk_below (g := gb101) (o := .cells #[.int .i64 a0_0,.int .i64 a0_1] 25 (0,0)) T1_ hb);have n1_ := aZ_ (blk_below (g := gb102) (o := .cells #[.int .i64 a1_0,.int .i64 a1_1] 25 (0,0)) T36_ hb);have n2_ := aZ_ (below_step T27_ hb);clear BK101;clear BK102;clear HB;have BK101 := n0_;have BK102 := n1_;have HB := n2_;clear n0_ n1_ n2_;(try clear hb);(try clear hb2);(try clear hk);(try clear hi);have hcz12_0 : w11.cell? ⟨gb102,0,none⟩ = some (.int .i64 a1_0) := (blk_cell BK102.out 0).trans rfl;have hcz12_1 : w11.cell? ⟨gb102,1,none⟩ = some (.int .i64 a1_1) := (blk_cell BK102.out 1).trans rfl;have hfz12_0 := blk_frozen BK102.out 0;have hfz12_1 := blk_frozen BK102.out 1) | (go_at_call 34;(with_reducible refine (impl_IsTable.calls a1_0 a1_1 true _ A5.out).mono ?_);rintro e w13 ⟨rfl,hb⟩;have n0_ := aZ_ (blk_below (g := gb101) (o := .cells #[.int .i64 a0_0,.int .i64 a0_1] 25 (0,0)) T1_ hb);have n1_ := aZ_ (blk_below (g := gb102) (o := .cells #[.int .i64 a1_0,.int .i64 a1_1] 25 (0,0)) T36_ hb);have n2_ := aZ_ (below_step T27_ hb);clear BK101;clear BK102;clear HB;have BK101 := n0_;have BK102 := n1_;have HB := n2_;clear n0_ n1_ n2_;(try clear hb);(try clear hb2);(try clear hk);(try clear hi);have hcz14_0 : w13.cell? ⟨gb101,0,none⟩ = some (.int .i64 a0_0) := (blk_cell BK101.out 0).trans rfl;have hcz14_1 : w13.cell? ⟨gb101,1,none⟩ = some (.int .i64 a0_1) := (blk_cell BK101.out 1).trans rfl;have hfz14_0 := blk_frozen BK101.out 0;have hfz14_1 := blk_frozen BK101.out 1;have hcz15_0 : w13.cell? ⟨gb102,0,none⟩ = some (.int .i64 a1_0) := (blk_cell BK102.out 0).trans rfl;have hcz15_1 : w13.cell? ⟨gb102,1,none⟩ = some (.int .i64 a1_1) := (blk_cell BK102.out 1).trans rfl;have hfz15_0 := blk_frozen BK102.out 0;have hfz15_1 := blk_frozen BK102.out 1))
   go_ret
   exact ⟨by first | rfl | (simp [errW_none,errW_some] <;> rfl) | (simp [*,errW_none,errW_some] <;> rfl),by repeat (first | (with_reducible first | exact HB.out | apply below_alloc | apply pw_below_drewN | apply below_drew1 | refine below_set ?_ GE101.out | refine below_set ?_ GE102.out) | exact HB.out)⟩
  ·replace c6 := Bool.eq_false_iff.mpr c6
   subst c6
   have H1 : (some false) = some r := by rw [if_neg (show ¬ (false = true) by decide)] at H;exact H
   clear H
   have H := H1
   clear H1
   obtain rfl := Option.some.inj H
   go_enter Try.func48,Try.ntmps48
   go_wp2_with (first | ((with_reducible refine gate_dst (N := 2) rfl ?_);refine box_event ?hg (N := 2) ?hd (cs := #[.int .i64 a0_0,.int .i64 a0_1]) (t := 25) ?hr ?_;(case hd => rfl);(case hg => rfl);(case hr => first | (go_simp;done) | (go_simp;rfl));intro gb101 hg w16 hbox hb;have n0_ := aZ_ (below_step T5_ hb);have n1_ := aZ_ (hbox);have n2_ := aZ_ ((T2_ : w.heap.size ≤ gb101));have n3_ := aZ_ ((T2_ : w.heap.size ≤ gb101));clear HB;have HB := n0_;have BK101 := n1_;have GW101 := n2_;have GE101 := n3_;clear n0_ n1_ n2_ n3_;clear hb hbox hg) | ((with_reducible refine gate_dst (N := 3) rfl ?_);refine box_event ?hg (N := 3) ?hd (cs := #[.int .i64 a1_0,.int .i64 a1_1]) (t := 25) ?hr ?_;(case hd => rfl);(case hg => rfl);(case hr => first | (go_simp;done) | (go_simp;rfl));intro gb102 hg w17 hbox hb;have n0_ := aZ_ (blk_below (g := gb101) (o := .cells #[.int .i64 a0_0,.int .i64 a0_1] 25 (0,0)) T1_ hb);have n1_ := aZ_ (below_step T3_ hb);have n2_ := aZ_ (hbox);have n3_ := aZ_ ((T12_ : w.heap.size ≤ gb102));have n4_ := aZ_ ((T12_ : w.heap.size ≤ gb102));have n5_ := aZ_ ((T23_ : gb101 ≠ gb102));have n6_ := aZ_ ((T24_ : gb102 ≠ gb101));clear BK101;clear HB;have BK101 := n0_;have HB := n1_;have BK102 := n2_;have GW102 := n3_;have GE102 := n4_;have NB101_102 := n5_;have NB102_101 := n6_;clear n0_ n1_ n2_ n3_ n4_ n5_ n6_;clear hb hbox hg;have hnb18 := NB101_102.out;have hnc18 := NB102_101.out;have hcz19_0 : w17.cell? ⟨gb101,0,none⟩ = some (.int .i64 a0_0) := (blk_cell BK101.out 0).trans rfl;have hcz19_1 : w17.cell? ⟨gb101,1,none⟩ = some (.int .i64 a0_1) := (blk_cell BK101.out 1).trans rfl;have hfz19_0 := blk_frozen BK101.out 0;have hfz19_1 := blk_frozen BK101.out 1) | ((with_reducible refine gate_callee (f := 34) rfl ?_);refine goesL_ (some 6) rfl rfl Try.func34 T17_ rfl #[.agg #[.int .i64 a0_0,.int .i64 a0_1]] rfl T4_ ?_;(with_reducible refine (impl_IsTable.calls a0_0 a0_1 true _ A3.out).mono ?_);rintro e w20 ⟨rfl,hb⟩;refine ⟨_,rfl,?_⟩;have n0_ := aZ_ (blk_below (g := gb101) (o := .cells #[.int .i64 a0_0,.int .i64 a0_1] 25 (0,0)) T1_ hb);have n1_ := aZ_ (blk_below (g := gb102) (o := .cells #[.int .i64 a1_0,.int .i64 a1_1] 25 (0,0)) T36_ hb);have n2_ := aZ_ (below_step T27_ hb);clear BK101;clear BK102;clear HB;have BK101 := n0_;have BK102 := n1_;have HB := n2_;clear n0_ n1_ n2_;(try clear hb);(try clear hb2);(try clear hk);(try clear hi);have hcz21_0 : w20.cell? ⟨gb102,0,none⟩ = some (.int .i64 a1_0) := (blk_cell BK102.out 0).trans rfl;have hcz21_1 : w20.cell? ⟨gb102,1,none⟩ = some (.int .i64 a1_1) := (blk_cell BK102.out 1).trans rfl;have hfz21_0 := blk_frozen BK102.out 0;have hfz21_1 := blk_frozen BK102.out 1) | (go_at_call 34;(with_reducible refine (impl_IsTable.calls a1_0 a1_1 false _ A5.out).mono ?_);rintro e w22 ⟨rfl,hb⟩;have n0_ := aZ_ (blk_below (g := gb101) (o := .cells #[.int .i64 a0_0,.int .i64 a0_1] 25 (0,0)) T1_ hb);have n1_ := aZ_ (blk_below (g := gb102) (o := .cells #[.int .i64 a1_0,.int .i64 a1_1] 25 (0,0)) T36_ hb);have n2_ := aZ_ (below_step T27_ hb);clear BK101;clear BK102;clear HB;have BK101 := n0_;have BK102 := n1_;have HB := n2_;clear n0_ n1_ n2_;(try clear hb);(try clear hb2);(try clear hk);(try clear hi)))
   go_ret
   exact ⟨by first | rfl | (simp [errW_none,errW_some] <;> rfl) | (simp [*,errW_none,errW_some] <;> rfl),by repeat (first | (with_reducible first | exact HB.out | apply below_alloc | apply pw_below_drewN | apply below_drew1 | refine below_set ?_ GE101.out | refine below_set ?_ GE102.out) | exact HB.out)⟩
 ·replace c4 := Bool.eq_false_iff.mpr c4
  subst c4
  have H1 : (some false) = some r := by rw [if_neg (show ¬ (false = true) by decide)] at H;exact H
  clear H
  have H := H1
  clear H1
  obtain rfl := Option.some.inj H
  go_enter Try.func48,Try.ntmps48
  go_wp2_with (first | ((with_reducible refine gate_dst (N := 2) rfl ?_);refine box_event ?hg (N := 2) ?hd (cs := #[.int .i64 a0_0,.int .i64 a0_1]) (t := 25) ?hr ?_;(case hd => rfl);(case hg => rfl);(case hr => first | (go_simp;done) | (go_simp;rfl));intro gb101 hg w23 hbox hb;have n0_ := aZ_ (below_step T5_ hb);have n1_ := aZ_ (hbox);have n2_ := aZ_ ((T2_ : w.heap.size ≤ gb101));have n3_ := aZ_ ((T2_ : w.heap.size ≤ gb101));clear HB;have HB := n0_;have BK101 := n1_;have GW101 := n2_;have GE101 := n3_;clear n0_ n1_ n2_ n3_;clear hb hbox hg) | ((with_reducible refine gate_dst (N := 3) rfl ?_);refine box_event ?hg (N := 3) ?hd (cs := #[.int .i64 a1_0,.int .i64 a1_1]) (t := 25) ?hr ?_;(case hd => rfl);(case hg => rfl);(case hr => first | (go_simp;done) | (go_simp;rfl));intro gb102 hg w24 hbox hb;have n0_ := aZ_ (blk_below (g := gb101) (o := .cells #[.int .i64 a0_0,.int .i64 a0_1] 25 (0,0)) T1_ hb);have n1_ := aZ_ (below_step T3_ hb);have n2_ := aZ_ (hbox);have n3_ := aZ_ ((T12_ : w.heap.size ≤ gb102));have n4_ := aZ_ ((T12_ : w.heap.size ≤ gb102));have n5_ := aZ_ ((T23_ : gb101 ≠ gb102));have n6_ := aZ_ ((T24_ : gb102 ≠ gb101));clear BK101;clear HB;have BK101 := n0_;have HB := n1_;have BK102 := n2_;have GW102 := n3_;have GE102 := n4_;have NB101_102 := n5_;have NB102_101 := n6_;clear n0_ n1_ n2_ n3_ n4_ n5_ n6_;clear hb hbox hg;have hnb25 := NB101_102.out;have hnc25 := NB102_101.out;have hcz26_0 : w24.cell? ⟨gb101,0,none⟩ = some (.int .i64 a0_0) := (blk_cell BK101.out 0).trans rfl;have hcz26_1 : w24.cell? ⟨gb101,1,none⟩ = some (.int .i64 a0_1) := (blk_cell BK101.out 1).trans rfl;have hfz26_0 := blk_frozen BK101.out 0;have hfz26_1 := blk_frozen BK101.out 1) | ((with_reducible refine gate_callee (f := 34) rfl ?_);refine goesL_ (some 6) rfl rfl Try.func34 T17_ rfl #[.agg #[.int .i64 a0_0,.int .i64 a0_1]] rfl T4_ ?_;(with_reducible refine (impl_IsTable.calls a0_0 a0_1 false _ A3.out).mono ?_);rintro e w27 ⟨rfl,hb⟩;refine ⟨_,rfl,?_⟩;have n0_ := aZ_ (blk_below (g := gb101) (o := .cells #[.int .i64 a0_0,.int .i64 a0_1] 25 (0,0)) T1_ hb);have n1_ := aZ_ (blk_below (g := gb102) (o := .cells #[.int .i64 a1_0,.int .i64 a1_1] 25 (0,0)) T36_ hb);have n2_ := aZ_ (below_step T27_ hb);clear BK101;clear BK102;clear HB;have BK101 := n0_;have BK102 := n1_;have HB := n2_;clear n0_ n1_ n2_;(try clear hb);(try clear hb2);(try clear hk);(try clear hi)))
  go_ret
  exact ⟨by first | rfl | (simp [errW_none,errW_some] <;> rfl) | (simp [*,errW_none,errW_some] <;> rfl),by repeat (first | (with_reducible first | exact HB.out | apply below_alloc | apply pw_below_drewN | apply below_drew1 | refine below_set ?_ GE101.out | refine below_set ?_ GE102.out) | exact HB.out)⟩
end Go.Proofs.Ytgojehaneegaeac.F
