/- Walks of Go functions and lemmas on what they compute, for the row of FnSpectra (a part of several): each call ends as the Lean function of its name tells; the conditions are those of each theorem. -/
import Derived.Test.YtflacbjpeecjcaaM1FnSpectra
import Derived.Test.YtflacbjpeecjcaaM2FnSpectra
import Derived.Test.YtflacbjpeecjcaaM3FnSpectra
import Derived.Test.YtflacbjpeecjcaaM4FnSpectra
import Derived.Test.YtflacbjpeecjcaaM6FnSpectra
import Derived.Test.YtflacbjpeecjcaaM7FnSpectra
namespace Go.Proofs.Ytflacbjpeecjcaa.F
open Go.RowKit Go.Proofs.YtflacbjpeecjcaaW.PrintWords Go.Proofs.YtflacbjpeecjcaaW.PrintLast Go.Proofs.YtflacbjpeecjcaaW.PrintMore
attribute [local go_sem] max2_int min2_int max_two min_two max_three min_three max_four min_four 
set_option linter.unusedVariables false
set_option linter.unusedSimpArgs false
mutual
def impl_NearestAffine.l0 : Nat → Int → Int → Int → Int → Int → Int → Int → Option (Int × Int × Int × Bool)
 | 0,_,_,_,_,_,_,_ => none
 | k + 1,x6,x7,x8,x19,x20,x102000,x102001 => if x20 < x19 then (impl_NearestAffine.l1 k x6 x7 x8 x20 x19 x20 0 x102000 x102001) else (some (x6,x7,x8,true))
def impl_NearestAffine.l1 : Nat → Int → Int → Int → Int → Int → Int → Int → Int → Int → Option (Int × Int × Int × Bool)
 | 0,_,_,_,_,_,_,_,_,_ => none
 | k + 1,x6,x7,x8,x9,x19,x20,x23,x102000,x102001 => if x23 < 2 then ((impl_affine.f x102000 x9 x23).bind fun bt105 => ((impl_ones.f (Go.bits .xor .i64 x102001 bt105.2)).bind fun t107 => (if t107 < x8 then (impl_NearestAffine.l1 k x9 x23 t107 x9 x19 x20 (wrap64 (x23 + 1)) x102000 x102001) else (impl_NearestAffine.l1 k x6 x7 x8 x9 x19 x20 (wrap64 (x23 + 1)) x102000 x102001)))) else (impl_NearestAffine.l0 k x6 x7 x8 x19 (wrap64 (x20 + 1)) x102000 x102001)
end
def impl_NearestAffine.f (k : Nat) (a0_0 : Int) (a0_1 : Int) : Option (Int × Int × Int × Bool) := (impl_IsTable.f a0_0 a0_1).bind fun t102 => (if t102 = true then ((impl_Table_size.f a0_0 a0_1).bind fun t103 => ((impl_Table_size.f a0_0 a0_1).bind fun t104 => (impl_NearestAffine.l0 k 0 0 (wrap64 (t103 + 1)) t104 0 a0_0 a0_1))) else (some (0,0,0,false)))
def impl_NearestAffine.T10 : Bool × List (List Nat × List Nat) := (true,[([],[]),([0],[0]),([],[]),([2],[2]),([],[]),([],[]),([3,4,5],[3,4,5]),([6],[6]),([1,7],[1,7]),([8,6],[8]),([9,9,0,1,2,3,4,5,6,7,8,9],[9])])
def impl_NearestAffine.B10 : List Nat := [0,1,0,4,0,0,60,124,255,511,1023]
theorem impl_NearestAffine.tab10 : rtab .any (opsOf Try.f14 10) = impl_NearestAffine.T10 := by kernel_rfl
theorem impl_NearestAffine.bits10 : waitsOk impl_NearestAffine.T10.2 impl_NearestAffine.B10 = true := by kernel_rfl
set_option maxHeartbeats 8000000 in
set_option maxRecDepth 100000 in
theorem impl_NearestAffine.calls (k : Nat) (a0_0 : Int) (a0_1 : Int) (r1 : Int) (r2 : Int) (r3 : Int) (r4 : Bool) (w : World) (h : impl_NearestAffine.f k a0_0 a0_1 = some (r1,r2,r3,r4)) :
  Calls Try.prog 14 #[.agg #[.int .i64 a0_0,.int .i64 a0_1]] w fun e w' => e = .returned (.tuple #[.int .i64 r1,.int .i64 r2,.int .i64 r3,.bool r4]) ∧ Below w.heap.size w w' := by
 have hu25 := Try.underlying25
 have hfd25_1 : ∀ (x0_ x1_ : Int) (W : World),(Instr.field 25 (.agg #[.int .i64 x0_,.int .i64 x1_]) 1).run Try.prog W = .ok (.int .i64 x1_) W := fun _ _ _ => by kernel_rfl
 have HB := aZ_ (Below.refl w.heap.size w)
 have H : ((impl_IsTable.f a0_0 a0_1).bind fun t102 => (if t102 = true then ((impl_Table_size.f a0_0 a0_1).bind fun t103 => ((impl_Table_size.f a0_0 a0_1).bind fun t104 => (impl_NearestAffine.l0 k 0 0 (wrap64 (t103 + 1)) t104 0 a0_0 a0_1))) else (some (0,0,0,false)))) = some (r1,r2,r3,r4) := h
 clear h
 replace H := Option.bind_eq_some_iff.mp H
 obtain ⟨t102,A20,H⟩ := H
 replace H : (if t102 = true then ((impl_Table_size.f a0_0 a0_1).bind fun t103 => ((impl_Table_size.f a0_0 a0_1).bind fun t104 => (impl_NearestAffine.l0 k 0 0 (wrap64 (t103 + 1)) t104 0 a0_0 a0_1))) else (some (0,0,0,false))) = some (r1,r2,r3,r4) := H
 have A2 := aZ_ A20
 clear A20
 by_cases c3 : t102 = true
 ·subst c3
  have H1 : ((impl_Table_size.f a0_0 a0_1).bind fun t103 => ((impl_Table_size.f a0_0 a0_1).bind fun t104 => (impl_NearestAffine.l0 k 0 0 (wrap64 (t103 + 1)) t104 0 a0_0 a0_1))) = some (r1,r2,r3,r4) := by rw [if_pos rfl] at H;exact H
  clear H
  have H := H1
  clear H1
  replace H := Option.bind_eq_some_iff.mp H
  obtain ⟨t103,A40,H⟩ := H
  replace H : ((impl_Table_size.f a0_0 a0_1).bind fun t104 => (impl_NearestAffine.l0 k 0 0 (wrap64 (t103 + 1)) t104 0 a0_0 a0_1)) = some (r1,r2,r3,r4) := H
  have A4 := aZ_ A40
  clear A40
  replace H := Option.bind_eq_some_iff.mp H
  obtain ⟨t104,A50,H⟩ := H
  replace H : (impl_NearestAffine.l0 k 0 0 (wrap64 (t103 + 1)) t104 0 a0_0 a0_1) = some (r1,r2,r3,r4) := H
  have A5 := aZ_ A50
  clear A50
  have H' := aZ_ H
  clear H
  go_enter Try.func14,Try.ntmps14
  go_wp2_with (first | ((with_reducible refine gate_dst (N := 1) rfl ?_);refine box_event ?hg (N := 1) ?hd (cs := #[.int .i64 a0_0,.int .i64 a0_1]) (t := 25) ?hr ?_;(case hd => rfl);(case hg => rfl);(case hr => first | (go_simp;done) | (go_simp;rfl));intro gb101 hg w6 hbox hb;have n0_ := aZ_ (below_step T7_ hb);have n1_ := aZ_ (hbox);have n2_ := aZ_ ((T4_ : w.heap.size ≤ gb101));have n3_ := aZ_ ((T4_ : w.heap.size ≤ gb101));clear HB;have HB := n0_;have BK101 := n1_;have GW101 := n2_;have GE101 := n3_;clear n0_ n1_ n2_ n3_;clear hb hbox hg;have hcz7_0 : w6.cell? ⟨gb101,0,none⟩ = some (.int .i64 a0_0) := (blk_cell BK101.out 0).trans rfl;have hcz7_1 : w6.cell? ⟨gb101,1,none⟩ = some (.int .i64 a0_1) := (blk_cell BK101.out 1).trans rfl;have hfz7_0 := blk_frozen BK101.out 0;have hfz7_1 := blk_frozen BK101.out 1) | ((with_reducible refine gate_callee (f := 32) rfl ?_);refine goesL_ (some 13) rfl rfl Try.func32 T16_ rfl #[.agg #[.int .i64 a0_0,.int .i64 a0_1]] rfl T3_ ?_;(with_reducible refine (impl_IsTable.calls a0_0 a0_1 true _ A2.out).mono ?_);rintro e w8 ⟨rfl,hb⟩;refine ⟨_,rfl,?_⟩;have n0_ := aZ_ (blk_below (g := gb101) (o := .cells #[.int .i64 a0_0,.int .i64 a0_1] 25 (0,0)) T2_ hb);have n1_ := aZ_ (below_step T1_ hb);clear BK101;clear HB;have BK101 := n0_;have HB := n1_;clear n0_ n1_;(try clear hb);(try clear hb2);(try clear hk);(try clear hi);have hcz9_0 : w8.cell? ⟨gb101,0,none⟩ = some (.int .i64 a0_0) := (blk_cell BK101.out 0).trans rfl;have hcz9_1 : w8.cell? ⟨gb101,1,none⟩ = some (.int .i64 a0_1) := (blk_cell BK101.out 1).trans rfl;have hfz9_0 := blk_frozen BK101.out 0;have hfz9_1 := blk_frozen BK101.out 1) | ((with_reducible refine gate_callee (f := 36) rfl ?_);refine goesL_ (some 16) rfl rfl Try.func36 T16_ rfl #[.agg #[.int .i64 a0_0,.int .i64 a0_1]] rfl T3_ ?_;(with_reducible refine (impl_Table_size.calls a0_0 a0_1 t103 _ A4.out).mono ?_);rintro e w10 ⟨rfl,hb⟩;refine ⟨_,rfl,?_⟩;have n0_ := aZ_ (blk_below (g := gb101) (o := .cells #[.int .i64 a0_0,.int .i64 a0_1] 25 (0,0)) T2_ hb);have n1_ := aZ_ (below_step T1_ hb);clear BK101;clear HB;have BK101 := n0_;have HB := n1_;clear n0_ n1_;(try clear hb);(try clear hb2);(try clear hk);(try clear hi);have hcz11_0 : w10.cell? ⟨gb101,0,none⟩ = some (.int .i64 a0_0) := (blk_cell BK101.out 0).trans rfl;have hcz11_1 : w10.cell? ⟨gb101,1,none⟩ = some (.int .i64 a0_1) := (blk_cell BK101.out 1).trans rfl;have hfz11_0 := blk_frozen BK101.out 0;have hfz11_1 := blk_frozen BK101.out 1) | ((with_reducible refine gate_callee (f := 36) rfl ?_);refine goesL_ (some 19) rfl rfl Try.func36 T16_ rfl #[.agg #[.int .i64 a0_0,.int .i64 a0_1]] rfl T3_ ?_;(with_reducible refine (impl_Table_size.calls a0_0 a0_1 t104 _ A5.out).mono ?_);rintro e w12 ⟨rfl,hb⟩;refine ⟨_,rfl,?_⟩;have n0_ := aZ_ (blk_below (g := gb101) (o := .cells #[.int .i64 a0_0,.int .i64 a0_1] 25 (0,0)) T2_ hb);have n1_ := aZ_ (below_step T1_ hb);clear BK101;clear HB;have BK101 := n0_;have HB := n1_;clear n0_ n1_;(try clear hb);(try clear hb2);(try clear hk);(try clear hi)))
  go_loopg [6,7,8,20] k (fun kq v6 v7 v8 v20 w' => ∃ (x6_1 : Int) (x7_1 : Int) (x8_1 : Int) (x20_1 : Int),v6 = .int .i64 x6_1 ∧ v7 = .int .i64 x7_1 ∧ v8 = .int .i64 x8_1 ∧ v20 = .int .i64 x20_1 ∧ Aside0 (impl_NearestAffine.l0 kq x6_1 x7_1 x8_1 t104 x20_1 a0_0 a0_1 = some (r1,r2,r3,r4)) ∧ Aside0 (kq ≤ k) ∧ Aside0 (w'.heap[gb101]? = some (.cells #[.int .i64 a0_0,.int .i64 a0_1] 25 (0,0))) ∧ Aside0 (Below w.heap.size w w'))
  case atStart => exact ⟨(0),(0),(wrap64 (t103 + 1)),(0),T6_,T6_,T6_,T6_,H',⟨Nat.le_refl _⟩,⟨by (with_reducible repeat (first | refine blk_drewN ?_ _ | refine blk_drew ?_ | refine blk_alloc ?_ _));exact BK101.out⟩,⟨by repeat (first | (with_reducible first | exact HB.out | apply below_alloc | apply pw_below_drewN | apply below_drew1 | refine below_set ?_ GE101.out) | exact HB.out)⟩⟩
  case round =>
   clear H'
   try clear c1
   try clear p2
   try clear c3
   try clear p6
   try clear hcz11_0
   try clear hcz11_1
   try clear hcz7_0
   try clear hcz7_1
   try clear hcz9_0
   try clear hcz9_1
   try clear hfz11_0
   try clear hfz11_1
   try clear hfz7_0
   try clear hfz7_1
   try clear hfz9_0
   try clear hfz9_1
   obtain ⟨x6_1,x7_1,x8_1,x20_1,rfl,rfl,rfl,rfl,HA,HK1,BK101,HB⟩ := hrel
   cases gk with
   | zero => exact absurd HA.out (by simp [impl_NearestAffine.l0])
   | succ k1 =>
    have H := HA.out
    clear HA
    simp only [impl_NearestAffine.l0] at H
    by_cases c13 : x20_1 < t104
    ·rw [if_pos c13] at H
     have c13b0 : decide (x20_1 < t104) = true := decide_eq_true c13
     clear c13
     have H' := aZ_ H
     clear H
     go_wp2
     go_loopg [6,7,8,23] k1 (fun kq v6 v7 v8 v23 w' => ∃ (x6_2 : Int) (x7_2 : Int) (x8_2 : Int) (x23_2 : Int),v6 = .int .i64 x6_2 ∧ v7 = .int .i64 x7_2 ∧ v8 = .int .i64 x8_2 ∧ v23 = .int .i64 x23_2 ∧ Aside0 (impl_NearestAffine.l1 kq x6_2 x7_2 x8_2 x20_1 t104 x20_1 x23_2 a0_0 a0_1 = some (r1,r2,r3,r4)) ∧ Aside0 (kq ≤ k1) ∧ Aside0 (w'.heap[gb101]? = some (.cells #[.int .i64 a0_0,.int .i64 a0_1] 25 (0,0))) ∧ Aside0 (Below w.heap.size w w'))
     case atStart => exact ⟨(x6_1),(x7_1),(x8_1),(0),T6_,T6_,T6_,T6_,H',⟨Nat.le_refl _⟩,⟨by (with_reducible repeat (first | refine blk_drewN ?_ _ | refine blk_drew ?_ | refine blk_alloc ?_ _));exact BK101.out⟩,⟨by repeat (first | (with_reducible first | exact HB.out | apply below_alloc | apply pw_below_drewN | apply below_drew1 | refine below_set ?_ GE101.out) | exact HB.out)⟩⟩
     case round =>
      clear H'
      try clear c1
      try clear p2
      try clear c3
      try clear p6
      try clear c13
      try clear c13b0
      try clear hcz11_0
      try clear hcz11_1
      try clear hcz7_0
      try clear hcz7_1
      try clear hcz9_0
      try clear hcz9_1
      try clear hfz11_0
      try clear hfz11_1
      try clear hfz7_0
      try clear hfz7_1
      try clear hfz9_0
      try clear hfz9_1
      try clear p2
      try clear p6
      obtain ⟨x6_2,x7_2,x8_2,x23_2,rfl,rfl,rfl,rfl,HA,HK2,BK101,HB⟩ := hrel
      cases gk with
      | zero => exact absurd HA.out (by simp [impl_NearestAffine.l1])
      | succ k2 =>
       have H := HA.out
       clear HA
       simp only [impl_NearestAffine.l1] at H
       by_cases c14 : x23_2 < 2
       ·rw [if_pos c14] at H
        have c14b0 : decide (x23_2 < 2) = true := decide_eq_true c14
        clear c14
        replace H := Option.bind_eq_some_iff.mp H
        obtain ⟨⟨t105,t106⟩,A150,H⟩ := H
        replace H : ((impl_ones.f (Go.bits .xor .i64 a0_1 t106)).bind fun t107 => (if t107 < x8_2 then (impl_NearestAffine.l1 k2 x20_1 x23_2 t107 x20_1 t104 x20_1 (wrap64 (x23_2 + 1)) a0_0 a0_1) else (impl_NearestAffine.l1 k2 x6_2 x7_2 x8_2 x20_1 t104 x20_1 (wrap64 (x23_2 + 1)) a0_0 a0_1))) = some (r1,r2,r3,r4) := H
        have A15 := aZ_ A150
        clear A150
        replace H := Option.bind_eq_some_iff.mp H
        obtain ⟨t107,A160,H⟩ := H
        replace H : (if t107 < x8_2 then (impl_NearestAffine.l1 k2 x20_1 x23_2 t107 x20_1 t104 x20_1 (wrap64 (x23_2 + 1)) a0_0 a0_1) else (impl_NearestAffine.l1 k2 x6_2 x7_2 x8_2 x20_1 t104 x20_1 (wrap64 (x23_2 + 1)) a0_0 a0_1)) = some (r1,r2,r3,r4) := H
        have A16 := aZ_ A160
        clear A160
        by_cases c17 : t107 < x8_2
        ·rw [if_pos c17] at H
         have c17b0 : decide (t107 < x8_2) = true := decide_eq_true c17
         clear c17
         have H' := aZ_ H
         clear H
         try go_wp2
         have n0_ := aZ_ (blk_drew BK101.out)
         have n1_ := aZ_ (below_drew1 HB.out)
         clear BK101
         clear HB
         have BK101 := n0_
         have HB := n1_
         clear n0_ n1_
         refine start_ (n := 11) (S := fun w' => w'.cell? ⟨gb101,0,none⟩ = some (.int .i64 a0_0) ∧ w'.cell? ⟨gb101,1,none⟩ = some (.int .i64 a0_1)) (ds := []) #[false,false,false,false,false,false,false,false,false,false,false] T16_ rfl rfl ⟨(blk_cell BK101.out 0).trans rfl,(blk_cell BK101.out 1).trans rfl⟩ (fun hHeld => ?_);refine with_tabW impl_NearestAffine.tab10 impl_NearestAffine.bits10 (fun HT_ HW_ => ?_)
         generalize wr.drew = w18 at BK101 HB hHeld ⊢
         refine pZ_ 0 (some 26) #[true,false,false,false,false,false,false,false,false,false,false] ?_
         refine pZ_ 2 (some 28) #[true,false,true,false,false,false,false,false,false,false,false] ?_
         refine pZ_ 4 (some 30) #[true,false,true,false,true,false,false,false,false,false,false] ?_
         refine pZ_ 5 (some 31) #[true,false,true,false,true,true,false,false,false,false,false] ?_
         refine tZ2_ 1 (some 27) #[true,true,true,false,true,true,false,false,false,false,false] hHeld ?_
         refine tZ2_ 3 (some 29) #[true,true,true,true,true,true,false,false,false,false,false] hHeld ?_
         refine one_ (i := 6) (N := some 32) #[true,true,true,true,true,true,true,false,false,false,false] rfl rfl (one_of HT_.out T16_) T43_ (fun K hK => ?_)
         refine gZ_ Try.func42 #[.int .i64 a0_0,.int .i64 x20_1,.int .i64 x23_2] ?_
         with_reducible refine (impl_affine.calls a0_0 x20_1 x23_2 t105 t106 _ A15.out).mono ?_
         rintro e w19 ⟨rfl,hb⟩
         refine ⟨_,rfl,?_⟩
         have n0_ := aZ_ (blk_below (g := gb101) (o := .cells #[.int .i64 a0_0,.int .i64 a0_1] 25 (0,0)) T2_ hb)
         have n1_ := aZ_ (below_step T1_ hb)
         clear BK101
         clear HB
         have BK101 := n0_
         have HB := n1_
         clear n0_ n1_
         (try clear hb)
         (try clear hb2)
         (try clear hk)
         (try clear hi)
         refine hK.out _ _ ⟨(blk_cell BK101.out 0).trans rfl,(blk_cell BK101.out 1).trans rfl⟩ (fun hHeld => ?_)
         clear hK K
         refine norm_ (a' := ?_) ?_ ?_
         rotate_left
         ·show Act.put _ (some 32) _ = _
          simp only [Act.put,List.setIfInBounds_toArray,List.set_cons_zero,List.set_cons_succ,i64_w,i32_w]
          rfl
         refine pZ_ 7 (some 33) #[true,true,true,true,true,true,true,true,false,false,false] ?_
         refine pZ_ 8 (some 34) #[true,true,true,true,true,true,true,true,true,false,false] ?_
         refine one_ (i := 9) (N := some 35) #[true,true,true,true,true,true,true,true,true,true,false] rfl rfl (one_of HT_.out T16_) T43_ (fun K hK => ?_)
         refine gZ_ Try.func38 #[.int .i64 (Go.bits .xor .i64 a0_1 t106)] ?_
         with_reducible refine (impl_ones.calls (Go.bits .xor .i64 a0_1 t106) t107 _ A16.out).mono ?_
         rintro e w' ⟨rfl,⟨nd,rfl⟩⟩
         refine ⟨_,rfl,?_⟩
         refine hK.out _ _ ⟨(blk_cell BK101.out 0).trans rfl,(blk_cell BK101.out 1).trans rfl⟩ (fun hHeld => ?_)
         clear hK K
         refine norm_ (a' := ?_) ?_ ?_
         rotate_left
         ·show Act.put _ (some 35) _ = _
          simp only [Act.put,List.setIfInBounds_toArray,List.set_cons_zero,List.set_cons_succ,i64_w,i32_w]
          rfl
         refine pZ_ 10 (some 11) #[true,true,true,true,true,true,true,true,true,true,true] ?_
         refine done_ (done_of HT_.out T16_) ?_
         try go_wp2
         go_roundg k2
         case measure => have := HK1.out;have := HK2.out;omega
         case rel => exact ⟨(x20_1),(x23_2),(t107),(wrap64 (x23_2 + 1)),T6_,T6_,T6_,T6_,H',⟨by have := HK1.out;have := HK2.out;omega⟩,⟨by (with_reducible repeat (first | refine blk_drewN ?_ _ | refine blk_drew ?_ | refine blk_alloc ?_ _));exact BK101.out⟩,⟨by repeat (first | (with_reducible first | exact HB.out | apply below_alloc | apply pw_below_drewN | apply below_drew1 | refine below_set ?_ GE101.out) | exact HB.out)⟩⟩
        ·rw [if_neg c17] at H
         have c17b0 : decide (t107 < x8_2) = false := decide_eq_false c17
         clear c17
         have H' := aZ_ H
         clear H
         try go_wp2
         have n0_ := aZ_ (blk_drew BK101.out)
         have n1_ := aZ_ (below_drew1 HB.out)
         clear BK101
         clear HB
         have BK101 := n0_
         have HB := n1_
         clear n0_ n1_
         refine start_ (n := 11) (S := fun w' => w'.cell? ⟨gb101,0,none⟩ = some (.int .i64 a0_0) ∧ w'.cell? ⟨gb101,1,none⟩ = some (.int .i64 a0_1)) (ds := []) #[false,false,false,false,false,false,false,false,false,false,false] T16_ rfl rfl ⟨(blk_cell BK101.out 0).trans rfl,(blk_cell BK101.out 1).trans rfl⟩ (fun hHeld => ?_);refine with_tabW impl_NearestAffine.tab10 impl_NearestAffine.bits10 (fun HT_ HW_ => ?_)
         generalize wr.drew = w20 at BK101 HB hHeld ⊢
         refine pZ_ 0 (some 26) #[true,false,false,false,false,false,false,false,false,false,false] ?_
         refine pZ_ 2 (some 28) #[true,false,true,false,false,false,false,false,false,false,false] ?_
         refine pZ_ 4 (some 30) #[true,false,true,false,true,false,false,false,false,false,false] ?_
         refine pZ_ 5 (some 31) #[true,false,true,false,true,true,false,false,false,false,false] ?_
         refine tZ2_ 1 (some 27) #[true,true,true,false,true,true,false,false,false,false,false] hHeld ?_
         refine tZ2_ 3 (some 29) #[true,true,true,true,true,true,false,false,false,false,false] hHeld ?_
         refine one_ (i := 6) (N := some 32) #[true,true,true,true,true,true,true,false,false,false,false] rfl rfl (one_of HT_.out T16_) T43_ (fun K hK => ?_)
         refine gZ_ Try.func42 #[.int .i64 a0_0,.int .i64 x20_1,.int .i64 x23_2] ?_
         with_reducible refine (impl_affine.calls a0_0 x20_1 x23_2 t105 t106 _ A15.out).mono ?_
         rintro e w21 ⟨rfl,hb⟩
         refine ⟨_,rfl,?_⟩
         have n0_ := aZ_ (blk_below (g := gb101) (o := .cells #[.int .i64 a0_0,.int .i64 a0_1] 25 (0,0)) T2_ hb)
         have n1_ := aZ_ (below_step T1_ hb)
         clear BK101
         clear HB
         have BK101 := n0_
         have HB := n1_
         clear n0_ n1_
         (try clear hb)
         (try clear hb2)
         (try clear hk)
         (try clear hi)
         refine hK.out _ _ ⟨(blk_cell BK101.out 0).trans rfl,(blk_cell BK101.out 1).trans rfl⟩ (fun hHeld => ?_)
         clear hK K
         refine norm_ (a' := ?_) ?_ ?_
         rotate_left
         ·show Act.put _ (some 32) _ = _
          simp only [Act.put,List.setIfInBounds_toArray,List.set_cons_zero,List.set_cons_succ,i64_w,i32_w]
          rfl
         refine pZ_ 7 (some 33) #[true,true,true,true,true,true,true,true,false,false,false] ?_
         refine pZ_ 8 (some 34) #[true,true,true,true,true,true,true,true,true,false,false] ?_
         refine one_ (i := 9) (N := some 35) #[true,true,true,true,true,true,true,true,true,true,false] rfl rfl (one_of HT_.out T16_) T43_ (fun K hK => ?_)
         refine gZ_ Try.func38 #[.int .i64 (Go.bits .xor .i64 a0_1 t106)] ?_
         with_reducible refine (impl_ones.calls (Go.bits .xor .i64 a0_1 t106) t107 _ A16.out).mono ?_
         rintro e w' ⟨rfl,⟨nd,rfl⟩⟩
         refine ⟨_,rfl,?_⟩
         refine hK.out _ _ ⟨(blk_cell BK101.out 0).trans rfl,(blk_cell BK101.out 1).trans rfl⟩ (fun hHeld => ?_)
         clear hK K
         refine norm_ (a' := ?_) ?_ ?_
         rotate_left
         ·show Act.put _ (some 35) _ = _
          simp only [Act.put,List.setIfInBounds_toArray,List.set_cons_zero,List.set_cons_succ,i64_w,i32_w]
          rfl
         refine pZ_ 10 (some 11) #[true,true,true,true,true,true,true,true,true,true,true] ?_
         refine done_ (done_of HT_.out T16_) ?_
         try go_wp2
         go_roundg k2
         case measure => have := HK1.out;have := HK2.out;omega
         case rel => exact ⟨(x6_2),(x7_2),(x8_2),(wrap64 (x23_2 + 1)),T6_,T6_,T6_,T6_,H',⟨by have := HK1.out;have := HK2.out;omega⟩,⟨by (with_reducible repeat (first | refine blk_drewN ?_ _ | refine blk_drew ?_ | refine blk_alloc ?_ _));exact BK101.out⟩,⟨by repeat (first | (with_reducible first | exact HB.out | apply below_alloc | apply pw_below_drewN | apply below_drew1 | refine below_set ?_ GE101.out) | exact HB.out)⟩⟩
       ·rw [if_neg c14] at H
        have c14b0 : decide (x23_2 < 2) = false := decide_eq_false c14
        clear c14
        have H' := aZ_ H
        clear H
        go_wp2
        go_roundg k2
        case measure => have := HK1.out;have := HK2.out;omega
        case rel => exact ⟨(x6_2),(x7_2),(x8_2),(wrap64 (x20_1 + 1)),T6_,T6_,T6_,T6_,H',⟨by have := HK1.out;have := HK2.out;omega⟩,⟨by (with_reducible repeat (first | refine blk_drewN ?_ _ | refine blk_drew ?_ | refine blk_alloc ?_ _));exact BK101.out⟩,⟨by repeat (first | (with_reducible first | exact HB.out | apply below_alloc | apply pw_below_drewN | apply below_drew1 | refine below_set ?_ GE101.out) | exact HB.out)⟩⟩
    ·rw [if_neg c13] at H
     have c13b0 : decide (x20_1 < t104) = false := decide_eq_false c13
     clear c13
     simp only [Option.some.injEq,Prod.mk.injEq] at H
     obtain ⟨rfl,rfl,rfl,rfl⟩ := H
     go_wp2
     refine bodyPost_ret (results_list (rs := [.tmp 2,.tmp 3,.tmp 4,.tmp 5]) rfl T42_ (.tmp (.tmp (.tmp (.tmp .nil))))) rfl ?_
     exact ⟨by first | rfl | (simp [errW_none,errW_some] <;> rfl) | (simp [*,errW_none,errW_some] <;> rfl),by repeat (first | (with_reducible first | exact HB.out | apply below_alloc | apply pw_below_drewN | apply below_drew1 | refine below_set ?_ GE101.out) | exact HB.out)⟩
 ·replace c3 := Bool.eq_false_iff.mpr c3
  subst c3
  have H1 : (some (0,0,0,false)) = some (r1,r2,r3,r4) := by rw [if_neg (show ¬ (false = true) by decide)] at H;exact H
  clear H
  have H := H1
  clear H1
  simp only [Option.some.injEq,Prod.mk.injEq] at H
  obtain ⟨rfl,rfl,rfl,rfl⟩ := H
  go_enter Try.func14,Try.ntmps14
  go_wp2_with (first | ((with_reducible refine gate_dst (N := 1) rfl ?_);refine box_event ?hg (N := 1) ?hd (cs := #[.int .i64 a0_0,.int .i64 a0_1]) (t := 25) ?hr ?_;(case hd => rfl);(case hg => rfl);(case hr => first | (go_simp;done) | (go_simp;rfl));intro gb101 hg w22 hbox hb;have n0_ := aZ_ (below_step T7_ hb);have n1_ := aZ_ (hbox);have n2_ := aZ_ ((T4_ : w.heap.size ≤ gb101));have n3_ := aZ_ ((T4_ : w.heap.size ≤ gb101));clear HB;have HB := n0_;have BK101 := n1_;have GW101 := n2_;have GE101 := n3_;clear n0_ n1_ n2_ n3_;clear hb hbox hg;have hcz23_0 : w22.cell? ⟨gb101,0,none⟩ = some (.int .i64 a0_0) := (blk_cell BK101.out 0).trans rfl;have hcz23_1 : w22.cell? ⟨gb101,1,none⟩ = some (.int .i64 a0_1) := (blk_cell BK101.out 1).trans rfl;have hfz23_0 := blk_frozen BK101.out 0;have hfz23_1 := blk_frozen BK101.out 1) | ((with_reducible refine gate_callee (f := 32) rfl ?_);refine goesL_ (some 13) rfl rfl Try.func32 T16_ rfl #[.agg #[.int .i64 a0_0,.int .i64 a0_1]] rfl T3_ ?_;(with_reducible refine (impl_IsTable.calls a0_0 a0_1 false _ A2.out).mono ?_);rintro e w24 ⟨rfl,hb⟩;refine ⟨_,rfl,?_⟩;have n0_ := aZ_ (blk_below (g := gb101) (o := .cells #[.int .i64 a0_0,.int .i64 a0_1] 25 (0,0)) T2_ hb);have n1_ := aZ_ (below_step T1_ hb);clear BK101;clear HB;have BK101 := n0_;have HB := n1_;clear n0_ n1_;(try clear hb);(try clear hb2);(try clear hk);(try clear hi)))
  refine bodyPost_ret (results_list (rs := [.tmp 2,.tmp 3,.tmp 4,.tmp 5]) rfl T42_ (.tmp (.tmp (.tmp (.tmp .nil))))) rfl ?_
  exact ⟨by first | rfl | (simp [errW_none,errW_some] <;> rfl) | (simp [*,errW_none,errW_some] <;> rfl),by repeat (first | (with_reducible first | exact HB.out | apply below_alloc | apply pw_below_drewN | apply below_drew1 | refine below_set ?_ GE101.out) | exact HB.out)⟩
mutual
def impl_Table_autocorrelation.l0 : Nat → List Int → Int → Int → Int → Int → Option (List Int)
 | 0,_,_,_,_,_ => none
 | k + 1,x3,x10,x11,x102000,x102001 => if x11 < x10 then ((impl_Table_size.f x102000 x102001).bind fun t106 => (impl_Table_autocorrelation.l1 k x3 x11 x10 x11 t106 0 x102000 x102001)) else (some x3)
def impl_Table_autocorrelation.l1 : Nat → List Int → Int → Int → Int → Int → Int → Int → Int → Option (List Int)
 | 0,_,_,_,_,_,_,_,_ => none
 | k + 1,x3,x4,x10,x11,x15,x16,x102000,x102001 => if x16 < x15 then (if 0 ≤ x4 then (if x4 < (x3.length : Int) then ((impl_Table_at.f x102000 x102001 x16).bind fun t108 => ((impl_Table_at.f x102000 x102001 (Go.bits .xor .i64 x16 x4)).bind fun t109 => ((impl_sign.f (wrap64 (t108 + t109))).bind fun t110 => (impl_Table_autocorrelation.l1 k (x3.set (x4 : Int).toNat (wrap64 ((rd x3 x4) + t110))) x4 x10 x11 x15 (wrap64 (x16 + 1)) x102000 x102001)))) else (none)) else (none)) else (impl_Table_autocorrelation.l0 k x3 x10 (wrap64 (x11 + 1)) x102000 x102001)
end
def impl_Table_autocorrelation.f (k : Nat) (a0_0 : Int) (a0_1 : Int) : Option (List Int) := (impl_Table_size.f a0_0 a0_1).bind fun t102 => (if 0 ≤ t102 then (if (t102 : Int).toNat ≤ 35184372088832 then ((some (List.replicate (t102 : Int).toNat 0 : List Int)).bind fun y103 => (impl_Table_autocorrelation.l0 k y103 (y103.length : Int) 0 a0_0 a0_1)) else (none)) else (none))
def impl_Table_autocorrelation.T8 : Bool × List (List Nat × List Nat) := (true,[([],[]),([],[]),([0,1],[0,1]),([2],[2]),([],[]),([],[]),([4,5],[4,5]),([],[]),([],[]),([],[]),([8,9],[8,9]),([7,10,6],[7,10]),([6,11],[6,11]),([12,11],[12]),([3,13],[3,13]),([0,1,0,1,2,3,4,5,6,7,8,9,10,11,12,13,14],[0,1]),([15,14,13,0,1,2,3,4,5,6,7,8,9,10,11,12,13,14],[14,15])])
def impl_Table_autocorrelation.B8 : List Nat := [0,0,3,7,0,0,48,0,0,0,768,2032,4080,8176,16383,32767,65535]
theorem impl_Table_autocorrelation.tab8 : rtab .any (opsOf Try.f43 8) = impl_Table_autocorrelation.T8 := by kernel_rfl
theorem impl_Table_autocorrelation.bits8 : waitsOk impl_Table_autocorrelation.T8.2 impl_Table_autocorrelation.B8 = true := by kernel_rfl
set_option maxHeartbeats 8000000 in
set_option maxRecDepth 100000 in
theorem impl_Table_autocorrelation.calls (k : Nat) (a0_0 : Int) (a0_1 : Int) (r : List Int) (w : World) (h : impl_Table_autocorrelation.f k a0_0 a0_1 = some r) :
  Calls Try.prog 43 #[.agg #[.int .i64 a0_0,.int .i64 a0_1]] w fun e w' => ∃ v0_ : Value,e = .returned (v0_) ∧ Kd.R (Kd.int .i64) 3 w' w.heap.size (fun _ => True) v0_ r ∧ Below w.heap.size w w' := by
 have hu25 := Try.underlying25
 have HB := aZ_ (Below.refl w.heap.size w)
 have H : ((impl_Table_size.f a0_0 a0_1).bind fun t102 => (if 0 ≤ t102 then (if (t102 : Int).toNat ≤ 35184372088832 then ((some (List.replicate (t102 : Int).toNat 0 : List Int)).bind fun y103 => (impl_Table_autocorrelation.l0 k y103 (y103.length : Int) 0 a0_0 a0_1)) else (none)) else (none))) = some r := h
 clear h
 replace H := Option.bind_eq_some_iff.mp H
 obtain ⟨t102,A20,H⟩ := H
 replace H : (if 0 ≤ t102 then (if (t102 : Int).toNat ≤ 35184372088832 then ((some (List.replicate (t102 : Int).toNat 0 : List Int)).bind fun y103 => (impl_Table_autocorrelation.l0 k y103 (y103.length : Int) 0 a0_0 a0_1)) else (none)) else (none)) = some r := H
 have A2 := aZ_ A20
 clear A20
 by_cases c3 : 0 ≤ t102
 ·rw [if_pos c3] at H
  have c3b0 := eq_true c3
  have c3b1 : decide (0 ≤ t102) = true := decide_eq_true c3
  clear c3
  by_cases c4 : (t102 : Int).toNat ≤ 35184372088832
  ·rw [if_pos c4] at H
   have c4b0 := eq_true c4
   have c4b1 : decide ((t102 : Int).toNat ≤ 35184372088832) = true := decide_eq_true c4
   clear c4
   obtain ⟨y103,hy103⟩ : ∃ y_ : List Int,y_ = (List.replicate (t102 : Int).toNat 0) := ⟨_,rfl⟩
   replace H : (impl_Table_autocorrelation.l0 k y103 (y103.length : Int) 0 a0_0 a0_1) = some r := by first | (rw [hy103];with_reducible exact H) | (have H2_ := (Option.bind_some _ _).symm.trans H;rw [hy103];with_reducible exact H2_) | (have H2_ := (Option.bind_some _ _).symm.trans H;with_reducible exact H2_) | with_reducible exact H | (rw [hy103];exact H) | exact H
   have Ny103 := aZ_ hy103
   clear hy103
   have H' := aZ_ H
   clear H
   go_enter Try.func43,Try.ntmps43
   go_wp2_with (first | ((with_reducible refine gate_dst (N := 1) rfl ?_);refine box_event ?hg (N := 1) ?hd (cs := #[.int .i64 a0_0,.int .i64 a0_1]) (t := 25) ?hr ?_;(case hd => rfl);(case hg => rfl);(case hr => first | (go_simp;done) | (go_simp;rfl));intro gb101 hg w5 hbox hb;have n0_ := aZ_ (below_step T7_ hb);have n1_ := aZ_ (hbox);have n2_ := aZ_ ((T4_ : w.heap.size ≤ gb101));have n3_ := aZ_ ((T4_ : w.heap.size ≤ gb101));clear HB;have HB := n0_;have BK101 := n1_;have GW101 := n2_;have GE101 := n3_;clear n0_ n1_ n2_ n3_;clear hb hbox hg;have hcz6_0 : w5.cell? ⟨gb101,0,none⟩ = some (.int .i64 a0_0) := (blk_cell BK101.out 0).trans rfl;have hcz6_1 : w5.cell? ⟨gb101,1,none⟩ = some (.int .i64 a0_1) := (blk_cell BK101.out 1).trans rfl;have hfz6_0 := blk_frozen BK101.out 0;have hfz6_1 := blk_frozen BK101.out 1) | ((with_reducible refine gate_callee (f := 36) rfl ?_);refine goesL_ (some 7) rfl rfl Try.func36 T16_ rfl #[.agg #[.int .i64 a0_0,.int .i64 a0_1]] rfl T3_ ?_;(with_reducible refine (impl_Table_size.calls a0_0 a0_1 t102 _ A2.out).mono ?_);rintro e w7 ⟨rfl,hb⟩;refine ⟨_,rfl,?_⟩;have n0_ := aZ_ (blk_below (g := gb101) (o := .cells #[.int .i64 a0_0,.int .i64 a0_1] 25 (0,0)) T2_ hb);have n1_ := aZ_ (below_step T1_ hb);clear BK101;clear HB;have BK101 := n0_;have HB := n1_;clear n0_ n1_;(try clear hb);(try clear hb2);(try clear hk);(try clear hi)) | ((with_reducible refine gate_dst (N := 8) rfl ?_);refine Kd.R_make (Kd.int .i64) _ 3 rfl (N := 8) rfl 27 _ _ rfl t102 rfl rfl Try.underlying27 (.int .i64 0) 8 info3 rfl T43_ T48_ 0 (ok := fun _ => True) (okp := fun _ => True) rfl (fun _ hk => hk) trivial (of_decide_eq_true T10_) (Nat.le_trans (Nat.mul_le_mul_right _ (of_decide_eq_true T10_ : t102.toNat ≤ 35184372088832)) T48_) (Below.refl _ _) (Nat.le_refl _) ?_;intro v104 w8 ho9 hb hg_ hnew_;clear hg_ hnew_;(first | rw [← Ny103.out] at ho9 | (simp only [Int.reduceToNat] at ho9;rw [← Ny103.out] at ho9));have n0_ := aZ_ (Kd.R_lower ho9 (below_size T1_));have n1_ := aZ_ (blk_below (g := gb101) (o := .cells #[.int .i64 a0_0,.int .i64 a0_1] 25 (0,0)) T2_ hb);have n2_ := aZ_ (below_step T1_ hb);clear BK101;clear HB;have HO105 := n0_;have BK101 := n1_;have HB := n2_;clear n0_ n1_ n2_;clear hb ho9;obtain ⟨Ao10,co10,eo10⟩ := Kd.R_slice HO105.out;subst eo10))
   go_loopg [11] k (fun kq v11 w' => ∃ (x3_1 : List Int) (x11_1 : Int),v11 = .int .i64 x11_1 ∧ Aside0 (impl_Table_autocorrelation.l0 kq x3_1 (y103.length : Int) x11_1 a0_0 a0_1 = some r) ∧ Aside0 (kq ≤ k) ∧ Aside0 (Kd.R (Kd.int .i64) 3 w' w.heap.size (fun _ => True) (.slice Ao10 y103.length co10) x3_1) ∧ Aside0 (w'.heap[gb101]? = some (.cells #[.int .i64 a0_0,.int .i64 a0_1] 25 (0,0))) ∧ Aside0 (Below w.heap.size w w'))
   case atStart => exact ⟨(y103),(0),T6_,H',⟨Nat.le_refl _⟩,⟨by (with_reducible repeat (first | apply Kd.R_alloc | apply Kd.R_drewN | apply Kd.R_drew));exact HO105.out⟩,⟨by (with_reducible repeat (first | refine blk_drewN ?_ _ | refine blk_drew ?_ | refine blk_alloc ?_ _));exact BK101.out⟩,⟨by repeat (first | (with_reducible first | exact HB.out | apply below_alloc | apply pw_below_drewN | apply below_drew1 | refine below_set ?_ GE101.out) | exact HB.out)⟩⟩
   case round =>
    clear H'
    try clear p2
    try clear c3
    try clear c3b0
    try clear c3b1
    try clear c4
    try clear c4b0
    try clear c4b1
    try clear hcz6_0
    try clear hcz6_1
    try clear hfz6_0
    try clear hfz6_1
    obtain ⟨x3_1,x11_1,rfl,HA,HK1,HO_3,BK101,HB⟩ := hrel
    have hl3_1 := (Kd.R_reads' HO_3.out).1
    rw [hl3_1] at HO_3
    (try simp only [hl3_1])
    (try simp only [hl3_1] at BK101)
    cases gk with
    | zero => exact absurd HA.out (by simp [impl_Table_autocorrelation.l0])
    | succ k1 =>
     have H := HA.out
     clear HA
     simp only [impl_Table_autocorrelation.l0] at H
     by_cases c11 : x11_1 < (y103.length : Int)
     ·rw [if_pos c11] at H
      have c11b0 : decide (x11_1 < (y103.length : Int)) = true := decide_eq_true c11
      (try rw [hl3_1] at c11b0)
      (try rw [hl3_2] at c11b0)
      clear c11
      replace H := Option.bind_eq_some_iff.mp H
      obtain ⟨t106,A120,H⟩ := H
      replace H : (impl_Table_autocorrelation.l1 k1 x3_1 x11_1 (y103.length : Int) x11_1 t106 0 a0_0 a0_1) = some r := H
      have A12 := aZ_ A120
      clear A120
      have H' := aZ_ H
      clear H
      have hcz13_0 : wr.cell? ⟨gb101,0,none⟩ = some (.int .i64 a0_0) := (blk_cell BK101.out 0).trans rfl
      have hcz13_1 : wr.cell? ⟨gb101,1,none⟩ = some (.int .i64 a0_1) := (blk_cell BK101.out 1).trans rfl
      have hfz13_0 := blk_frozen BK101.out 0
      have hfz13_1 := blk_frozen BK101.out 1
      go_wp2_with (first | ((with_reducible refine gate_callee (f := 36) rfl ?_);refine goesL_ (some 15) rfl rfl Try.func36 T16_ rfl #[.agg #[.int .i64 a0_0,.int .i64 a0_1]] rfl T3_ ?_;(with_reducible refine (impl_Table_size.calls a0_0 a0_1 t106 _ A12.out).mono ?_);rintro e w14 ⟨rfl,hb⟩;refine ⟨_,rfl,?_⟩;have n0_ := aZ_ (Kd.R_below T17_ hb);have n1_ := aZ_ (blk_below (g := gb101) (o := .cells #[.int .i64 a0_0,.int .i64 a0_1] 25 (0,0)) T2_ hb);have n2_ := aZ_ (below_step T1_ hb);clear HO_3;clear BK101;clear HB;have HO_3 := n0_;have BK101 := n1_;have HB := n2_;clear n0_ n1_ n2_;(try clear hb);(try clear hb2);(try clear hk);(try clear hi)))
      go_loopg [16] k1 (fun kq v16 w' => ∃ (x3_2 : List Int) (x16_2 : Int),v16 = .int .i64 x16_2 ∧ Aside0 (impl_Table_autocorrelation.l1 kq x3_2 x11_1 (y103.length : Int) x11_1 t106 x16_2 a0_0 a0_1 = some r) ∧ Aside0 (kq ≤ k1) ∧ Aside0 (Kd.R (Kd.int .i64) 3 w' w.heap.size (fun _ => True) (.slice Ao10 x3_1.length co10) x3_2) ∧ Aside0 (w'.heap[gb101]? = some (.cells #[.int .i64 a0_0,.int .i64 a0_1] 25 (0,0))) ∧ Aside0 (Below w.heap.size w w'))
      case atStart => exact ⟨(x3_1),(0),T6_,H',⟨Nat.le_refl _⟩,⟨by (try simp only [hl3_1]);(with_reducible repeat (first | apply Kd.R_alloc | apply Kd.R_drewN | apply Kd.R_drew));exact HO_3.out⟩,⟨by (try simp only [hl3_1]);(with_reducible repeat (first | refine blk_drewN ?_ _ | refine blk_drew ?_ | refine blk_alloc ?_ _));exact BK101.out⟩,⟨by repeat (first | (with_reducible first | exact HB.out | apply below_alloc | apply pw_below_drewN | apply below_drew1 | refine below_set ?_ GE101.out) | exact HB.out)⟩⟩
      case round =>
       clear H'
       try clear c1
       try clear p2
       try clear c3
       try clear c3b0
       try clear c3b1
       try clear c4
       try clear c4b0
       try clear c4b1
       try clear c11
       try clear c11b0
       try clear hcz13_0
       try clear hcz13_1
       try clear hcz6_0
       try clear hcz6_1
       try clear hfz13_0
       try clear hfz13_1
       try clear hfz6_0
       try clear hfz6_1
       try clear p2
       obtain ⟨x3_2,x16_2,rfl,HA,HK2,HO_3,BK101,HB⟩ := hrel
       have hl3_2 := (Kd.R_reads' HO_3.out).1
       rw [hl3_2] at HO_3
       (try simp only [hl3_2])
       (try simp only [hl3_2] at BK101)
       cases gk with
       | zero => exact absurd HA.out (by simp [impl_Table_autocorrelation.l1])
       | succ k2 =>
        have H := HA.out
        clear HA
        simp only [impl_Table_autocorrelation.l1] at H
        by_cases c15 : x16_2 < t106
        ·rw [if_pos c15] at H
         have c15b0 : decide (x16_2 < t106) = true := decide_eq_true c15
         clear c15
         by_cases c16 : 0 ≤ x11_1
         ·rw [if_pos c16] at H
          have c16b0 : decide (0 ≤ x11_1) = true := decide_eq_true c16
          clear c16
          by_cases c17 : x11_1 < (x3_2.length : Int)
          ·rw [if_pos c17] at H
           have c17b0 : decide (x11_1 < (x3_2.length : Int)) = true := decide_eq_true c17
           (try rw [hl3_1] at c17b0)
           (try rw [hl3_2] at c17b0)
           clear c17
           replace H := Option.bind_eq_some_iff.mp H
           obtain ⟨t108,A180,H⟩ := H
           replace H : ((impl_Table_at.f a0_0 a0_1 (Go.bits .xor .i64 x16_2 x11_1)).bind fun t109 => ((impl_sign.f (wrap64 (t108 + t109))).bind fun t110 => (impl_Table_autocorrelation.l1 k2 (x3_2.set (x11_1 : Int).toNat (wrap64 ((rd x3_2 x11_1) + t110))) x11_1 (y103.length : Int) x11_1 t106 (wrap64 (x16_2 + 1)) a0_0 a0_1))) = some r := H
           have A18 := aZ_ A180
           clear A180
           replace H := Option.bind_eq_some_iff.mp H
           obtain ⟨t109,A190,H⟩ := H
           replace H : ((impl_sign.f (wrap64 (t108 + t109))).bind fun t110 => (impl_Table_autocorrelation.l1 k2 (x3_2.set (x11_1 : Int).toNat (wrap64 ((rd x3_2 x11_1) + t110))) x11_1 (y103.length : Int) x11_1 t106 (wrap64 (x16_2 + 1)) a0_0 a0_1)) = some r := H
           have A19 := aZ_ A190
           clear A190
           replace H := Option.bind_eq_some_iff.mp H
           obtain ⟨t110,A200,H⟩ := H
           replace H : (impl_Table_autocorrelation.l1 k2 (x3_2.set (x11_1 : Int).toNat (wrap64 ((rd x3_2 x11_1) + t110))) x11_1 (y103.length : Int) x11_1 t106 (wrap64 (x16_2 + 1)) a0_0 a0_1) = some r := H
           have A20 := aZ_ A200
           clear A200
           obtain ⟨y111,hy111⟩ : ∃ y_ : List Int,y_ = (x3_2.set (x11_1 : Int).toNat (wrap64 ((rd x3_2 x11_1) + t110))) := ⟨_,rfl⟩
           replace H : (impl_Table_autocorrelation.l1 k2 y111 x11_1 (y103.length : Int) x11_1 t106 (wrap64 (x16_2 + 1)) a0_0 a0_1) = some r := by first | (rw [hy111];with_reducible exact H) | (have H2_ := (Option.bind_some _ _).symm.trans H;rw [hy111];with_reducible exact H2_) | (have H2_ := (Option.bind_some _ _).symm.trans H;with_reducible exact H2_) | with_reducible exact H | (rw [hy111];exact H) | exact H
           have Ny111 := aZ_ hy111
           clear hy111
           have H' := aZ_ H
           clear H
           try go_wp2
           have n0_ := aZ_ (Kd.R_drew HO_3.out)
           have n1_ := aZ_ (blk_drew BK101.out)
           have n2_ := aZ_ (below_drew1 HB.out)
           clear HO_3
           clear BK101
           clear HB
           have HO_3 := n0_
           have BK101 := n1_
           have HB := n2_
           clear n0_ n1_ n2_
           have p107 : 0 ≤ (x11_1 : Int) := of_decide_eq_true T10_
           have q107 : x11_1 < (x3_2.length : Int) := of_decide_eq_true T10_
           obtain ⟨ad107,e107,hx107_0⟩ := Kd.at_int (Kd.R_reads' HO_3.out).2.2 x11_1 p107 q107
           cases e107
           replace p107 := eq_true p107
           replace q107 := eq_true q107
           refine start_ (n := 17) (S := fun w' => w'.cell? ⟨gb101,0,none⟩ = some (.int .i64 a0_0) ∧ w'.cell? ⟨gb101,1,none⟩ = some (.int .i64 a0_1) ∧ w'.cell? (ad107.add (x11_1).toNat) = some (.int .i64 (rd x3_2 x11_1))) (ds := [16]) #[false,false,false,false,false,false,false,false,false,false,false,false,false,false,false,false,false] T16_ rfl rfl ⟨(blk_cell BK101.out 0).trans rfl,(blk_cell BK101.out 1).trans rfl,hx107_0⟩ (fun hHeld => ?_);refine with_tabW impl_Table_autocorrelation.tab8 impl_Table_autocorrelation.bits8 (fun HT_ HW_ => ?_)
           generalize wr.drew = w22 at HO_3 BK101 HB hx107_0 hHeld ⊢
           refine pZ_ 0 (some 19) #[true,false,false,false,false,false,false,false,false,false,false,false,false,false,false,false,false] ?_
           refine pZ_ 1 (some 20) #[true,true,false,false,false,false,false,false,false,false,false,false,false,false,false,false,false] ?_
           refine pZ_ 2 (some 21) #[true,true,true,false,false,false,false,false,false,false,false,false,false,false,false,false,false] ?_
           refine pZ_ 5 (some 24) #[true,true,true,false,false,true,false,false,false,false,false,false,false,false,false,false,false] ?_
           refine pZ_ 8 (some 27) #[true,true,true,false,false,true,false,false,true,false,false,false,false,false,false,false,false] ?_
           refine pZ_ 9 (some 28) #[true,true,true,false,false,true,false,false,true,true,false,false,false,false,false,false,false] ?_
           refine pZ_ 10 (some 29) #[true,true,true,false,false,true,false,false,true,true,true,false,false,false,false,false,false] ?_
           refine tZ3_ 3 (some 22) #[true,true,true,true,false,true,false,false,true,true,true,false,false,false,false,false,false] hHeld ?_
           refine tZ3_ 4 (some 23) #[true,true,true,true,true,true,false,false,true,true,true,false,false,false,false,false,false] hHeld ?_
           refine tZ3_ 7 (some 26) #[true,true,true,true,true,true,false,true,true,true,true,false,false,false,false,false,false] hHeld ?_
           refine one_ (i := 6) (N := some 25) #[true,true,true,true,true,true,true,true,true,true,true,false,false,false,false,false,false] rfl rfl (one_of HT_.out T16_) T43_ (fun K hK => ?_)
           refine gZ_ Try.func44 #[.agg #[.int .i64 a0_0,.int .i64 a0_1],.int .i64 x16_2] ?_
           with_reducible refine (impl_Table_at.calls a0_0 a0_1 x16_2 t108 _ A18.out).mono ?_
           rintro e w23 ⟨rfl,hb⟩
           have HS2_ := (hb.cell (World.block_lt_of_cell? _ _ (hHeld.2.2))).trans (hHeld.2.2)
           refine ⟨_,rfl,?_⟩
           have n0_ := aZ_ (Kd.R_below T17_ hb)
           have n1_ := aZ_ (blk_below (g := gb101) (o := .cells #[.int .i64 a0_0,.int .i64 a0_1] 25 (0,0)) T2_ hb)
           have n2_ := aZ_ (below_step T1_ hb)
           clear HO_3
           clear BK101
           clear HB
           have HO_3 := n0_
           have BK101 := n1_
           have HB := n2_
           clear n0_ n1_ n2_
           (try clear hb)
           (try clear hb2)
           (try clear hk)
           (try clear hi)
           refine hK.out _ _ ⟨(blk_cell BK101.out 0).trans rfl,(blk_cell BK101.out 1).trans rfl,HS2_⟩ (fun hHeld => ?_)
           clear hK K
           refine norm_ (a' := ?_) ?_ ?_
           rotate_left
           ·show Act.put _ (some 25) _ = _
            simp only [Act.put,List.setIfInBounds_toArray,List.set_cons_zero,List.set_cons_succ,i64_w,i32_w]
            rfl
           refine one_ (i := 11) (N := some 30) #[true,true,true,true,true,true,true,true,true,true,true,true,false,false,false,false,false] rfl rfl (one_of HT_.out T16_) T43_ (fun K hK => ?_)
           refine gZ_ Try.func44 #[.agg #[.int .i64 a0_0,.int .i64 a0_1],.int .i64 (Go.bits .xor .i64 x16_2 x11_1)] ?_
           with_reducible refine (impl_Table_at.calls a0_0 a0_1 (Go.bits .xor .i64 x16_2 x11_1) t109 _ A19.out).mono ?_
           rintro e w24 ⟨rfl,hb⟩
           have HS2_ := (hb.cell (World.block_lt_of_cell? _ _ (hHeld.2.2))).trans (hHeld.2.2)
           refine ⟨_,rfl,?_⟩
           have n0_ := aZ_ (Kd.R_below T17_ hb)
           have n1_ := aZ_ (blk_below (g := gb101) (o := .cells #[.int .i64 a0_0,.int .i64 a0_1] 25 (0,0)) T2_ hb)
           have n2_ := aZ_ (below_step T1_ hb)
           clear HO_3
           clear BK101
           clear HB
           have HO_3 := n0_
           have BK101 := n1_
           have HB := n2_
           clear n0_ n1_ n2_
           (try clear hb)
           (try clear hb2)
           (try clear hk)
           (try clear hi)
           refine hK.out _ _ ⟨(blk_cell BK101.out 0).trans rfl,(blk_cell BK101.out 1).trans rfl,HS2_⟩ (fun hHeld => ?_)
           clear hK K
           refine norm_ (a' := ?_) ?_ ?_
           rotate_left
           ·show Act.put _ (some 30) _ = _
            simp only [Act.put,List.setIfInBounds_toArray,List.set_cons_zero,List.set_cons_succ,i64_w,i32_w]
            rfl
           refine pZ_ 12 (some 31) #[true,true,true,true,true,true,true,true,true,true,true,true,true,false,false,false,false] ?_
           refine one_ (i := 13) (N := some 32) #[true,true,true,true,true,true,true,true,true,true,true,true,true,true,false,false,false] rfl rfl (one_of HT_.out T16_) T43_ (fun K hK => ?_)
           refine gZ_ Try.func41 #[.int .i64 (wrap64 (t108 + t109))] ?_
           with_reducible refine (impl_sign.calls (wrap64 (t108 + t109)) t110 _ A20.out).mono ?_
           rintro e w' ⟨rfl,⟨nd,rfl⟩⟩
           refine ⟨_,rfl,?_⟩
           have p21 : 0 ≤ (x11_1 : Int) := of_decide_eq_true T10_
           have q21 : (x11_1 : Int) < ((x3_2.length : Int) : Int) := of_decide_eq_true T10_
           obtain ⟨go21,co21,eo21,gb21,gl21,cl21,HG21⟩ := Kd.R_form HO_3.out T48_
           (first | cases eo21 | (injection eo21 with ea_ en_ ec_;(first | subst ea_ | (injection ea_ with ea_;subst ea_));subst ec_;clear en_))
           have GB21 := aZ_ gb21
           have GG21 := aZ_ HG21
           clear gb21 gl21 HG21
           (first | simp only [add_plain] at hx107_0 | skip)
           obtain ⟨hx21_0,hf21_0⟩ := Kd.R_celln 0 HO_3.out (x11_1 : Int) p21 q21
           replace p21 := eq_true p21
           replace q21 := eq_true q21
           have HP25 := Kd.R_putn HO_3.out (x11_1 : Int) (wrap64 ((rd x3_2 x11_1) + t110))
           rw [← Ny111.out] at HP25
           have HQ25 := aZ_ HP25
           clear HP25
           refine hK.out _ _ ⟨(blk_cell BK101.out 0).trans rfl,(blk_cell BK101.out 1).trans rfl,hHeld.2.2⟩ (fun hHeld => ?_)
           clear hK K
           refine norm_ (a' := ?_) ?_ ?_
           rotate_left
           ·show Act.put _ (some 32) _ = _
            simp only [Act.put,List.setIfInBounds_toArray,List.set_cons_zero,List.set_cons_succ,i64_w,i32_w]
            rfl
           refine pZ_ 14 (some 33) #[true,true,true,true,true,true,true,true,true,true,true,true,true,true,true,false,false] ?_
           refine pZ_ 15 (some 34) #[true,true,true,true,true,true,true,true,true,true,true,true,true,true,true,true,false] ?_
           refine last_ (i := 16) (N := none) #[true,true,true,true,true,true,true,true,true,true,true,true,true,true,true,true,true] rfl rfl (one_of HT_.out T16_) T43_ (fun K hK => ?_)
           refine skip_ (w1 := ?_) (by rfl) rfl ?_ ?_
           rotate_left
           ·go_simp
            rfl
           refine hK.out _ _ ?_
           clear hK K
           refine done_ (done_of HT_.out T16_) ?_
           try go_wp2
           (try simp only [← hl3_2])
           go_roundg k2
           case measure => have := HK1.out;have := HK2.out;omega
           case rel => exact ⟨(y111),(wrap64 (x16_2 + 1)),T6_,H',⟨by have := HK1.out;have := HK2.out;omega⟩,⟨by (try simp only [hl3_1]);(try simp only [hl3_2]);(with_reducible repeat (first | apply Kd.R_alloc | apply Kd.R_drewN | apply Kd.R_drew));exact HQ25.out⟩,⟨by (try simp only [hl3_1]);(try simp only [hl3_2]);(with_reducible repeat (first | refine blk_drewN ?_ _ | refine blk_drew ?_ | refine blk_alloc ?_ _));refine blk_far ?_ (by have h_ := Kd.R_ne HO_3.out BK101.out T43_;intro e_;exact h_ (by rw [e_];rfl)) _;(with_reducible repeat (first | refine blk_drewN ?_ _ | refine blk_drew ?_ | refine blk_alloc ?_ _));exact BK101.out⟩,⟨by repeat (first | (with_reducible first | exact HB.out | apply below_alloc | apply pw_below_drewN | apply below_drew1 | refine below_set ?_ GB21.out | refine below_set ?_ GE101.out) | exact HB.out)⟩⟩
          ·rw [if_neg c17] at H
           exact absurd H T42_
         ·rw [if_neg c16] at H
          exact absurd H T42_
        ·rw [if_neg c15] at H
         have c15b0 : decide (x16_2 < t106) = false := decide_eq_false c15
         clear c15
         have H' := aZ_ H
         clear H
         go_wp2
         (try simp only [← hl3_1,← hl3_2])
         go_roundg k2
         case measure => have := HK1.out;have := HK2.out;omega
         case rel => exact ⟨(x3_2),(wrap64 (x11_1 + 1)),T6_,H',⟨by have := HK1.out;have := HK2.out;omega⟩,⟨by (try simp only [hl3_1]);(try simp only [hl3_2]);(with_reducible repeat (first | apply Kd.R_alloc | apply Kd.R_drewN | apply Kd.R_drew));exact HO_3.out⟩,⟨by (try simp only [hl3_1]);(try simp only [hl3_2]);(with_reducible repeat (first | refine blk_drewN ?_ _ | refine blk_drew ?_ | refine blk_alloc ?_ _));exact BK101.out⟩,⟨by repeat (first | (with_reducible first | exact HB.out | apply below_alloc | apply pw_below_drewN | apply below_drew1 | refine below_set ?_ GE101.out) | exact HB.out)⟩⟩
     ·rw [if_neg c11] at H
      have c11b0 : decide (x11_1 < (y103.length : Int)) = false := decide_eq_false c11
      (try rw [hl3_1] at c11b0)
      (try rw [hl3_2] at c11b0)
      clear c11
      obtain rfl := Option.some.inj H
      go_wp2
      go_ret
      exact ⟨_,by first | rfl | (simp [errW_none,errW_some] <;> rfl) | (simp [*,errW_none,errW_some] <;> rfl),by (with_reducible repeat (first | apply Kd.R_alloc | apply Kd.R_drewN | apply Kd.R_drew));exact HO_3.out,by repeat (first | (with_reducible first | exact HB.out | apply below_alloc | apply pw_below_drewN | apply below_drew1 | refine below_set ?_ GE101.out) | exact HB.out)⟩
  ·rw [if_neg c4] at H
   exact absurd H T42_
 ·rw [if_neg c3] at H
  exact absurd H T42_
def impl_AutocorrelationOf.f (k : Nat) (a0_0 : Int) (a0_1 : Int) : Option (List Int) := (impl_IsTable.f a0_0 a0_1).bind fun t102 => (if t102 = true then ((impl_Table_autocorrelation.f k a0_0 a0_1).bind fun t103 => (some t103)) else (some ([] : List Int)))
set_option maxHeartbeats 8000000 in
set_option maxRecDepth 100000 in
theorem impl_AutocorrelationOf.calls (k : Nat) (a0_0 : Int) (a0_1 : Int) (r : List Int) (w : World) (h : impl_AutocorrelationOf.f k a0_0 a0_1 = some r) :
  Calls Try.prog 15 #[.agg #[.int .i64 a0_0,.int .i64 a0_1]] w fun e w' => ∃ v0_ : Value,e = .returned (v0_) ∧ Kd.R (Kd.int .i64) 3 w' w.heap.size (fun _ => True) v0_ r ∧ Below w.heap.size w w' := by
 have hu25 := Try.underlying25
 have HB := aZ_ (Below.refl w.heap.size w)
 have H : ((impl_IsTable.f a0_0 a0_1).bind fun t102 => (if t102 = true then ((impl_Table_autocorrelation.f k a0_0 a0_1).bind fun t103 => (some t103)) else (some ([] : List Int)))) = some r := h
 clear h
 replace H := Option.bind_eq_some_iff.mp H
 obtain ⟨t102,A20,H⟩ := H
 replace H : (if t102 = true then ((impl_Table_autocorrelation.f k a0_0 a0_1).bind fun t103 => (some t103)) else (some ([] : List Int))) = some r := H
 have A2 := aZ_ A20
 clear A20
 by_cases c3 : t102 = true
 ·subst c3
  have H1 : ((impl_Table_autocorrelation.f k a0_0 a0_1).bind fun t103 => (some t103)) = some r := by rw [if_pos rfl] at H;exact H
  clear H
  have H := H1
  clear H1
  replace H := Option.bind_eq_some_iff.mp H
  obtain ⟨t103,A40,H⟩ := H
  replace H : (some t103) = some r := H
  have A4 := aZ_ A40
  clear A40
  obtain rfl := Option.some.inj H
  go_enter Try.func15,Try.ntmps15
  go_wp2_with (first | ((with_reducible refine gate_dst (N := 1) rfl ?_);refine box_event ?hg (N := 1) ?hd (cs := #[.int .i64 a0_0,.int .i64 a0_1]) (t := 25) ?hr ?_;(case hd => rfl);(case hg => rfl);(case hr => first | (go_simp;done) | (go_simp;rfl));intro gb101 hg w5 hbox hb;have n0_ := aZ_ (below_step T7_ hb);have n1_ := aZ_ (hbox);have n2_ := aZ_ ((T4_ : w.heap.size ≤ gb101));have n3_ := aZ_ ((T4_ : w.heap.size ≤ gb101));clear HB;have HB := n0_;have BK101 := n1_;have GW101 := n2_;have GE101 := n3_;clear n0_ n1_ n2_ n3_;clear hb hbox hg;have hcz6_0 : w5.cell? ⟨gb101,0,none⟩ = some (.int .i64 a0_0) := (blk_cell BK101.out 0).trans rfl;have hcz6_1 : w5.cell? ⟨gb101,1,none⟩ = some (.int .i64 a0_1) := (blk_cell BK101.out 1).trans rfl;have hfz6_0 := blk_frozen BK101.out 0;have hfz6_1 := blk_frozen BK101.out 1) | ((with_reducible refine gate_callee (f := 32) rfl ?_);refine goesL_ (some 4) rfl rfl Try.func32 T16_ rfl #[.agg #[.int .i64 a0_0,.int .i64 a0_1]] rfl T3_ ?_;(with_reducible refine (impl_IsTable.calls a0_0 a0_1 true _ A2.out).mono ?_);rintro e w7 ⟨rfl,hb⟩;refine ⟨_,rfl,?_⟩;have n0_ := aZ_ (blk_below (g := gb101) (o := .cells #[.int .i64 a0_0,.int .i64 a0_1] 25 (0,0)) T2_ hb);have n1_ := aZ_ (below_step T1_ hb);clear BK101;clear HB;have BK101 := n0_;have HB := n1_;clear n0_ n1_;(try clear hb);(try clear hb2);(try clear hk);(try clear hi);have hcz8_0 : w7.cell? ⟨gb101,0,none⟩ = some (.int .i64 a0_0) := (blk_cell BK101.out 0).trans rfl;have hcz8_1 : w7.cell? ⟨gb101,1,none⟩ = some (.int .i64 a0_1) := (blk_cell BK101.out 1).trans rfl;have hfz8_0 := blk_frozen BK101.out 0;have hfz8_1 := blk_frozen BK101.out 1) | ((with_reducible refine gate_callee (f := 43) rfl ?_);refine goesL_ (some 7) rfl rfl Try.func43 T16_ rfl #[.agg #[.int .i64 a0_0,.int .i64 a0_1]] rfl T3_ ?_;(with_reducible refine (impl_Table_autocorrelation.calls k a0_0 a0_1 t103 _ A4.out).mono ?_);rintro e w9 ⟨v104,rfl,ho0,hb⟩;refine ⟨_,rfl,?_⟩;have n0_ := aZ_ (Kd.R_lower ho0 (below_size T1_));have n1_ := aZ_ (blk_below (g := gb101) (o := .cells #[.int .i64 a0_0,.int .i64 a0_1] 25 (0,0)) T2_ hb);have n2_ := aZ_ (below_step T1_ hb);clear BK101;clear HB;have HO105 := n0_;have BK101 := n1_;have HB := n2_;clear n0_ n1_ n2_;(try clear hb);(try clear hb2);(try clear hk);(try clear hi);(try clear ho0)))
  go_ret
  exact ⟨_,by first | rfl | (simp [errW_none,errW_some] <;> rfl) | (simp [*,errW_none,errW_some] <;> rfl),by (with_reducible repeat (first | apply Kd.R_alloc | apply Kd.R_drewN | apply Kd.R_drew));exact HO105.out,by repeat (first | (with_reducible first | exact HB.out | apply below_alloc | apply pw_below_drewN | apply below_drew1 | refine below_set ?_ GE101.out) | exact HB.out)⟩
 ·replace c3 := Bool.eq_false_iff.mpr c3
  subst c3
  have H1 : (some ([] : List Int)) = some r := by rw [if_neg (show ¬ (false = true) by decide)] at H;exact H
  clear H
  have H := H1
  clear H1
  obtain rfl := Option.some.inj H
  go_enter Try.func15,Try.ntmps15
  go_wp2_with (first | ((with_reducible refine gate_dst (N := 1) rfl ?_);refine box_event ?hg (N := 1) ?hd (cs := #[.int .i64 a0_0,.int .i64 a0_1]) (t := 25) ?hr ?_;(case hd => rfl);(case hg => rfl);(case hr => first | (go_simp;done) | (go_simp;rfl));intro gb101 hg w10 hbox hb;have n0_ := aZ_ (below_step T7_ hb);have n1_ := aZ_ (hbox);have n2_ := aZ_ ((T4_ : w.heap.size ≤ gb101));have n3_ := aZ_ ((T4_ : w.heap.size ≤ gb101));clear HB;have HB := n0_;have BK101 := n1_;have GW101 := n2_;have GE101 := n3_;clear n0_ n1_ n2_ n3_;clear hb hbox hg;have hcz11_0 : w10.cell? ⟨gb101,0,none⟩ = some (.int .i64 a0_0) := (blk_cell BK101.out 0).trans rfl;have hcz11_1 : w10.cell? ⟨gb101,1,none⟩ = some (.int .i64 a0_1) := (blk_cell BK101.out 1).trans rfl;have hfz11_0 := blk_frozen BK101.out 0;have hfz11_1 := blk_frozen BK101.out 1) | ((with_reducible refine gate_callee (f := 32) rfl ?_);refine goesL_ (some 4) rfl rfl Try.func32 T16_ rfl #[.agg #[.int .i64 a0_0,.int .i64 a0_1]] rfl T3_ ?_;(with_reducible refine (impl_IsTable.calls a0_0 a0_1 false _ A2.out).mono ?_);rintro e w12 ⟨rfl,hb⟩;refine ⟨_,rfl,?_⟩;have n0_ := aZ_ (blk_below (g := gb101) (o := .cells #[.int .i64 a0_0,.int .i64 a0_1] 25 (0,0)) T2_ hb);have n1_ := aZ_ (below_step T1_ hb);clear BK101;clear HB;have BK101 := n0_;have HB := n1_;clear n0_ n1_;(try clear hb);(try clear hb2);(try clear hk);(try clear hi)))
  go_ret
  exact ⟨_,by first | rfl | (simp [errW_none,errW_some] <;> rfl) | (simp [*,errW_none,errW_some] <;> rfl),by first | exact Kd.R_nil _ _ _ _ _ | exact Kd.N_nil _ _ _ _ _ | exact Kd.V_nil _ _ _ _ _ | exact Kd.Q_nil _ _ _ _ _ | exact Kd.S_nil _ _ _ _ _,by repeat (first | (with_reducible first | exact HB.out | apply below_alloc | apply pw_below_drewN | apply below_drew1 | refine below_set ?_ GE101.out) | exact HB.out)⟩
def laws_at.f (l0 : List Int) (a1 : Int) : Option (Int) := if a1 < (l0.length : Int) then (if 0 ≤ a1 then (some (wrap64 (rd l0 a1))) else (none)) else (some (Int.tmod (wrap64 ((wrap64 (a1 * 37)) + (wrap64 ((l0.length : Int) * 11)))) 256))
set_option maxHeartbeats 8000000 in
set_option maxRecDepth 100000 in
theorem laws_at.calls (A0 : Option Addr) (c0 : Nat) (l0 : List Int) (a1 : Int) (r : Int) (w : World) (hr0 : Kd.C (Kd.int .u8) w A0 l0.length l0) (hc0 : l0.length ≤ c0) (h : laws_at.f l0 a1 = some r) :
  Calls Try.prog 16 #[.slice A0 l0.length c0,.int .i64 a1] w fun e w' => e = .returned (.int .i64 r) ∧ Drawn0 w w' := by
 have HR0 := aZ_ hr0
 have HC0 := aZ_ hc0
 clear hr0 hc0
 have H : (if a1 < (l0.length : Int) then (if 0 ≤ a1 then (some (wrap64 (rd l0 a1))) else (none)) else (some (Int.tmod (wrap64 ((wrap64 (a1 * 37)) + (wrap64 ((l0.length : Int) * 11)))) 256))) = some r := h
 clear h
 by_cases c3 : a1 < (l0.length : Int)
 ·rw [if_pos c3] at H
  have c3b0 : decide (a1 < (l0.length : Int)) = true := decide_eq_true c3
  clear c3
  by_cases c4 : 0 ≤ a1
  ·rw [if_pos c4] at H
   have c4b0 : decide (0 ≤ a1) = true := decide_eq_true c4
   clear c4
   obtain rfl := Option.some.inj H
   have p101 : 0 ≤ (a1 : Int) := of_decide_eq_true T10_
   have q101 : a1 < (l0.length : Int) := of_decide_eq_true T10_
   obtain ⟨ad101,e101,hx101_0⟩ := Kd.at_int HR0.out a1 p101 q101
   cases e101
   replace p101 := eq_true p101
   replace q101 := eq_true q101
   go_enter Try.func16,Try.ntmps16
   go_wp2
   go_ret
   exact ⟨by first | rfl | (simp;done) | (simp [*];done),by repeat (first | exact Drawn0.refl _ | apply Drawn0.step)⟩
  ·rw [if_neg c4] at H
   exact absurd H T42_
 ·rw [if_neg c3] at H
  have c3b0 : decide (a1 < (l0.length : Int)) = false := decide_eq_false c3
  clear c3
  obtain rfl := Option.some.inj H
  go_enter Try.func16,Try.ntmps16
  go_wp2
  go_ret
  exact ⟨by first | rfl | (simp;done) | (simp [*];done),by repeat (first | exact Drawn0.refl _ | apply Drawn0.step)⟩
def laws_parity.l0 : Nat → Int → Int → Option (Int)
 | 0,_,_ => none
 | k + 1,x3,x4 => if x4 > 0 then (laws_parity.l0 k (wrap64 (x3 + (Int.tmod x4 2))) (wrap64 (Int.tdiv x4 2))) else (some (Int.tmod x3 2))
def laws_parity.f (k : Nat) (a0 : Int) : Option (Int) := laws_parity.l0 k 0 a0
theorem laws_parity.mono_l : ∀ k,(∀ y0 y1,LeO (laws_parity.l0 k y0 y1) (laws_parity.l0 (k + 1) y0 y1))
 | 0 => fun _ _ r h => by simp [laws_parity.l0] at h
 | k + 1 => by
  have ih0 := laws_parity.mono_l k
  ·intro y0 y1
   unfold laws_parity.l0
   repeat' first
   | (with_reducible exact ih0 _ _)
   | (with_reducible exact LeO.refl _)
   | (with_reducible exact LeO.none _)
   | (with_reducible refine LeO.ite ?_ ?_)
   | (with_reducible refine LeO.bind ?_ (fun _ => ?_))
   | exact ih0 _ _
   | exact LeO.none _
   | refine LeO.ite ?_ ?_
   | refine LeO.bind ?_ (fun _ => ?_)
theorem laws_parity.mono : ∀ a0 k,LeO (laws_parity.f k a0) (laws_parity.f (k + 1) a0) := by
 intro a0 k
 have ih0 := laws_parity.mono_l k
 unfold laws_parity.f
 repeat' first
   | (with_reducible exact ih0 _ _)
   | (with_reducible exact LeO.refl _)
   | (with_reducible exact LeO.none _)
   | (with_reducible refine LeO.ite ?_ ?_)
   | (with_reducible refine LeO.bind ?_ (fun _ => ?_))
   | exact ih0 _ _
   | exact LeO.none _
   | refine LeO.ite ?_ ?_
   | refine LeO.bind ?_ (fun _ => ?_)
set_option maxHeartbeats 8000000 in
set_option maxRecDepth 100000 in
theorem laws_parity.calls (k : Nat) (a0 : Int) (r : Int) (w : World) (h : laws_parity.f k a0 = some r) :
  Calls Try.prog 17 #[.int .i64 a0] w fun e w' => e = .returned (.int .i64 r) ∧ Drawn0 w w' := by
 have H : (laws_parity.l0 k 0 a0) = some r := h
 clear h
 have H' := aZ_ H
 clear H
 go_enter Try.func17,Try.ntmps17
 go_wp2
 go_loopg [3,4] k (fun kq v3 v4 w' => ∃ (x3_1 : Int) (x4_1 : Int),v3 = .int .i64 x3_1 ∧ v4 = .int .i64 x4_1 ∧ Aside0 (laws_parity.l0 kq x3_1 x4_1 = some r) ∧ Aside0 (kq ≤ k) ∧ Drawn0 w w')
 case atStart => exact ⟨(0),(a0),T6_,T6_,H',⟨Nat.le_refl _⟩,by repeat (first | exact Drawn0.refl _ | apply Drawn0.step)⟩
 case round =>
  clear H'
  try clear c1
  obtain ⟨x3_1,x4_1,rfl,rfl,HA,HK1,⟨m1,rfl⟩⟩ := hrel
  cases gk with
  | zero => exact absurd HA.out (by simp [laws_parity.l0])
  | succ k1 =>
   have H := HA.out
   clear HA
   simp only [laws_parity.l0] at H
   by_cases c2 : x4_1 > 0
   ·rw [if_pos c2] at H
    have c2b0 : decide (0 < x4_1) = true := decide_eq_true c2
    clear c2
    have H' := aZ_ H
    clear H
    go_wp2
    go_roundg k1
    case measure => have := HK1.out;omega
    case rel => exact ⟨(wrap64 (x3_1 + (Int.tmod x4_1 2))),(wrap64 (Int.tdiv x4_1 2)),T6_,T6_,H',⟨by have := HK1.out;omega⟩,by repeat (first | exact Drawn0.refl _ | apply Drawn0.step)⟩
   ·rw [if_neg c2] at H
    have c2b0 : decide (0 < x4_1) = false := decide_eq_false c2
    clear c2
    obtain rfl := Option.some.inj H
    go_wp2
    go_ret
    exact ⟨by first | rfl | (simp;done) | (simp [*];done),by repeat (first | exact Drawn0.refl _ | apply Drawn0.step)⟩
def impl_CountOnes.f (a0_0 : Int) (a0_1 : Int) : Option (Int) := (impl_IsTable.f a0_0 a0_1).bind fun t102 => (if t102 = true then ((impl_ones.f a0_1).bind fun t103 => (some t103)) else (some (-1)))
set_option maxHeartbeats 8000000 in
set_option maxRecDepth 100000 in
theorem impl_CountOnes.calls (a0_0 : Int) (a0_1 : Int) (r : Int) (w : World) (h : impl_CountOnes.f a0_0 a0_1 = some r) :
  Calls Try.prog 18 #[.agg #[.int .i64 a0_0,.int .i64 a0_1]] w fun e w' => e = .returned (.int .i64 r) ∧ Below w.heap.size w w' := by
 have hu25 := Try.underlying25
 have HB := aZ_ (Below.refl w.heap.size w)
 have H : ((impl_IsTable.f a0_0 a0_1).bind fun t102 => (if t102 = true then ((impl_ones.f a0_1).bind fun t103 => (some t103)) else (some (-1)))) = some r := h
 clear h
 replace H := Option.bind_eq_some_iff.mp H
 obtain ⟨t102,A20,H⟩ := H
 replace H : (if t102 = true then ((impl_ones.f a0_1).bind fun t103 => (some t103)) else (some (-1))) = some r := H
 have A2 := aZ_ A20
 clear A20
 by_cases c3 : t102 = true
 ·subst c3
  have H1 : ((impl_ones.f a0_1).bind fun t103 => (some t103)) = some r := by rw [if_pos rfl] at H;exact H
  clear H
  have H := H1
  clear H1
  replace H := Option.bind_eq_some_iff.mp H
  obtain ⟨t103,A40,H⟩ := H
  replace H : (some t103) = some r := H
  have A4 := aZ_ A40
  clear A40
  obtain rfl := Option.some.inj H
  go_enter Try.func18,Try.ntmps18
  go_wp2_with (first | ((with_reducible refine gate_dst (N := 1) rfl ?_);refine box_event ?hg (N := 1) ?hd (cs := #[.int .i64 a0_0,.int .i64 a0_1]) (t := 25) ?hr ?_;(case hd => rfl);(case hg => rfl);(case hr => first | (go_simp;done) | (go_simp;rfl));intro gb101 hg w5 hbox hb;have n0_ := aZ_ (below_step T7_ hb);have n1_ := aZ_ (hbox);have n2_ := aZ_ ((T4_ : w.heap.size ≤ gb101));have n3_ := aZ_ ((T4_ : w.heap.size ≤ gb101));clear HB;have HB := n0_;have BK101 := n1_;have GW101 := n2_;have GE101 := n3_;clear n0_ n1_ n2_ n3_;clear hb hbox hg;have hcz6_0 : w5.cell? ⟨gb101,0,none⟩ = some (.int .i64 a0_0) := (blk_cell BK101.out 0).trans rfl;have hcz6_1 : w5.cell? ⟨gb101,1,none⟩ = some (.int .i64 a0_1) := (blk_cell BK101.out 1).trans rfl;have hfz6_0 := blk_frozen BK101.out 0;have hfz6_1 := blk_frozen BK101.out 1) | ((with_reducible refine gate_callee (f := 32) rfl ?_);refine goesL_ (some 4) rfl rfl Try.func32 T16_ rfl #[.agg #[.int .i64 a0_0,.int .i64 a0_1]] rfl T3_ ?_;(with_reducible refine (impl_IsTable.calls a0_0 a0_1 true _ A2.out).mono ?_);rintro e w7 ⟨rfl,hb⟩;refine ⟨_,rfl,?_⟩;have n0_ := aZ_ (blk_below (g := gb101) (o := .cells #[.int .i64 a0_0,.int .i64 a0_1] 25 (0,0)) T2_ hb);have n1_ := aZ_ (below_step T1_ hb);clear BK101;clear HB;have BK101 := n0_;have HB := n1_;clear n0_ n1_;(try clear hb);(try clear hb2);(try clear hk);(try clear hi);have hcz8_0 : w7.cell? ⟨gb101,0,none⟩ = some (.int .i64 a0_0) := (blk_cell BK101.out 0).trans rfl;have hcz8_1 : w7.cell? ⟨gb101,1,none⟩ = some (.int .i64 a0_1) := (blk_cell BK101.out 1).trans rfl;have hfz8_0 := blk_frozen BK101.out 0;have hfz8_1 := blk_frozen BK101.out 1) | ((with_reducible refine gate_callee (f := 38) rfl ?_);refine goesL_ (some 8) rfl rfl Try.func38 T16_ rfl #[.int .i64 a0_1] rfl T3_ ?_;(with_reducible refine (impl_ones.calls a0_1 t103 _ A4.out).mono ?_);rintro e w' ⟨rfl,⟨nd,rfl⟩⟩;refine ⟨_,rfl,?_⟩))
  go_ret
  exact ⟨by first | rfl | (simp [errW_none,errW_some] <;> rfl) | (simp [*,errW_none,errW_some] <;> rfl),by repeat (first | (with_reducible first | exact HB.out | apply below_alloc | apply pw_below_drewN | apply below_drew1 | refine below_set ?_ GE101.out) | exact HB.out)⟩
 ·replace c3 := Bool.eq_false_iff.mpr c3
  subst c3
  have H1 : (some (-1)) = some r := by rw [if_neg (show ¬ (false = true) by decide)] at H;exact H
  clear H
  have H := H1
  clear H1
  obtain rfl := Option.some.inj H
  go_enter Try.func18,Try.ntmps18
  go_wp2_with (first | ((with_reducible refine gate_dst (N := 1) rfl ?_);refine box_event ?hg (N := 1) ?hd (cs := #[.int .i64 a0_0,.int .i64 a0_1]) (t := 25) ?hr ?_;(case hd => rfl);(case hg => rfl);(case hr => first | (go_simp;done) | (go_simp;rfl));intro gb101 hg w9 hbox hb;have n0_ := aZ_ (below_step T7_ hb);have n1_ := aZ_ (hbox);have n2_ := aZ_ ((T4_ : w.heap.size ≤ gb101));have n3_ := aZ_ ((T4_ : w.heap.size ≤ gb101));clear HB;have HB := n0_;have BK101 := n1_;have GW101 := n2_;have GE101 := n3_;clear n0_ n1_ n2_ n3_;clear hb hbox hg;have hcz10_0 : w9.cell? ⟨gb101,0,none⟩ = some (.int .i64 a0_0) := (blk_cell BK101.out 0).trans rfl;have hcz10_1 : w9.cell? ⟨gb101,1,none⟩ = some (.int .i64 a0_1) := (blk_cell BK101.out 1).trans rfl;have hfz10_0 := blk_frozen BK101.out 0;have hfz10_1 := blk_frozen BK101.out 1) | ((with_reducible refine gate_callee (f := 32) rfl ?_);refine goesL_ (some 4) rfl rfl Try.func32 T16_ rfl #[.agg #[.int .i64 a0_0,.int .i64 a0_1]] rfl T3_ ?_;(with_reducible refine (impl_IsTable.calls a0_0 a0_1 false _ A2.out).mono ?_);rintro e w11 ⟨rfl,hb⟩;refine ⟨_,rfl,?_⟩;have n0_ := aZ_ (blk_below (g := gb101) (o := .cells #[.int .i64 a0_0,.int .i64 a0_1] 25 (0,0)) T2_ hb);have n1_ := aZ_ (below_step T1_ hb);clear BK101;clear HB;have BK101 := n0_;have HB := n1_;clear n0_ n1_;(try clear hb);(try clear hb2);(try clear hk);(try clear hi)))
  go_ret
  exact ⟨by first | rfl | (simp [errW_none,errW_some] <;> rfl) | (simp [*,errW_none,errW_some] <;> rfl),by repeat (first | (with_reducible first | exact HB.out | apply below_alloc | apply pw_below_drewN | apply below_drew1 | refine below_set ?_ GE101.out) | exact HB.out)⟩
mutual
def impl_TestRejects.l0 : Nat → Int → Int → Int → Int → Int → Option (Int)
 | 0,_,_,_,_,_ => none
 | k + 1,x3,x10,x11,x102000,x102001 => if x11 < x10 then ((impl_Table_size.f x102000 x102001).bind fun t104 => (impl_TestRejects.l1 k x3 x11 x10 x11 t104 0 x102000 x102001)) else (some x3)
def impl_TestRejects.l1 : Nat → Int → Int → Int → Int → Int → Int → Int → Int → Option (Int)
 | 0,_,_,_,_,_,_,_,_ => none
 | k + 1,x3,x4,x10,x11,x15,x16,x102000,x102001 => if x16 < x15 then ((impl_Table_at.f x102000 x102001 x4).bind fun t105 => ((impl_Table_at.f x102000 x102001 x16).bind fun t106 => ((impl_Table_at.f x102000 x102001 (Go.bits .xor .i64 x4 x16)).bind fun t107 => (impl_TestRejects.l1 k (wrap64 (x3 + (Go.bits .xor .i64 (Go.bits .xor .i64 t105 t106) t107))) x4 x10 x11 x15 (wrap64 (x16 + 1)) x102000 x102001)))) else (impl_TestRejects.l0 k x3 x10 (wrap64 (x11 + 1)) x102000 x102001)
end
def impl_TestRejects.f (k : Nat) (a0_0 : Int) (a0_1 : Int) : Option (Int) := (impl_IsTable.f a0_0 a0_1).bind fun t102 => (if t102 = true then ((impl_Table_size.f a0_0 a0_1).bind fun t103 => (impl_TestRejects.l0 k 0 t103 0 a0_0 a0_1)) else (some (-1)))
def impl_TestRejects.T10 : Bool × List (List Nat × List Nat) := (true,[([],[]),([],[]),([],[]),([1,2],[1,2]),([],[]),([],[]),([4,5,3],[4,5]),([3,6],[3,6]),([],[]),([],[]),([],[]),([9,10],[9,10]),([8,11,6],[8,11]),([7,12],[7,12]),([0,13],[0,13]),([14,12,0,1,2,3,4,5,6,7,8,9,10,11,12,13,14],[0,14])])
def impl_TestRejects.B10 : List Nat := [0,0,0,6,0,0,62,126,0,0,0,1536,3966,8190,16383,32767]
theorem impl_TestRejects.tab10 : rtab .any (opsOf Try.f19 10) = impl_TestRejects.T10 := by kernel_rfl
theorem impl_TestRejects.bits10 : waitsOk impl_TestRejects.T10.2 impl_TestRejects.B10 = true := by kernel_rfl
set_option maxHeartbeats 8000000 in
set_option maxRecDepth 100000 in
theorem impl_TestRejects.calls (k : Nat) (a0_0 : Int) (a0_1 : Int) (r : Int) (w : World) (h : impl_TestRejects.f k a0_0 a0_1 = some r) :
  Calls Try.prog 19 #[.agg #[.int .i64 a0_0,.int .i64 a0_1]] w fun e w' => e = .returned (.int .i64 r) ∧ Below w.heap.size w w' := by
 have hu25 := Try.underlying25
 have HB := aZ_ (Below.refl w.heap.size w)
 have H : ((impl_IsTable.f a0_0 a0_1).bind fun t102 => (if t102 = true then ((impl_Table_size.f a0_0 a0_1).bind fun t103 => (impl_TestRejects.l0 k 0 t103 0 a0_0 a0_1)) else (some (-1)))) = some r := h
 clear h
 replace H := Option.bind_eq_some_iff.mp H
 obtain ⟨t102,A20,H⟩ := H
 replace H : (if t102 = true then ((impl_Table_size.f a0_0 a0_1).bind fun t103 => (impl_TestRejects.l0 k 0 t103 0 a0_0 a0_1)) else (some (-1))) = some r := H
 have A2 := aZ_ A20
 clear A20
 by_cases c3 : t102 = true
 ·subst c3
  have H1 : ((impl_Table_size.f a0_0 a0_1).bind fun t103 => (impl_TestRejects.l0 k 0 t103 0 a0_0 a0_1)) = some r := by rw [if_pos rfl] at H;exact H
  clear H
  have H := H1
  clear H1
  replace H := Option.bind_eq_some_iff.mp H
  obtain ⟨t103,A40,H⟩ := H
  replace H : (impl_TestRejects.l0 k 0 t103 0 a0_0 a0_1) = some r := H
  have A4 := aZ_ A40
  clear A40
  have H' := aZ_ H
  clear H
  go_enter Try.func19,Try.ntmps19
  go_wp2_with (first | ((with_reducible refine gate_dst (N := 1) rfl ?_);refine box_event ?hg (N := 1) ?hd (cs := #[.int .i64 a0_0,.int .i64 a0_1]) (t := 25) ?hr ?_;(case hd => rfl);(case hg => rfl);(case hr => first | (go_simp;done) | (go_simp;rfl));intro gb101 hg w5 hbox hb;have n0_ := aZ_ (below_step T7_ hb);have n1_ := aZ_ (hbox);have n2_ := aZ_ ((T4_ : w.heap.size ≤ gb101));have n3_ := aZ_ ((T4_ : w.heap.size ≤ gb101));clear HB;have HB := n0_;have BK101 := n1_;have GW101 := n2_;have GE101 := n3_;clear n0_ n1_ n2_ n3_;clear hb hbox hg;have hcz6_0 : w5.cell? ⟨gb101,0,none⟩ = some (.int .i64 a0_0) := (blk_cell BK101.out 0).trans rfl;have hcz6_1 : w5.cell? ⟨gb101,1,none⟩ = some (.int .i64 a0_1) := (blk_cell BK101.out 1).trans rfl;have hfz6_0 := blk_frozen BK101.out 0;have hfz6_1 := blk_frozen BK101.out 1) | ((with_reducible refine gate_callee (f := 32) rfl ?_);refine goesL_ (some 7) rfl rfl Try.func32 T16_ rfl #[.agg #[.int .i64 a0_0,.int .i64 a0_1]] rfl T3_ ?_;(with_reducible refine (impl_IsTable.calls a0_0 a0_1 true _ A2.out).mono ?_);rintro e w7 ⟨rfl,hb⟩;refine ⟨_,rfl,?_⟩;have n0_ := aZ_ (blk_below (g := gb101) (o := .cells #[.int .i64 a0_0,.int .i64 a0_1] 25 (0,0)) T2_ hb);have n1_ := aZ_ (below_step T1_ hb);clear BK101;clear HB;have BK101 := n0_;have HB := n1_;clear n0_ n1_;(try clear hb);(try clear hb2);(try clear hk);(try clear hi);have hcz8_0 : w7.cell? ⟨gb101,0,none⟩ = some (.int .i64 a0_0) := (blk_cell BK101.out 0).trans rfl;have hcz8_1 : w7.cell? ⟨gb101,1,none⟩ = some (.int .i64 a0_1) := (blk_cell BK101.out 1).trans rfl;have hfz8_0 := blk_frozen BK101.out 0;have hfz8_1 := blk_frozen BK101.out 1) | ((with_reducible refine gate_callee (f := 36) rfl ?_);refine goesL_ (some 10) rfl rfl Try.func36 T16_ rfl #[.agg #[.int .i64 a0_0,.int .i64 a0_1]] rfl T3_ ?_;(with_reducible refine (impl_Table_size.calls a0_0 a0_1 t103 _ A4.out).mono ?_);rintro e w9 ⟨rfl,hb⟩;refine ⟨_,rfl,?_⟩;have n0_ := aZ_ (blk_below (g := gb101) (o := .cells #[.int .i64 a0_0,.int .i64 a0_1] 25 (0,0)) T2_ hb);have n1_ := aZ_ (below_step T1_ hb);clear BK101;clear HB;have BK101 := n0_;have HB := n1_;clear n0_ n1_;(try clear hb);(try clear hb2);(try clear hk);(try clear hi)))
  go_loopg [3,11] k (fun kq v3 v11 w' => ∃ (x3_1 : Int) (x11_1 : Int),v3 = .int .i64 x3_1 ∧ v11 = .int .i64 x11_1 ∧ Aside0 (impl_TestRejects.l0 kq x3_1 t103 x11_1 a0_0 a0_1 = some r) ∧ Aside0 (kq ≤ k) ∧ Aside0 (w'.heap[gb101]? = some (.cells #[.int .i64 a0_0,.int .i64 a0_1] 25 (0,0))) ∧ Aside0 (Below w.heap.size w w'))
  case atStart => exact ⟨(0),(0),T6_,T6_,H',⟨Nat.le_refl _⟩,⟨by (with_reducible repeat (first | refine blk_drewN ?_ _ | refine blk_drew ?_ | refine blk_alloc ?_ _));exact BK101.out⟩,⟨by repeat (first | (with_reducible first | exact HB.out | apply below_alloc | apply pw_below_drewN | apply below_drew1 | refine below_set ?_ GE101.out) | exact HB.out)⟩⟩
  case round =>
   clear H'
   try clear c1
   try clear p2
   try clear c3
   try clear hcz6_0
   try clear hcz6_1
   try clear hcz8_0
   try clear hcz8_1
   try clear hfz6_0
   try clear hfz6_1
   try clear hfz8_0
   try clear hfz8_1
   obtain ⟨x3_1,x11_1,rfl,rfl,HA,HK1,BK101,HB⟩ := hrel
   cases gk with
   | zero => exact absurd HA.out (by simp [impl_TestRejects.l0])
   | succ k1 =>
    have H := HA.out
    clear HA
    simp only [impl_TestRejects.l0] at H
    by_cases c10 : x11_1 < t103
    ·rw [if_pos c10] at H
     have c10b0 : decide (x11_1 < t103) = true := decide_eq_true c10
     clear c10
     replace H := Option.bind_eq_some_iff.mp H
     obtain ⟨t104,A110,H⟩ := H
     replace H : (impl_TestRejects.l1 k1 x3_1 x11_1 t103 x11_1 t104 0 a0_0 a0_1) = some r := H
     have A11 := aZ_ A110
     clear A110
     have H' := aZ_ H
     clear H
     have hcz12_0 : wr.cell? ⟨gb101,0,none⟩ = some (.int .i64 a0_0) := (blk_cell BK101.out 0).trans rfl
     have hcz12_1 : wr.cell? ⟨gb101,1,none⟩ = some (.int .i64 a0_1) := (blk_cell BK101.out 1).trans rfl
     have hfz12_0 := blk_frozen BK101.out 0
     have hfz12_1 := blk_frozen BK101.out 1
     go_wp2_with (first | ((with_reducible refine gate_callee (f := 36) rfl ?_);refine goesL_ (some 15) rfl rfl Try.func36 T16_ rfl #[.agg #[.int .i64 a0_0,.int .i64 a0_1]] rfl T3_ ?_;(with_reducible refine (impl_Table_size.calls a0_0 a0_1 t104 _ A11.out).mono ?_);rintro e w13 ⟨rfl,hb⟩;refine ⟨_,rfl,?_⟩;have n0_ := aZ_ (blk_below (g := gb101) (o := .cells #[.int .i64 a0_0,.int .i64 a0_1] 25 (0,0)) T2_ hb);have n1_ := aZ_ (below_step T1_ hb);clear BK101;clear HB;have BK101 := n0_;have HB := n1_;clear n0_ n1_;(try clear hb);(try clear hb2);(try clear hk);(try clear hi)))
     go_loopg [3,16] k1 (fun kq v3 v16 w' => ∃ (x3_2 : Int) (x16_2 : Int),v3 = .int .i64 x3_2 ∧ v16 = .int .i64 x16_2 ∧ Aside0 (impl_TestRejects.l1 kq x3_2 x11_1 t103 x11_1 t104 x16_2 a0_0 a0_1 = some r) ∧ Aside0 (kq ≤ k1) ∧ Aside0 (w'.heap[gb101]? = some (.cells #[.int .i64 a0_0,.int .i64 a0_1] 25 (0,0))) ∧ Aside0 (Below w.heap.size w w'))
     case atStart => exact ⟨(x3_1),(0),T6_,T6_,H',⟨Nat.le_refl _⟩,⟨by (with_reducible repeat (first | refine blk_drewN ?_ _ | refine blk_drew ?_ | refine blk_alloc ?_ _));exact BK101.out⟩,⟨by repeat (first | (with_reducible first | exact HB.out | apply below_alloc | apply pw_below_drewN | apply below_drew1 | refine below_set ?_ GE101.out) | exact HB.out)⟩⟩
     case round =>
      clear H'
      try clear c1
      try clear p2
      try clear c3
      try clear c10
      try clear c10b0
      try clear hcz12_0
      try clear hcz12_1
      try clear hcz6_0
      try clear hcz6_1
      try clear hcz8_0
      try clear hcz8_1
      try clear hfz12_0
      try clear hfz12_1
      try clear hfz6_0
      try clear hfz6_1
      try clear hfz8_0
      try clear hfz8_1
      try clear p2
      obtain ⟨x3_2,x16_2,rfl,rfl,HA,HK2,BK101,HB⟩ := hrel
      cases gk with
      | zero => exact absurd HA.out (by simp [impl_TestRejects.l1])
      | succ k2 =>
       have H := HA.out
       clear HA
       simp only [impl_TestRejects.l1] at H
       by_cases c14 : x16_2 < t104
       ·rw [if_pos c14] at H
        have c14b0 : decide (x16_2 < t104) = true := decide_eq_true c14
        clear c14
        replace H := Option.bind_eq_some_iff.mp H
        obtain ⟨t105,A150,H⟩ := H
        replace H : ((impl_Table_at.f a0_0 a0_1 x16_2).bind fun t106 => ((impl_Table_at.f a0_0 a0_1 (Go.bits .xor .i64 x11_1 x16_2)).bind fun t107 => (impl_TestRejects.l1 k2 (wrap64 (x3_2 + (Go.bits .xor .i64 (Go.bits .xor .i64 t105 t106) t107))) x11_1 t103 x11_1 t104 (wrap64 (x16_2 + 1)) a0_0 a0_1))) = some r := H
        have A15 := aZ_ A150
        clear A150
        replace H := Option.bind_eq_some_iff.mp H
        obtain ⟨t106,A160,H⟩ := H
        replace H : ((impl_Table_at.f a0_0 a0_1 (Go.bits .xor .i64 x11_1 x16_2)).bind fun t107 => (impl_TestRejects.l1 k2 (wrap64 (x3_2 + (Go.bits .xor .i64 (Go.bits .xor .i64 t105 t106) t107))) x11_1 t103 x11_1 t104 (wrap64 (x16_2 + 1)) a0_0 a0_1)) = some r := H
        have A16 := aZ_ A160
        clear A160
        replace H := Option.bind_eq_some_iff.mp H
        obtain ⟨t107,A170,H⟩ := H
        replace H : (impl_TestRejects.l1 k2 (wrap64 (x3_2 + (Go.bits .xor .i64 (Go.bits .xor .i64 t105 t106) t107))) x11_1 t103 x11_1 t104 (wrap64 (x16_2 + 1)) a0_0 a0_1) = some r := H
        have A17 := aZ_ A170
        clear A170
        have H' := aZ_ H
        clear H
        try go_wp2
        have n0_ := aZ_ (blk_drew BK101.out)
        have n1_ := aZ_ (below_drew1 HB.out)
        clear BK101
        clear HB
        have BK101 := n0_
        have HB := n1_
        clear n0_ n1_
        refine start_ (n := 16) (S := fun w' => w'.cell? ⟨gb101,0,none⟩ = some (.int .i64 a0_0) ∧ w'.cell? ⟨gb101,1,none⟩ = some (.int .i64 a0_1)) (ds := []) #[false,false,false,false,false,false,false,false,false,false,false,false,false,false,false,false] T16_ rfl rfl ⟨(blk_cell BK101.out 0).trans rfl,(blk_cell BK101.out 1).trans rfl⟩ (fun hHeld => ?_);refine with_tabW impl_TestRejects.tab10 impl_TestRejects.bits10 (fun HT_ HW_ => ?_)
        generalize wr.drew = w18 at BK101 HB hHeld ⊢
        refine pZ_ 0 (some 19) #[true,false,false,false,false,false,false,false,false,false,false,false,false,false,false,false] ?_
        refine pZ_ 2 (some 21) #[true,false,true,false,false,false,false,false,false,false,false,false,false,false,false,false] ?_
        refine pZ_ 5 (some 24) #[true,false,true,false,false,true,false,false,false,false,false,false,false,false,false,false] ?_
        refine pZ_ 9 (some 28) #[true,false,true,false,false,true,false,false,false,true,false,false,false,false,false,false] ?_
        refine pZ_ 10 (some 29) #[true,false,true,false,false,true,false,false,false,true,true,false,false,false,false,false] ?_
        refine pZ_ 11 (some 30) #[true,false,true,false,false,true,false,false,false,true,true,true,false,false,false,false] ?_
        refine tZ2_ 1 (some 20) #[true,true,true,false,false,true,false,false,false,true,true,true,false,false,false,false] hHeld ?_
        refine tZ2_ 4 (some 23) #[true,true,true,false,true,true,false,false,false,true,true,true,false,false,false,false] hHeld ?_
        refine tZ2_ 8 (some 27) #[true,true,true,false,true,true,false,false,true,true,true,true,false,false,false,false] hHeld ?_
        refine one_ (i := 3) (N := some 22) #[true,true,true,true,true,true,false,false,true,true,true,true,false,false,false,false] rfl rfl (one_of HT_.out T16_) T43_ (fun K hK => ?_)
        refine gZ_ Try.func44 #[.agg #[.int .i64 a0_0,.int .i64 a0_1],.int .i64 x11_1] ?_
        with_reducible refine (impl_Table_at.calls a0_0 a0_1 x11_1 t105 _ A15.out).mono ?_
        rintro e w19 ⟨rfl,hb⟩
        refine ⟨_,rfl,?_⟩
        have n0_ := aZ_ (blk_below (g := gb101) (o := .cells #[.int .i64 a0_0,.int .i64 a0_1] 25 (0,0)) T2_ hb)
        have n1_ := aZ_ (below_step T1_ hb)
        clear BK101
        clear HB
        have BK101 := n0_
        have HB := n1_
        clear n0_ n1_
        (try clear hb)
        (try clear hb2)
        (try clear hk)
        (try clear hi)
        refine hK.out _ _ ⟨(blk_cell BK101.out 0).trans rfl,(blk_cell BK101.out 1).trans rfl⟩ (fun hHeld => ?_)
        clear hK K
        refine norm_ (a' := ?_) ?_ ?_
        rotate_left
        ·show Act.put _ (some 22) _ = _
         simp only [Act.put,List.setIfInBounds_toArray,List.set_cons_zero,List.set_cons_succ,i64_w,i32_w]
         rfl
        refine one_ (i := 6) (N := some 25) #[true,true,true,true,true,true,true,false,true,true,true,true,false,false,false,false] rfl rfl (one_of HT_.out T16_) T43_ (fun K hK => ?_)
        refine gZ_ Try.func44 #[.agg #[.int .i64 a0_0,.int .i64 a0_1],.int .i64 x16_2] ?_
        with_reducible refine (impl_Table_at.calls a0_0 a0_1 x16_2 t106 _ A16.out).mono ?_
        rintro e w20 ⟨rfl,hb⟩
        refine ⟨_,rfl,?_⟩
        have n0_ := aZ_ (blk_below (g := gb101) (o := .cells #[.int .i64 a0_0,.int .i64 a0_1] 25 (0,0)) T2_ hb)
        have n1_ := aZ_ (below_step T1_ hb)
        clear BK101
        clear HB
        have BK101 := n0_
        have HB := n1_
        clear n0_ n1_
        (try clear hb)
        (try clear hb2)
        (try clear hk)
        (try clear hi)
        refine hK.out _ _ ⟨(blk_cell BK101.out 0).trans rfl,(blk_cell BK101.out 1).trans rfl⟩ (fun hHeld => ?_)
        clear hK K
        refine norm_ (a' := ?_) ?_ ?_
        rotate_left
        ·show Act.put _ (some 25) _ = _
         simp only [Act.put,List.setIfInBounds_toArray,List.set_cons_zero,List.set_cons_succ,i64_w,i32_w]
         rfl
        refine pZ_ 7 (some 26) #[true,true,true,true,true,true,true,true,true,true,true,true,false,false,false,false] ?_
        refine one_ (i := 12) (N := some 31) #[true,true,true,true,true,true,true,true,true,true,true,true,true,false,false,false] rfl rfl (one_of HT_.out T16_) T43_ (fun K hK => ?_)
        refine gZ_ Try.func44 #[.agg #[.int .i64 a0_0,.int .i64 a0_1],.int .i64 (Go.bits .xor .i64 x11_1 x16_2)] ?_
        with_reducible refine (impl_Table_at.calls a0_0 a0_1 (Go.bits .xor .i64 x11_1 x16_2) t107 _ A17.out).mono ?_
        rintro e w21 ⟨rfl,hb⟩
        refine ⟨_,rfl,?_⟩
        have n0_ := aZ_ (blk_below (g := gb101) (o := .cells #[.int .i64 a0_0,.int .i64 a0_1] 25 (0,0)) T2_ hb)
        have n1_ := aZ_ (below_step T1_ hb)
        clear BK101
        clear HB
        have BK101 := n0_
        have HB := n1_
        clear n0_ n1_
        (try clear hb)
        (try clear hb2)
        (try clear hk)
        (try clear hi)
        refine hK.out _ _ ⟨(blk_cell BK101.out 0).trans rfl,(blk_cell BK101.out 1).trans rfl⟩ (fun hHeld => ?_)
        clear hK K
        refine norm_ (a' := ?_) ?_ ?_
        rotate_left
        ·show Act.put _ (some 31) _ = _
         simp only [Act.put,List.setIfInBounds_toArray,List.set_cons_zero,List.set_cons_succ,i64_w,i32_w]
         rfl
        refine pZ_ 13 (some 32) #[true,true,true,true,true,true,true,true,true,true,true,true,true,true,false,false] ?_
        refine pZ_ 14 (some 33) #[true,true,true,true,true,true,true,true,true,true,true,true,true,true,true,false] ?_
        refine pZ_ 15 (some 3) #[true,true,true,true,true,true,true,true,true,true,true,true,true,true,true,true] ?_
        refine done_ (done_of HT_.out T16_) ?_
        try go_wp2
        go_roundg k2
        case measure => have := HK1.out;have := HK2.out;omega
        case rel => exact ⟨(wrap64 (x3_2 + (Go.bits .xor .i64 (Go.bits .xor .i64 t105 t106) t107))),(wrap64 (x16_2 + 1)),T6_,T6_,H',⟨by have := HK1.out;have := HK2.out;omega⟩,⟨by (with_reducible repeat (first | refine blk_drewN ?_ _ | refine blk_drew ?_ | refine blk_alloc ?_ _));exact BK101.out⟩,⟨by repeat (first | (with_reducible first | exact HB.out | apply below_alloc | apply pw_below_drewN | apply below_drew1 | refine below_set ?_ GE101.out) | exact HB.out)⟩⟩
       ·rw [if_neg c14] at H
        have c14b0 : decide (x16_2 < t104) = false := decide_eq_false c14
        clear c14
        have H' := aZ_ H
        clear H
        go_wp2
        go_roundg k2
        case measure => have := HK1.out;have := HK2.out;omega
        case rel => exact ⟨(x3_2),(wrap64 (x11_1 + 1)),T6_,T6_,H',⟨by have := HK1.out;have := HK2.out;omega⟩,⟨by (with_reducible repeat (first | refine blk_drewN ?_ _ | refine blk_drew ?_ | refine blk_alloc ?_ _));exact BK101.out⟩,⟨by repeat (first | (with_reducible first | exact HB.out | apply below_alloc | apply pw_below_drewN | apply below_drew1 | refine below_set ?_ GE101.out) | exact HB.out)⟩⟩
    ·rw [if_neg c10] at H
     have c10b0 : decide (x11_1 < t103) = false := decide_eq_false c10
     clear c10
     obtain rfl := Option.some.inj H
     go_wp2
     go_ret
     exact ⟨by first | rfl | (simp [errW_none,errW_some] <;> rfl) | (simp [*,errW_none,errW_some] <;> rfl),by repeat (first | (with_reducible first | exact HB.out | apply below_alloc | apply pw_below_drewN | apply below_drew1 | refine below_set ?_ GE101.out) | exact HB.out)⟩
 ·replace c3 := Bool.eq_false_iff.mpr c3
  subst c3
  have H1 : (some (-1)) = some r := by rw [if_neg (show ¬ (false = true) by decide)] at H;exact H
  clear H
  have H := H1
  clear H1
  obtain rfl := Option.some.inj H
  go_enter Try.func19,Try.ntmps19
  go_wp2_with (first | ((with_reducible refine gate_dst (N := 1) rfl ?_);refine box_event ?hg (N := 1) ?hd (cs := #[.int .i64 a0_0,.int .i64 a0_1]) (t := 25) ?hr ?_;(case hd => rfl);(case hg => rfl);(case hr => first | (go_simp;done) | (go_simp;rfl));intro gb101 hg w22 hbox hb;have n0_ := aZ_ (below_step T7_ hb);have n1_ := aZ_ (hbox);have n2_ := aZ_ ((T4_ : w.heap.size ≤ gb101));have n3_ := aZ_ ((T4_ : w.heap.size ≤ gb101));clear HB;have HB := n0_;have BK101 := n1_;have GW101 := n2_;have GE101 := n3_;clear n0_ n1_ n2_ n3_;clear hb hbox hg;have hcz23_0 : w22.cell? ⟨gb101,0,none⟩ = some (.int .i64 a0_0) := (blk_cell BK101.out 0).trans rfl;have hcz23_1 : w22.cell? ⟨gb101,1,none⟩ = some (.int .i64 a0_1) := (blk_cell BK101.out 1).trans rfl;have hfz23_0 := blk_frozen BK101.out 0;have hfz23_1 := blk_frozen BK101.out 1) | ((with_reducible refine gate_callee (f := 32) rfl ?_);refine goesL_ (some 7) rfl rfl Try.func32 T16_ rfl #[.agg #[.int .i64 a0_0,.int .i64 a0_1]] rfl T3_ ?_;(with_reducible refine (impl_IsTable.calls a0_0 a0_1 false _ A2.out).mono ?_);rintro e w24 ⟨rfl,hb⟩;refine ⟨_,rfl,?_⟩;have n0_ := aZ_ (blk_below (g := gb101) (o := .cells #[.int .i64 a0_0,.int .i64 a0_1] 25 (0,0)) T2_ hb);have n1_ := aZ_ (below_step T1_ hb);clear BK101;clear HB;have BK101 := n0_;have HB := n1_;clear n0_ n1_;(try clear hb);(try clear hb2);(try clear hk);(try clear hi)))
  go_ret
  exact ⟨by first | rfl | (simp [errW_none,errW_some] <;> rfl) | (simp [*,errW_none,errW_some] <;> rfl),by repeat (first | (with_reducible first | exact HB.out | apply below_alloc | apply pw_below_drewN | apply below_drew1 | refine below_set ?_ GE101.out) | exact HB.out)⟩
def impl_EnergyByLevel.l0 : Nat → List Int → List Int → Int → Int → Option (List Int)
 | 0,_,_,_,_ => none
 | k + 1,x3,x14,x15,x16 => if x16 < x15 then (if 0 ≤ x16 then (if x16 < (x14.length : Int) then ((impl_ones.f x16).bind fun t110 => (if 0 ≤ t110 then (if t110 < (x3.length : Int) then (impl_EnergyByLevel.l0 k (x3.set (t110 : Int).toNat (wrap64 ((rd x3 t110) + (wrap64 ((rd x14 x16) * (rd x14 x16)))))) x14 x15 (wrap64 (x16 + 1))) else (none)) else (none))) else (none)) else (none)) else (some x3)
def impl_EnergyByLevel.f (k : Nat) (a0_0 : Int) (a0_1 : Int) : Option (List Int) := (impl_IsTable.f a0_0 a0_1).bind fun t102 => (if t102 = true then (if 0 ≤ (wrap64 (a0_0 + 1)) then (if (wrap64 (a0_0 + 1) : Int).toNat ≤ 35184372088832 then ((impl_Table_spectrum.f k a0_0 a0_1).bind fun t106 => (impl_EnergyByLevel.l0 k (List.replicate (wrap64 (a0_0 + 1) : Int).toNat 0) t106 (t106.length : Int) 0)) else (none)) else (none)) else (some ([] : List Int)))
set_option maxHeartbeats 8000000 in
set_option maxRecDepth 100000 in
theorem impl_EnergyByLevel.calls (k : Nat) (a0_0 : Int) (a0_1 : Int) (r : List Int) (w : World) (h : impl_EnergyByLevel.f k a0_0 a0_1 = some r) :
  Calls Try.prog 21 #[.agg #[.int .i64 a0_0,.int .i64 a0_1]] w fun e w' => ∃ v0_ : Value,e = .returned (v0_) ∧ Kd.R (Kd.int .i64) 3 w' w.heap.size (fun _ => True) v0_ r ∧ Below w.heap.size w w' := by
 have hu25 := Try.underlying25
 have HB := aZ_ (Below.refl w.heap.size w)
 have H : ((impl_IsTable.f a0_0 a0_1).bind fun t102 => (if t102 = true then (if 0 ≤ (wrap64 (a0_0 + 1)) then (if (wrap64 (a0_0 + 1) : Int).toNat ≤ 35184372088832 then ((impl_Table_spectrum.f k a0_0 a0_1).bind fun t106 => (impl_EnergyByLevel.l0 k (List.replicate (wrap64 (a0_0 + 1) : Int).toNat 0) t106 (t106.length : Int) 0)) else (none)) else (none)) else (some ([] : List Int)))) = some r := h
 clear h
 replace H := Option.bind_eq_some_iff.mp H
 obtain ⟨t102,A20,H⟩ := H
 replace H : (if t102 = true then (if 0 ≤ (wrap64 (a0_0 + 1)) then (if (wrap64 (a0_0 + 1) : Int).toNat ≤ 35184372088832 then ((impl_Table_spectrum.f k a0_0 a0_1).bind fun t106 => (impl_EnergyByLevel.l0 k (List.replicate (wrap64 (a0_0 + 1) : Int).toNat 0) t106 (t106.length : Int) 0)) else (none)) else (none)) else (some ([] : List Int))) = some r := H
 have A2 := aZ_ A20
 clear A20
 by_cases c3 : t102 = true
 ·subst c3
  have H1 : (if 0 ≤ (wrap64 (a0_0 + 1)) then (if (wrap64 (a0_0 + 1) : Int).toNat ≤ 35184372088832 then ((impl_Table_spectrum.f k a0_0 a0_1).bind fun t106 => (impl_EnergyByLevel.l0 k (List.replicate (wrap64 (a0_0 + 1) : Int).toNat 0) t106 (t106.length : Int) 0)) else (none)) else (none)) = some r := by rw [if_pos rfl] at H;exact H
  clear H
  have H := H1
  clear H1
  obtain ⟨ji4,hji4⟩ : ∃ j_ : Int,(wrap64 (a0_0 + 1)) = j_ := ⟨_,rfl⟩
  replace H : (if 0 ≤ (ji4) then (if (ji4 : Int).toNat ≤ 35184372088832 then ((impl_Table_spectrum.f k a0_0 a0_1).bind fun t106 => (impl_EnergyByLevel.l0 k (List.replicate (ji4 : Int).toNat 0) t106 (t106.length : Int) 0)) else (none)) else (none)) = some r := by first | (rw [hji4] at H;exact H) | (simp only [hji4] at H ⊢;exact H)
  (try rw [hji4] at A2)
  have hji4w : (IntKind.i64.wrap (a0_0 + 1)) = ji4 := (i64_w _).trans hji4
  by_cases c5 : 0 ≤ (ji4)
  ·rw [if_pos c5] at H
   have c5b0 := eq_true c5
   have c5b1 : decide (0 ≤ (ji4)) = true := decide_eq_true c5
   clear c5
   by_cases c6 : (ji4 : Int).toNat ≤ 35184372088832
   ·rw [if_pos c6] at H
    have c6b0 := eq_true c6
    have c6b1 : decide ((ji4 : Int).toNat ≤ 35184372088832) = true := decide_eq_true c6
    clear c6
    obtain ⟨y103,hy103⟩ : ∃ y_ : List Int,y_ = (List.replicate (ji4 : Int).toNat 0) := ⟨_,rfl⟩
    replace H : ((impl_Table_spectrum.f k a0_0 a0_1).bind fun t106 => (impl_EnergyByLevel.l0 k y103 t106 (t106.length : Int) 0)) = some r := by first | (rw [hy103];with_reducible exact H) | (have H2_ := (Option.bind_some _ _).symm.trans H;rw [hy103];with_reducible exact H2_) | (have H2_ := (Option.bind_some _ _).symm.trans H;with_reducible exact H2_) | with_reducible exact H | (rw [hy103];exact H) | exact H
    have Ny103 := aZ_ hy103
    clear hy103
    replace H := Option.bind_eq_some_iff.mp H
    obtain ⟨t106,A70,H⟩ := H
    replace H : (impl_EnergyByLevel.l0 k y103 t106 (t106.length : Int) 0) = some r := H
    have A7 := aZ_ A70
    clear A70
    have H' := aZ_ H
    clear H
    go_enter Try.func21,Try.ntmps21
    go_wp2_with (first | ((with_reducible refine gate_dst (N := 1) rfl ?_);refine box_event ?hg (N := 1) ?hd (cs := #[.int .i64 a0_0,.int .i64 a0_1]) (t := 25) ?hr ?_;(case hd => rfl);(case hg => rfl);(case hr => first | (go_simp;done) | (go_simp;rfl));intro gb101 hg w8 hbox hb;have n0_ := aZ_ (below_step T7_ hb);have n1_ := aZ_ (hbox);have n2_ := aZ_ ((T4_ : w.heap.size ≤ gb101));have n3_ := aZ_ ((T4_ : w.heap.size ≤ gb101));clear HB;have HB := n0_;have BK101 := n1_;have GW101 := n2_;have GE101 := n3_;clear n0_ n1_ n2_ n3_;clear hb hbox hg;have hcz9_0 : w8.cell? ⟨gb101,0,none⟩ = some (.int .i64 a0_0) := (blk_cell BK101.out 0).trans rfl;have hcz9_1 : w8.cell? ⟨gb101,1,none⟩ = some (.int .i64 a0_1) := (blk_cell BK101.out 1).trans rfl;have hfz9_0 := blk_frozen BK101.out 0;have hfz9_1 := blk_frozen BK101.out 1) | ((with_reducible refine gate_callee (f := 32) rfl ?_);refine goesL_ (some 7) rfl rfl Try.func32 T16_ rfl #[.agg #[.int .i64 a0_0,.int .i64 a0_1]] rfl T3_ ?_;(with_reducible refine (impl_IsTable.calls a0_0 a0_1 true _ A2.out).mono ?_);rintro e w10 ⟨rfl,hb⟩;refine ⟨_,rfl,?_⟩;have n0_ := aZ_ (blk_below (g := gb101) (o := .cells #[.int .i64 a0_0,.int .i64 a0_1] 25 (0,0)) T2_ hb);have n1_ := aZ_ (below_step T1_ hb);clear BK101;clear HB;have BK101 := n0_;have HB := n1_;clear n0_ n1_;(try clear hb);(try clear hb2);(try clear hk);(try clear hi);have hcz11_0 : w10.cell? ⟨gb101,0,none⟩ = some (.int .i64 a0_0) := (blk_cell BK101.out 0).trans rfl;have hcz11_1 : w10.cell? ⟨gb101,1,none⟩ = some (.int .i64 a0_1) := (blk_cell BK101.out 1).trans rfl;have hfz11_0 := blk_frozen BK101.out 0;have hfz11_1 := blk_frozen BK101.out 1) | ((with_reducible refine gate_dst (N := 12) rfl ?_);refine Kd.R_make (Kd.int .i64) _ 3 rfl (N := 12) rfl 27 _ _ rfl ji4 rfl rfl Try.underlying27 (.int .i64 0) 8 info3 rfl T43_ T48_ 0 (ok := fun _ => True) (okp := fun _ => True) rfl (fun _ hk => hk) trivial (of_decide_eq_true T10_) (Nat.le_trans (Nat.mul_le_mul_right _ (of_decide_eq_true T10_ : ji4.toNat ≤ 35184372088832)) T48_) (Below.refl _ _) (Nat.le_refl _) ?_;intro v104 w12 ho13 hb hg_ hnew_;clear hg_ hnew_;(first | rw [← Ny103.out] at ho13 | (simp only [Int.reduceToNat] at ho13;rw [← Ny103.out] at ho13));have n0_ := aZ_ (Kd.R_lower ho13 (below_size T1_));have n1_ := aZ_ (blk_below (g := gb101) (o := .cells #[.int .i64 a0_0,.int .i64 a0_1] 25 (0,0)) T2_ hb);have n2_ := aZ_ (below_step T1_ hb);clear BK101;clear HB;have HO105 := n0_;have BK101 := n1_;have HB := n2_;clear n0_ n1_ n2_;clear hb ho13;have hcz14_0 : w12.cell? ⟨gb101,0,none⟩ = some (.int .i64 a0_0) := (blk_cell BK101.out 0).trans rfl;have hcz14_1 : w12.cell? ⟨gb101,1,none⟩ = some (.int .i64 a0_1) := (blk_cell BK101.out 1).trans rfl;have hfz14_0 := blk_frozen BK101.out 0;have hfz14_1 := blk_frozen BK101.out 1) | ((with_reducible refine gate_callee (f := 33) rfl ?_);refine goesL_ (some 14) rfl rfl Try.func33 T16_ rfl #[.agg #[.int .i64 a0_0,.int .i64 a0_1]] rfl T3_ ?_;(with_reducible refine (impl_Table_spectrum.calls k a0_0 a0_1 t106 _ A7.out).mono ?_);rintro e w15 ⟨v107,rfl,ho0,hb⟩;refine ⟨_,rfl,?_⟩;have n0_ := aZ_ (Kd.R_elder' (by (with_reducible repeat (first | apply Kd.R_alloc | apply Kd.R_drewN | apply Kd.R_drew));exact HO105.out) (Kd.R_base ho0) hb);have n1_ := aZ_ (Kd.R_lower (Kd.R_new' ho0 (Kd.R_lt (by (with_reducible repeat (first | apply Kd.R_alloc | apply Kd.R_drewN | apply Kd.R_drew));exact HO105.out))) (below_size T1_));have n2_ := aZ_ (blk_below (g := gb101) (o := .cells #[.int .i64 a0_0,.int .i64 a0_1] 25 (0,0)) T2_ hb);have n3_ := aZ_ (below_step T1_ hb);clear HO105;clear BK101;clear HB;have HO105 := n0_;have HO108 := n1_;have BK101 := n2_;have HB := n3_;clear n0_ n1_ n2_ n3_;(try clear hb);(try clear hb2);(try clear hk);(try clear hi);(try clear ho0);obtain ⟨Ao16,co16,eo16⟩ := Kd.R_slice HO108.out;subst eo16))
    go_loopg [16] k (fun kq v16 w' => ∃ (x3_1 : List Int) (x16_1 : Int),v16 = .int .i64 x16_1 ∧ Aside0 (impl_EnergyByLevel.l0 kq x3_1 t106 (t106.length : Int) x16_1 = some r) ∧ Aside0 (kq ≤ k) ∧ Aside0 (Kd.R (Kd.int .i64) 3 w' w.heap.size (fun k_ => some k_ ≠ ((.slice Ao16 t106.length co16) : Value).ownBlock) v104 x3_1) ∧ Aside0 (Kd.R (Kd.int .i64) 3 w' w.heap.size (fun k_ => some k_ ≠ (v104 : Value).ownBlock) (.slice Ao16 t106.length co16) t106) ∧ Aside0 (w'.heap[gb101]? = some (.cells #[.int .i64 a0_0,.int .i64 a0_1] 25 (0,0))) ∧ Aside0 (Below w.heap.size w w'))
    case atStart => exact ⟨(y103),(0),T6_,H',⟨Nat.le_refl _⟩,⟨by (with_reducible repeat (first | apply Kd.R_alloc | apply Kd.R_drewN | apply Kd.R_drew));exact Kd.R_mono HO105.out (fun _ hk => hk.2)⟩,⟨by (with_reducible repeat (first | apply Kd.R_alloc | apply Kd.R_drewN | apply Kd.R_drew));exact Kd.R_mono HO108.out (fun _ hk => hk.2)⟩,⟨by (with_reducible repeat (first | refine blk_drewN ?_ _ | refine blk_drew ?_ | refine blk_alloc ?_ _));exact BK101.out⟩,⟨by repeat (first | (with_reducible first | exact HB.out | apply below_alloc | apply pw_below_drewN | apply below_drew1 | refine below_set ?_ GE101.out) | exact HB.out)⟩⟩
    case round =>
     clear H'
     try clear c2
     try clear p2
     try clear c3
     try clear c5
     try clear c5b0
     try clear c5b1
     try clear c6
     try clear c6b0
     try clear c6b1
     try clear p6
     try clear hcz11_0
     try clear hcz11_1
     try clear hcz14_0
     try clear hcz14_1
     try clear hcz9_0
     try clear hcz9_1
     try clear hfz11_0
     try clear hfz11_1
     try clear hfz14_0
     try clear hfz14_1
     try clear hfz9_0
     try clear hfz9_1
     obtain ⟨x3_1,x16_1,rfl,HA,HK1,HO_3,HO_14,BK101,HB⟩ := hrel
     cases gk with
     | zero => exact absurd HA.out (by simp [impl_EnergyByLevel.l0])
     | succ k1 =>
      have H := HA.out
      clear HA
      simp only [impl_EnergyByLevel.l0] at H
      by_cases c17 : x16_1 < (t106.length : Int)
      ·rw [if_pos c17] at H
       have c17b0 : decide (x16_1 < (t106.length : Int)) = true := decide_eq_true c17
       clear c17
       by_cases c18 : 0 ≤ x16_1
       ·rw [if_pos c18] at H
        have c18b0 : decide (0 ≤ x16_1) = true := decide_eq_true c18
        clear c18
        by_cases c19 : x16_1 < (t106.length : Int)
        ·rw [if_pos c19] at H
         have c19b0 : decide (x16_1 < (t106.length : Int)) = true := decide_eq_true c19
         clear c19
         replace H := Option.bind_eq_some_iff.mp H
         obtain ⟨t110,A200,H⟩ := H
         replace H : (if 0 ≤ t110 then (if t110 < (x3_1.length : Int) then (impl_EnergyByLevel.l0 k1 (x3_1.set (t110 : Int).toNat (wrap64 ((rd x3_1 t110) + (wrap64 ((rd t106 x16_1) * (rd t106 x16_1)))))) t106 (t106.length : Int) (wrap64 (x16_1 + 1))) else (none)) else (none)) = some r := H
         have A20 := aZ_ A200
         clear A200
         by_cases c21 : 0 ≤ t110
         ·rw [if_pos c21] at H
          have c21b0 : decide (0 ≤ t110) = true := decide_eq_true c21
          clear c21
          by_cases c22 : t110 < (x3_1.length : Int)
          ·rw [if_pos c22] at H
           have c22b0 : decide (t110 < (x3_1.length : Int)) = true := decide_eq_true c22
           clear c22
           obtain ⟨y112,hy112⟩ : ∃ y_ : List Int,y_ = (x3_1.set (t110 : Int).toNat (wrap64 ((rd x3_1 t110) + (wrap64 ((rd t106 x16_1) * (rd t106 x16_1)))))) := ⟨_,rfl⟩
           replace H : (impl_EnergyByLevel.l0 k1 y112 t106 (t106.length : Int) (wrap64 (x16_1 + 1))) = some r := by first | (rw [hy112];with_reducible exact H) | (have H2_ := (Option.bind_some _ _).symm.trans H;rw [hy112];with_reducible exact H2_) | (have H2_ := (Option.bind_some _ _).symm.trans H;with_reducible exact H2_) | with_reducible exact H | (rw [hy112];exact H) | exact H
           have Ny112 := aZ_ hy112
           clear hy112
           have H' := aZ_ H
           clear H
           have p109 : 0 ≤ (x16_1 : Int) := of_decide_eq_true T10_
           have q109 : x16_1 < (t106.length : Int) := of_decide_eq_true T10_
           obtain ⟨ad109,e109,hx109_0⟩ := Kd.at_int (Kd.R_reads' HO_14.out).2.2 x16_1 p109 q109
           cases e109
           replace p109 := eq_true p109
           replace q109 := eq_true q109
           go_wp2_with (first | ((with_reducible refine gate_callee (f := 38) rfl ?_);refine goesL_ (some 23) rfl rfl Try.func38 T16_ rfl #[.int .i64 x16_1] rfl T3_ ?_;(with_reducible refine (impl_ones.calls x16_1 t110 _ A20.out).mono ?_);rintro e w' ⟨rfl,⟨nd,rfl⟩⟩;refine ⟨_,rfl,?_⟩;(try (rw [drewN_self wr];generalize hq_ : World.drewN wr _ = wr;have n0_ : Aside0 (Kd.R (Kd.int .i64) 3 wr w.heap.size (fun k_ => some k_ ≠ (v104 : Value).ownBlock) (.slice (some ad109) t106.length co16) t106) := ⟨by rw [← hq_];exact (by (with_reducible repeat (first | apply Kd.R_alloc | apply Kd.R_drewN | apply Kd.R_drew));exact HO_14.out)⟩;have n1_ : Aside0 (Kd.R (Kd.int .i64) 3 wr w.heap.size (fun k_ => some k_ ≠ (.slice (some ad109) t106.length co16 : Value).ownBlock) v104 x3_1) := ⟨by rw [← hq_];exact T17_⟩;have n2_ : Aside0 (wr.heap[gb101]? = some (.cells #[.int .i64 a0_0,.int .i64 a0_1] 25 (0,0))) := ⟨by rw [← hq_];exact T2_⟩;have n3_ : Aside0 (Below w.heap.size w wr) := ⟨by rw [← hq_];exact T1_⟩;clear HO_14 HO_3 BK101 HB hq_;have HO_14 := n0_;have HO_3 := n1_;have BK101 := n2_;have HB := n3_;clear n0_ n1_ n2_ n3_));obtain ⟨Ao24,co24,eo24⟩ := Kd.R_slice HO_3.out;subst eo24;have p111 : 0 ≤ (t110 : Int) := of_decide_eq_true T10_;have q111 : t110 < (x3_1.length : Int) := of_decide_eq_true T10_;obtain ⟨ad111,e111,hx111_0⟩ := Kd.at_int (Kd.R_reads' HO_3.out).2.2 t110 p111 q111;cases e111;replace p111 := eq_true p111;replace q111 := eq_true q111;have p23 : 0 ≤ (t110 : Int) := of_decide_eq_true T10_;have q23 : (t110 : Int) < ((x3_1.length : Int) : Int) := of_decide_eq_true T10_;obtain ⟨go23,co23,eo23,gb23,gl23,cl23,HG23⟩ := Kd.R_form HO_3.out T48_;(first | cases eo23 | (injection eo23 with ea_ en_ ec_;(first | subst ea_ | (injection ea_ with ea_;subst ea_));subst ec_;clear en_));have GB23 := aZ_ gb23;have GG23 := aZ_ HG23;clear gb23 gl23 HG23;(first | simp only [add_plain] at hx111_0 | skip);obtain ⟨hx23_0,hf23_0⟩ := Kd.R_celln 0 HO_3.out (t110 : Int) p23 q23;replace p23 := eq_true p23;replace q23 := eq_true q23;obtain ⟨hy25_,hz25_⟩ := Kd.R_celln 0 HO_3.out (t110 : Int) (of_decide_eq_true T10_) (of_decide_eq_true T10_);have HP25 := Kd.R_putg HO_3.out (t110 : Int) (wrap64 ((rd x3_1 t110) + (wrap64 ((rd t106 x16_1) * (rd t106 x16_1)))))) | ((with_reducible refine gate_store (t := 3) (p := 30) rfl ?_);refine store_event (t := 3) (p := 30) (v := ?vo_w26) (w1 := (wr.setCell ⟨go23,(t110 : Int).toNat,none⟩ (.int .i64 (wrap64 ((rd x3_1 t110) + (wrap64 ((rd t106 x16_1) * (rd t106 x16_1)))))))) ?hg ?ho ?hn ?hr ?_;(case ho => rfl);(case hg => rfl);(case hn => rfl);(case hr => first | (go_simp;done) | (go_simp;rfl));intro w26 hw;have hg : wr.grownBy w26 (some go23) := (by rw [hw];exact HP25.2);have hp_ : Kd.R (Kd.int .i64) 3 w26 w.heap.size (fun k_ => some k_ ≠ (.slice (some ad109) t106.length co16 : Value).ownBlock) (.slice (some ⟨go23,0,none⟩) x3_1.length co24) y112 := (by rw [hw,Ny112.out];exact HP25.1);clear HP25;have n0_ := aZ_ (hp_);have n1_ := aZ_ (Kd.R_after (v := (.slice (some ⟨go23,0,none⟩) x3_1.length co24)) (v1 := (.slice (some ⟨go23,0,none⟩) x3_1.length co24)) (ok := (fun _ => True)) (by (with_reducible repeat (first | apply Kd.R_alloc | apply Kd.R_drewN | apply Kd.R_drew));exact Kd.R_mono HO_14.out (fun _ hk => ⟨trivial,hk⟩)) hg (.inl rfl));have n2_ := aZ_ (blk_grown (g := gb101) (o := .cells #[.int .i64 a0_0,.int .i64 a0_1] 25 (0,0)) T2_ hg (Kd.R_ne HO_3.out BK101.out T43_));have n3_ := aZ_ ((by rw [hw];exact below_set (HB.out) GB23.out : Below w.heap.size w w26));clear HO_3;clear HO_14;clear BK101;clear HB;have HO_3 := n0_;have HO_14 := n1_;have BK101 := n2_;have HB := n3_;clear n0_ n1_ n2_ n3_;clear hg hw hp_))
           go_roundg k1
           case measure => have := HK1.out;omega
           case rel => exact ⟨(y112),(wrap64 (x16_1 + 1)),T6_,H',⟨by have := HK1.out;omega⟩,⟨by (with_reducible repeat (first | apply Kd.R_alloc | apply Kd.R_drewN | apply Kd.R_drew));exact HO_3.out⟩,⟨by (with_reducible repeat (first | apply Kd.R_alloc | apply Kd.R_drewN | apply Kd.R_drew));exact Kd.R_mono HO_14.out (fun _ hk => hk.2)⟩,⟨by (with_reducible repeat (first | refine blk_drewN ?_ _ | refine blk_drew ?_ | refine blk_alloc ?_ _));exact BK101.out⟩,⟨by repeat (first | (with_reducible first | exact HB.out | apply below_alloc | apply pw_below_drewN | apply below_drew1 | refine below_set ?_ GE101.out) | exact HB.out)⟩⟩
          ·rw [if_neg c22] at H
           exact absurd H T42_
         ·rw [if_neg c21] at H
          exact absurd H T42_
        ·rw [if_neg c19] at H
         exact absurd H T42_
       ·rw [if_neg c18] at H
        exact absurd H T42_
      ·rw [if_neg c17] at H
       have c17b0 : decide (x16_1 < (t106.length : Int)) = false := decide_eq_false c17
       clear c17
       obtain rfl := Option.some.inj H
       go_wp2
       go_ret
       exact ⟨_,by first | rfl | (simp [errW_none,errW_some] <;> rfl) | (simp only [← hji4];first | rfl | (simp [errW_none,errW_some] <;> rfl)) | (simp [*,errW_none,errW_some] <;> rfl),by (with_reducible repeat (first | apply Kd.R_alloc | apply Kd.R_drewN | apply Kd.R_drew));exact Kd.R_mono HO_3.out (fun _ hk => trivial),by repeat (first | (with_reducible first | exact HB.out | apply below_alloc | apply pw_below_drewN | apply below_drew1 | refine below_set ?_ GE101.out) | exact HB.out)⟩
   ·rw [if_neg c6] at H
    exact absurd H T42_
  ·rw [if_neg c5] at H
   exact absurd H T42_
 ·replace c3 := Bool.eq_false_iff.mpr c3
  subst c3
  have H1 : (some ([] : List Int)) = some r := by rw [if_neg (show ¬ (false = true) by decide)] at H;exact H
  clear H
  have H := H1
  clear H1
  obtain rfl := Option.some.inj H
  go_enter Try.func21,Try.ntmps21
  go_wp2_with (first | ((with_reducible refine gate_dst (N := 1) rfl ?_);refine box_event ?hg (N := 1) ?hd (cs := #[.int .i64 a0_0,.int .i64 a0_1]) (t := 25) ?hr ?_;(case hd => rfl);(case hg => rfl);(case hr => first | (go_simp;done) | (go_simp;rfl));intro gb101 hg w27 hbox hb;have n0_ := aZ_ (below_step T7_ hb);have n1_ := aZ_ (hbox);have n2_ := aZ_ ((T4_ : w.heap.size ≤ gb101));have n3_ := aZ_ ((T4_ : w.heap.size ≤ gb101));clear HB;have HB := n0_;have BK101 := n1_;have GW101 := n2_;have GE101 := n3_;clear n0_ n1_ n2_ n3_;clear hb hbox hg;have hcz28_0 : w27.cell? ⟨gb101,0,none⟩ = some (.int .i64 a0_0) := (blk_cell BK101.out 0).trans rfl;have hcz28_1 : w27.cell? ⟨gb101,1,none⟩ = some (.int .i64 a0_1) := (blk_cell BK101.out 1).trans rfl;have hfz28_0 := blk_frozen BK101.out 0;have hfz28_1 := blk_frozen BK101.out 1) | ((with_reducible refine gate_callee (f := 32) rfl ?_);refine goesL_ (some 7) rfl rfl Try.func32 T16_ rfl #[.agg #[.int .i64 a0_0,.int .i64 a0_1]] rfl T3_ ?_;(with_reducible refine (impl_IsTable.calls a0_0 a0_1 false _ A2.out).mono ?_);rintro e w29 ⟨rfl,hb⟩;refine ⟨_,rfl,?_⟩;have n0_ := aZ_ (blk_below (g := gb101) (o := .cells #[.int .i64 a0_0,.int .i64 a0_1] 25 (0,0)) T2_ hb);have n1_ := aZ_ (below_step T1_ hb);clear BK101;clear HB;have BK101 := n0_;have HB := n1_;clear n0_ n1_;(try clear hb);(try clear hb2);(try clear hk);(try clear hi)))
  go_ret
  exact ⟨_,by first | rfl | (simp [errW_none,errW_some] <;> rfl) | (simp [*,errW_none,errW_some] <;> rfl),by first | exact Kd.R_nil _ _ _ _ _ | exact Kd.N_nil _ _ _ _ _ | exact Kd.V_nil _ _ _ _ _ | exact Kd.Q_nil _ _ _ _ _ | exact Kd.S_nil _ _ _ _ _,by repeat (first | (with_reducible first | exact HB.out | apply below_alloc | apply pw_below_drewN | apply below_drew1 | refine below_set ?_ GE101.out) | exact HB.out)⟩
end Go.Proofs.Ytflacbjpeecjcaa.F
