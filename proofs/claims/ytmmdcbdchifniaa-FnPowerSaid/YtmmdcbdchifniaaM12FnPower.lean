/- Walks of Go functions and lemmas on what they compute, for the row of FnPower (a part of several): each call ends as the Lean function of its name tells; the conditions are those of each theorem. -/
import Derived.Test.YtmmdcbdchifniaaM1FnPower
import Derived.Test.YtmmdcbdchifniaaM2FnPower
import Derived.Test.YtmmdcbdchifniaaM3FnPower
import Derived.Test.YtmmdcbdchifniaaM4FnPower
import Derived.Test.YtmmdcbdchifniaaM8FnPower
namespace Go.Proofs.Ytmmdcbdchifniaa.F
open Go.RowKit Go.Proofs.YtmmdcbdchifniaaW.PrintWords Go.Proofs.YtmmdcbdchifniaaW.PrintLast Go.Proofs.YtmmdcbdchifniaaW.PrintMore
attribute [local go_sem] max2_int min2_int max_two min_two max_three min_three max_four min_four 
set_option linter.unusedVariables false
set_option linter.unusedSimpArgs false
mutual
def impl_DesirabilityOf.j0 : Nat → Int → Int → Bool → Int → Int → Option (Int)
 | 0,_,_,_,_,_ => none
 | k + 1,x1,x2,x26,x102000,x102001 => if x26 = true then (some (-2)) else ((impl_Table_size.f x102000 x102001).bind fun t105 => (impl_DesirabilityOf.l0 k x1 x2 false false t105 0 x102000 x102001))
def impl_DesirabilityOf.l0 : Nat → Int → Int → Bool → Bool → Int → Int → Int → Int → Option (Int)
 | 0,_,_,_,_,_,_,_,_ => none
 | k + 1,x1,x2,x7,x8,x28,x29,x102000,x102001 => if x29 < x28 then (if 0 ≤ x1 then (if (Go.bits .and .i64 (shr .i64 x29 x1) 1) = 0 then (if 0 ≤ x2 then (impl_DesirabilityOf.j2 k x1 x2 x7 x8 x29 x28 x29 ((Go.bits .and .i64 (shr .i64 x29 x2) 1) == 0) x102000 x102001) else (none)) else (impl_DesirabilityOf.j2 k x1 x2 x7 x8 x29 x28 x29 false x102000 x102001)) else (none)) else (if x7 = true then (impl_DesirabilityOf.j3 k x7 x8 x8) else (impl_DesirabilityOf.j3 k x7 x8 false))
def impl_DesirabilityOf.j2 : Nat → Int → Int → Bool → Bool → Int → Int → Int → Bool → Int → Int → Option (Int)
 | 0,_,_,_,_,_,_,_,_,_,_ => none
 | k + 1,x1,x2,x7,x8,x9,x28,x29,x43,x102000,x102001 => if x43 = true then (if 0 ≤ x1 then ((impl_Table_at.f x102000 x102001 (Go.bits .or .i64 x9 (shl .i64 1 x1))).bind fun t106 => (if 0 ≤ x2 then ((impl_Table_at.f x102000 x102001 (Go.bits .or .i64 x9 (shl .i64 1 x2))).bind fun t107 => (if x7 = true then (if x8 = true then (impl_DesirabilityOf.l0 k x1 x2 true true x28 (wrap64 (x29 + 1)) x102000 x102001) else (impl_DesirabilityOf.l0 k x1 x2 true (decide (t107 > t106)) x28 (wrap64 (x29 + 1)) x102000 x102001)) else (if x8 = true then (impl_DesirabilityOf.l0 k x1 x2 (decide (t106 > t107)) true x28 (wrap64 (x29 + 1)) x102000 x102001) else (impl_DesirabilityOf.l0 k x1 x2 (decide (t106 > t107)) (decide (t107 > t106)) x28 (wrap64 (x29 + 1)) x102000 x102001)))) else (none))) else (none)) else (impl_DesirabilityOf.l0 k x1 x2 x7 x8 x28 (wrap64 (x29 + 1)) x102000 x102001)
def impl_DesirabilityOf.j3 : Nat → Bool → Bool → Bool → Option (Int)
 | 0,_,_,_ => none
 | k + 1,x7,x8,x69 => if x69 = true then (some 2) else (if x7 = true then (some 1) else (if x8 = true then (some (-1)) else (some 0)))
end
def impl_DesirabilityOf.f (k : Nat) (a0_0 : Int) (a0_1 : Int) (a1 : Int) (a2 : Int) : Option (Int) := (impl_IsSimpleGame.f k a0_0 a0_1).bind fun t102 => (if t102 = true then ((impl_hasVariable.f a0_0 a0_1 a1).bind fun t103 => (if t103 = true then ((impl_hasVariable.f a0_0 a0_1 a2).bind fun t104 => (impl_DesirabilityOf.j0 k a1 a2 (!t104) a0_0 a0_1)) else (impl_DesirabilityOf.j0 k a1 a2 true a0_0 a0_1))) else (impl_DesirabilityOf.j0 k a1 a2 true a0_0 a0_1))
def impl_DesirabilityOf.T8 : Bool × List (List Nat × List Nat) := (true,[([],[]),([],[]),([],[]),([2],[2]),([1,3],[1,3]),([0,4],[0,4]),([],[]),([],[]),([],[]),([8],[8]),([7,9],[7,9]),([6,10,5],[6,10]),([5,11,0,1,2,3,4,5],[5]),([11,12,0,1,2,3,4,5,6,7,8,9,10,11,12],[11])])
def impl_DesirabilityOf.B8 : List Nat := [0,0,0,4,14,31,0,0,0,256,896,2047,4095,8191]
theorem impl_DesirabilityOf.tab8 : rtab .any (opsOf Try.f22 8) = impl_DesirabilityOf.T8 := by kernel_rfl
theorem impl_DesirabilityOf.bits8 : waitsOk impl_DesirabilityOf.T8.2 impl_DesirabilityOf.B8 = true := by kernel_rfl
set_option maxHeartbeats 8000000 in
set_option maxRecDepth 100000 in
theorem impl_DesirabilityOf.calls (k : Nat) (a0_0 : Int) (a0_1 : Int) (a1 : Int) (a2 : Int) (r : Int) (w : World) (h : impl_DesirabilityOf.f k a0_0 a0_1 a1 a2 = some r) :
  Calls Try.prog 22 #[.agg #[.int .i64 a0_0,.int .i64 a0_1],.int .i64 a1,.int .i64 a2] w fun e w' => e = .returned (.int .i64 r) ∧ Below w.heap.size w w' := by
 have hu25 := Try.underlying25
 have HB := aZ_ (Below.refl w.heap.size w)
 have H : ((impl_IsSimpleGame.f k a0_0 a0_1).bind fun t102 => (if t102 = true then ((impl_hasVariable.f a0_0 a0_1 a1).bind fun t103 => (if t103 = true then ((impl_hasVariable.f a0_0 a0_1 a2).bind fun t104 => (impl_DesirabilityOf.j0 k a1 a2 (!t104) a0_0 a0_1)) else (impl_DesirabilityOf.j0 k a1 a2 true a0_0 a0_1))) else (impl_DesirabilityOf.j0 k a1 a2 true a0_0 a0_1))) = some r := h
 clear h
 have HC4 := aZ_ H
 clear H
 go_enter Try.func22,Try.ntmps22
 go_upto_region 1 with (first | ((with_reducible refine gate_dst (N := 3) rfl ?_);refine box_event ?hg (N := 3) ?hd (cs := #[.int .i64 a0_0,.int .i64 a0_1]) (t := 25) ?hr ?_;(case hd => rfl);(case hg => rfl);(case hr => first | (go_simp;done) | (go_simp;rfl));intro gb101 hg w5 hbox hb;have n0_ := aZ_ (below_step T5_ hb);have n1_ := aZ_ (hbox);have n2_ := aZ_ ((T3_ : w.heap.size ≤ gb101));have n3_ := aZ_ ((T3_ : w.heap.size ≤ gb101));clear HB;have HB := n0_;have BK101 := n1_;have GW101 := n2_;have GE101 := n3_;clear n0_ n1_ n2_ n3_;clear hb hbox hg))
 (try simp only [Act.put,List.setIfInBounds_toArray,List.set_cons_zero,List.set_cons_succ])
 go_cut [26] (fun v26 wc => ∃ (kq : Nat) (x26_3 : Bool),v26 = .bool x26_3 ∧ Aside0 (impl_DesirabilityOf.j0 kq a1 a2 x26_3 a0_0 a0_1 = some r) ∧ Aside0 (kq ≤ k) ∧ Aside0 (wc.heap[gb101]? = some (.cells #[.int .i64 a0_0,.int .i64 a0_1] 25 (0,0))) ∧ Aside0 (Below w.heap.size w wc))
 case first =>
  have H := HC4.out
  clear HC4
  replace H := Option.bind_eq_some_iff.mp H
  obtain ⟨t102,A60,H⟩ := H
  replace H : (if t102 = true then ((impl_hasVariable.f a0_0 a0_1 a1).bind fun t103 => (if t103 = true then ((impl_hasVariable.f a0_0 a0_1 a2).bind fun t104 => (impl_DesirabilityOf.j0 k a1 a2 (!t104) a0_0 a0_1)) else (impl_DesirabilityOf.j0 k a1 a2 true a0_0 a0_1))) else (impl_DesirabilityOf.j0 k a1 a2 true a0_0 a0_1)) = some r := H
  have A6 := aZ_ A60
  clear A60
  by_cases c7 : t102 = true
  ·subst c7
   have H1 : ((impl_hasVariable.f a0_0 a0_1 a1).bind fun t103 => (if t103 = true then ((impl_hasVariable.f a0_0 a0_1 a2).bind fun t104 => (impl_DesirabilityOf.j0 k a1 a2 (!t104) a0_0 a0_1)) else (impl_DesirabilityOf.j0 k a1 a2 true a0_0 a0_1))) = some r := by rw [if_pos rfl] at H;exact H
   clear H
   have H := H1
   clear H1
   replace H := Option.bind_eq_some_iff.mp H
   obtain ⟨t103,A80,H⟩ := H
   replace H : (if t103 = true then ((impl_hasVariable.f a0_0 a0_1 a2).bind fun t104 => (impl_DesirabilityOf.j0 k a1 a2 (!t104) a0_0 a0_1)) else (impl_DesirabilityOf.j0 k a1 a2 true a0_0 a0_1)) = some r := H
   have A8 := aZ_ A80
   clear A80
   by_cases c9 : t103 = true
   ·subst c9
    have H1 : ((impl_hasVariable.f a0_0 a0_1 a2).bind fun t104 => (impl_DesirabilityOf.j0 k a1 a2 (!t104) a0_0 a0_1)) = some r := by rw [if_pos rfl] at H;exact H
    clear H
    have H := H1
    clear H1
    replace H := Option.bind_eq_some_iff.mp H
    obtain ⟨t104,A100,H⟩ := H
    replace H : (impl_DesirabilityOf.j0 k a1 a2 (!t104) a0_0 a0_1) = some r := H
    have A10 := aZ_ A100
    clear A100
    have H' := aZ_ H
    clear H
    have hcz11_0 : w5.cell? ⟨gb101,0,none⟩ = some (.int .i64 a0_0) := (blk_cell BK101.out 0).trans rfl
    have hcz11_1 : w5.cell? ⟨gb101,1,none⟩ = some (.int .i64 a0_1) := (blk_cell BK101.out 1).trans rfl
    have hfz11_0 := blk_frozen BK101.out 0
    have hfz11_1 := blk_frozen BK101.out 1
    go_wp2_with (first | ((with_reducible refine gate_callee (f := 10) rfl ?_);refine goesL_ (some 13) rfl rfl Try.func10 T12_ rfl #[.agg #[.int .i64 a0_0,.int .i64 a0_1]] rfl T4_ ?_;(with_reducible refine (impl_IsSimpleGame.calls k a0_0 a0_1 true _ A6.out).mono ?_);rintro e w12 ⟨rfl,hb⟩;refine ⟨_,rfl,?_⟩;have n0_ := aZ_ (blk_below (g := gb101) (o := .cells #[.int .i64 a0_0,.int .i64 a0_1] 25 (0,0)) T2_ hb);have n1_ := aZ_ (below_step T1_ hb);clear BK101;clear HB;have BK101 := n0_;have HB := n1_;clear n0_ n1_;(try clear hb);(try clear hb2);(try clear hk);(try clear hi);have hcz13_0 : w12.cell? ⟨gb101,0,none⟩ = some (.int .i64 a0_0) := (blk_cell BK101.out 0).trans rfl;have hcz13_1 : w12.cell? ⟨gb101,1,none⟩ = some (.int .i64 a0_1) := (blk_cell BK101.out 1).trans rfl;have hfz13_0 := blk_frozen BK101.out 0;have hfz13_1 := blk_frozen BK101.out 1) | (go_at_call 47;(with_reducible refine (impl_hasVariable.calls a0_0 a0_1 a1 true _ A8.out).mono ?_);rintro e w14 ⟨rfl,hb⟩;have n0_ := aZ_ (blk_below (g := gb101) (o := .cells #[.int .i64 a0_0,.int .i64 a0_1] 25 (0,0)) T2_ hb);have n1_ := aZ_ (below_step T1_ hb);clear BK101;clear HB;have BK101 := n0_;have HB := n1_;clear n0_ n1_;(try clear hb);(try clear hb2);(try clear hk);(try clear hi);have hcz15_0 : w14.cell? ⟨gb101,0,none⟩ = some (.int .i64 a0_0) := (blk_cell BK101.out 0).trans rfl;have hcz15_1 : w14.cell? ⟨gb101,1,none⟩ = some (.int .i64 a0_1) := (blk_cell BK101.out 1).trans rfl;have hfz15_0 := blk_frozen BK101.out 0;have hfz15_1 := blk_frozen BK101.out 1) | (go_at_call 47;(with_reducible refine (impl_hasVariable.calls a0_0 a0_1 a2 t104 _ A10.out).mono ?_);rintro e w16 ⟨rfl,hb⟩;have n0_ := aZ_ (blk_below (g := gb101) (o := .cells #[.int .i64 a0_0,.int .i64 a0_1] 25 (0,0)) T2_ hb);have n1_ := aZ_ (below_step T1_ hb);clear BK101;clear HB;have BK101 := n0_;have HB := n1_;clear n0_ n1_;(try clear hb);(try clear hb2);(try clear hk);(try clear hi)))
    go_meet
    case rel => exact ⟨_,(!t104),T6_,H',⟨by first | omega | exact Nat.le_refl _⟩,⟨by (with_reducible repeat (first | refine blk_drewN ?_ _ | refine blk_drew ?_ | refine blk_alloc ?_ _));exact BK101.out⟩,⟨by repeat (first | (with_reducible first | exact HB.out | apply below_alloc | apply pw_below_drewN | apply below_drew1 | refine below_set ?_ GE101.out) | exact HB.out)⟩⟩
   ·replace c9 := Bool.eq_false_iff.mpr c9
    subst c9
    have H1 : (impl_DesirabilityOf.j0 k a1 a2 true a0_0 a0_1) = some r := by rw [if_neg (show ¬ (false = true) by decide)] at H;exact H
    clear H
    have H := H1
    clear H1
    have H' := aZ_ H
    clear H
    have hcz17_0 : w5.cell? ⟨gb101,0,none⟩ = some (.int .i64 a0_0) := (blk_cell BK101.out 0).trans rfl
    have hcz17_1 : w5.cell? ⟨gb101,1,none⟩ = some (.int .i64 a0_1) := (blk_cell BK101.out 1).trans rfl
    have hfz17_0 := blk_frozen BK101.out 0
    have hfz17_1 := blk_frozen BK101.out 1
    go_wp2_with (first | ((with_reducible refine gate_callee (f := 10) rfl ?_);refine goesL_ (some 13) rfl rfl Try.func10 T12_ rfl #[.agg #[.int .i64 a0_0,.int .i64 a0_1]] rfl T4_ ?_;(with_reducible refine (impl_IsSimpleGame.calls k a0_0 a0_1 true _ A6.out).mono ?_);rintro e w18 ⟨rfl,hb⟩;refine ⟨_,rfl,?_⟩;have n0_ := aZ_ (blk_below (g := gb101) (o := .cells #[.int .i64 a0_0,.int .i64 a0_1] 25 (0,0)) T2_ hb);have n1_ := aZ_ (below_step T1_ hb);clear BK101;clear HB;have BK101 := n0_;have HB := n1_;clear n0_ n1_;(try clear hb);(try clear hb2);(try clear hk);(try clear hi);have hcz19_0 : w18.cell? ⟨gb101,0,none⟩ = some (.int .i64 a0_0) := (blk_cell BK101.out 0).trans rfl;have hcz19_1 : w18.cell? ⟨gb101,1,none⟩ = some (.int .i64 a0_1) := (blk_cell BK101.out 1).trans rfl;have hfz19_0 := blk_frozen BK101.out 0;have hfz19_1 := blk_frozen BK101.out 1) | (go_at_call 47;(with_reducible refine (impl_hasVariable.calls a0_0 a0_1 a1 false _ A8.out).mono ?_);rintro e w20 ⟨rfl,hb⟩;have n0_ := aZ_ (blk_below (g := gb101) (o := .cells #[.int .i64 a0_0,.int .i64 a0_1] 25 (0,0)) T2_ hb);have n1_ := aZ_ (below_step T1_ hb);clear BK101;clear HB;have BK101 := n0_;have HB := n1_;clear n0_ n1_;(try clear hb);(try clear hb2);(try clear hk);(try clear hi)))
    go_meet
    case rel => exact ⟨_,(true),T6_,H',⟨by first | omega | exact Nat.le_refl _⟩,⟨by (with_reducible repeat (first | refine blk_drewN ?_ _ | refine blk_drew ?_ | refine blk_alloc ?_ _));exact BK101.out⟩,⟨by repeat (first | (with_reducible first | exact HB.out | apply below_alloc | apply pw_below_drewN | apply below_drew1 | refine below_set ?_ GE101.out) | exact HB.out)⟩⟩
  ·replace c7 := Bool.eq_false_iff.mpr c7
   subst c7
   have H1 : (impl_DesirabilityOf.j0 k a1 a2 true a0_0 a0_1) = some r := by rw [if_neg (show ¬ (false = true) by decide)] at H;exact H
   clear H
   have H := H1
   clear H1
   have H' := aZ_ H
   clear H
   have hcz21_0 : w5.cell? ⟨gb101,0,none⟩ = some (.int .i64 a0_0) := (blk_cell BK101.out 0).trans rfl
   have hcz21_1 : w5.cell? ⟨gb101,1,none⟩ = some (.int .i64 a0_1) := (blk_cell BK101.out 1).trans rfl
   have hfz21_0 := blk_frozen BK101.out 0
   have hfz21_1 := blk_frozen BK101.out 1
   go_wp2_with (first | ((with_reducible refine gate_callee (f := 10) rfl ?_);refine goesL_ (some 13) rfl rfl Try.func10 T12_ rfl #[.agg #[.int .i64 a0_0,.int .i64 a0_1]] rfl T4_ ?_;(with_reducible refine (impl_IsSimpleGame.calls k a0_0 a0_1 false _ A6.out).mono ?_);rintro e w22 ⟨rfl,hb⟩;refine ⟨_,rfl,?_⟩;have n0_ := aZ_ (blk_below (g := gb101) (o := .cells #[.int .i64 a0_0,.int .i64 a0_1] 25 (0,0)) T2_ hb);have n1_ := aZ_ (below_step T1_ hb);clear BK101;clear HB;have BK101 := n0_;have HB := n1_;clear n0_ n1_;(try clear hb);(try clear hb2);(try clear hk);(try clear hi)))
   go_meet
   case rel => exact ⟨_,(true),T6_,H',⟨by first | omega | exact Nat.le_refl _⟩,⟨by (with_reducible repeat (first | refine blk_drewN ?_ _ | refine blk_drew ?_ | refine blk_alloc ?_ _));exact BK101.out⟩,⟨by repeat (first | (with_reducible first | exact HB.out | apply below_alloc | apply pw_below_drewN | apply below_drew1 | refine below_set ?_ GE101.out) | exact HB.out)⟩⟩
 case rest =>
  clear HC4
  try clear c1
  try clear c2
  try clear p2
  try clear c7
  try clear c9
  try clear c10
  try clear c22
  try clear hcz11_0
  try clear hcz11_1
  try clear hcz13_0
  try clear hcz13_1
  try clear hcz15_0
  try clear hcz15_1
  try clear hcz17_0
  try clear hcz17_1
  try clear hcz19_0
  try clear hcz19_1
  try clear hcz21_0
  try clear hcz21_1
  try clear hfz11_0
  try clear hfz11_1
  try clear hfz13_0
  try clear hfz13_1
  try clear hfz15_0
  try clear hfz15_1
  try clear hfz17_0
  try clear hfz17_1
  try clear hfz19_0
  try clear hfz19_1
  try clear hfz21_0
  try clear hfz21_1
  obtain ⟨kq,x26_3,rfl,HA,HJ3,BK101,HB⟩ := hcut
  cases kq with
  | zero => exact absurd HA.out (by simp [impl_DesirabilityOf.j0])
  | succ kj3 =>
   have H := HA.out
   clear HA
   simp only [impl_DesirabilityOf.j0] at H
   by_cases c23 : x26_3 = true
   ·subst c23
    have H1 : (some (-2)) = some r := by rw [if_pos rfl] at H;exact H
    clear H
    have H := H1
    clear H1
    obtain rfl := Option.some.inj H
    go_wp2
    go_ret
    exact ⟨by first | rfl | (simp [errW_none,errW_some] <;> rfl) | (simp [*,errW_none,errW_some] <;> rfl),by repeat (first | (with_reducible first | exact HB.out | apply below_alloc | apply pw_below_drewN | apply below_drew1 | refine below_set ?_ GE101.out) | exact HB.out)⟩
   ·replace c23 := Bool.eq_false_iff.mpr c23
    subst c23
    have H1 : ((impl_Table_size.f a0_0 a0_1).bind fun t105 => (impl_DesirabilityOf.l0 kj3 a1 a2 false false t105 0 a0_0 a0_1)) = some r := by rw [if_neg (show ¬ (false = true) by decide)] at H;exact H
    clear H
    have H := H1
    clear H1
    replace H := Option.bind_eq_some_iff.mp H
    obtain ⟨t105,A240,H⟩ := H
    replace H : (impl_DesirabilityOf.l0 kj3 a1 a2 false false t105 0 a0_0 a0_1) = some r := H
    have A24 := aZ_ A240
    clear A240
    have H' := aZ_ H
    clear H
    have hcz25_0 : wc.cell? ⟨gb101,0,none⟩ = some (.int .i64 a0_0) := (blk_cell BK101.out 0).trans rfl
    have hcz25_1 : wc.cell? ⟨gb101,1,none⟩ = some (.int .i64 a0_1) := (blk_cell BK101.out 1).trans rfl
    have hfz25_0 := blk_frozen BK101.out 0
    have hfz25_1 := blk_frozen BK101.out 1
    go_wp2_with (first | ((with_reducible refine gate_callee (f := 37) rfl ?_);refine goesL_ (some 28) rfl rfl Try.func37 T12_ rfl #[.agg #[.int .i64 a0_0,.int .i64 a0_1]] rfl T4_ ?_;(with_reducible refine (impl_Table_size.calls a0_0 a0_1 t105 _ A24.out).mono ?_);rintro e w26 ⟨rfl,hb⟩;refine ⟨_,rfl,?_⟩;have n0_ := aZ_ (blk_below (g := gb101) (o := .cells #[.int .i64 a0_0,.int .i64 a0_1] 25 (0,0)) T2_ hb);have n1_ := aZ_ (below_step T1_ hb);clear BK101;clear HB;have BK101 := n0_;have HB := n1_;clear n0_ n1_;(try clear hb);(try clear hb2);(try clear hk);(try clear hi)))
    go_loopg [7,8,29] kj3 (fun kq v7 v8 v29 w' => ∃ (x7_2 : Bool) (x8_2 : Bool) (x29_2 : Int),v7 = .bool x7_2 ∧ v8 = .bool x8_2 ∧ v29 = .int .i64 x29_2 ∧ Aside0 (impl_DesirabilityOf.l0 kq a1 a2 x7_2 x8_2 t105 x29_2 a0_0 a0_1 = some r) ∧ Aside0 (kq ≤ kj3) ∧ Aside0 (w'.heap[gb101]? = some (.cells #[.int .i64 a0_0,.int .i64 a0_1] 25 (0,0))) ∧ Aside0 (Below w.heap.size w w'))
    case atStart => exact ⟨(false),(false),(0),T6_,T6_,T6_,H',⟨Nat.le_refl _⟩,⟨by (with_reducible repeat (first | refine blk_drewN ?_ _ | refine blk_drew ?_ | refine blk_alloc ?_ _));exact BK101.out⟩,⟨by repeat (first | (with_reducible first | exact HB.out | apply below_alloc | apply pw_below_drewN | apply below_drew1 | refine below_set ?_ GE101.out) | exact HB.out)⟩⟩
    case round =>
     clear H'
     try clear c1
     try clear c2
     try clear p2
     try clear c3
     try clear c7
     try clear c9
     try clear c10
     try clear c22
     try clear c23
     try clear hcz11_0
     try clear hcz11_1
     try clear hcz13_0
     try clear hcz13_1
     try clear hcz15_0
     try clear hcz15_1
     try clear hcz17_0
     try clear hcz17_1
     try clear hcz19_0
     try clear hcz19_1
     try clear hcz21_0
     try clear hcz21_1
     try clear hcz25_0
     try clear hcz25_1
     try clear hfz11_0
     try clear hfz11_1
     try clear hfz13_0
     try clear hfz13_1
     try clear hfz15_0
     try clear hfz15_1
     try clear hfz17_0
     try clear hfz17_1
     try clear hfz19_0
     try clear hfz19_1
     try clear hfz21_0
     try clear hfz21_1
     try clear hfz25_0
     try clear hfz25_1
     try clear p2
     obtain ⟨x7_2,x8_2,x29_2,rfl,rfl,rfl,HA,HK2,BK101,HB⟩ := hrel
     cases gk with
     | zero => exact absurd HA.out (by simp [impl_DesirabilityOf.l0])
     | succ k2 =>
      have H := HA.out
      clear HA
      simp only [impl_DesirabilityOf.l0] at H
      by_cases c27 : x29_2 < t105
      ·rw [if_pos c27] at H
       have c27b0 : decide (x29_2 < t105) = true := decide_eq_true c27
       clear c27
       have HC28 := aZ_ H
       clear H
       go_upto_region 7 with (fail)
       go_cut [43] (fun v43 wc => ∃ (kq : Nat) (x43_27 : Bool),v43 = .bool x43_27 ∧ Aside0 (impl_DesirabilityOf.j2 kq a1 a2 x7_2 x8_2 x29_2 t105 x29_2 x43_27 a0_0 a0_1 = some r) ∧ Aside0 (kq ≤ k2) ∧ Aside0 (wc.heap[gb101]? = some (.cells #[.int .i64 a0_0,.int .i64 a0_1] 25 (0,0))) ∧ Aside0 (Below w.heap.size w wc))
       case first =>
        have H := HC28.out
        clear HC28
        by_cases c29 : 0 ≤ a1
        ·rw [if_pos c29] at H
         have c29b0 := eq_true c29
         have c29b1 : decide (0 ≤ a1) = true := decide_eq_true c29
         clear c29
         obtain ⟨ji30,hji30⟩ : ∃ j_ : Int,(shr .i64 x29_2 a1) = j_ := ⟨_,rfl⟩
         replace H : (if (Go.bits .and .i64 (ji30) 1) = 0 then (if 0 ≤ a2 then (impl_DesirabilityOf.j2 k2 a1 a2 x7_2 x8_2 x29_2 t105 x29_2 ((Go.bits .and .i64 (shr .i64 x29_2 a2) 1) == 0) a0_0 a0_1) else (none)) else (impl_DesirabilityOf.j2 k2 a1 a2 x7_2 x8_2 x29_2 t105 x29_2 false a0_0 a0_1)) = some r := by first | (rw [hji30] at H;exact H) | (simp only [hji30] at H ⊢;exact H)
         have hji30_ : (x29_2 / 2 ^ min a1.toNat 64) = ji30 := hji30
         have hji30z : a1 ≤ 64 → (x29_2 / 2 ^ a1.toNat) = ji30 := shr_small hji30
         by_cases c31 : (Go.bits .and .i64 (ji30) 1) = 0
         ·rw [if_pos c31] at H
          have c31b0 : ((Go.bits .and .i64 (ji30) 1) == 0) = true := beq_iff_eq.mpr c31
          have c31b1 : ((Go.bits .and .i64 (ji30) 1) != 0) = false := bne_eq_false_iff_eq.mpr c31
          clear c31
          (first | rw [c31b0] | (simp only [i64_w,i32_w];rw [c31b0]) | skip)
          by_cases c32 : 0 ≤ a2
          ·rw [if_pos c32] at H
           have c32b0 := eq_true c32
           have c32b1 : decide (0 ≤ a2) = true := decide_eq_true c32
           clear c32
           obtain ⟨ji33,hji33⟩ : ∃ j_ : Int,(shr .i64 x29_2 a2) = j_ := ⟨_,rfl⟩
           replace H : (impl_DesirabilityOf.j2 k2 a1 a2 x7_2 x8_2 x29_2 t105 x29_2 ((Go.bits .and .i64 (ji33) 1) == 0) a0_0 a0_1) = some r := by first | (rw [hji33] at H;exact H) | (simp only [hji33] at H ⊢;exact H)
           have hji33_ : (x29_2 / 2 ^ min a2.toNat 64) = ji33 := hji33
           have hji33z : a2 ≤ 64 → (x29_2 / 2 ^ a2.toNat) = ji33 := shr_small hji33
           have H' := aZ_ H
           clear H
           go_wp2
           go_meet
           case rel => exact ⟨_,(((Go.bits .and .i64 (ji33) 1) == 0)),(by first | rfl | (simp;done) | (simp only [← hji33] <;> (first | rfl | simp)) | (simp [*];done)),H',⟨by have := HJ3.out;have := HK2.out;first | omega | exact Nat.le_refl _⟩,⟨by (with_reducible repeat (first | refine blk_drewN ?_ _ | refine blk_drew ?_ | refine blk_alloc ?_ _));exact BK101.out⟩,⟨by repeat (first | (with_reducible first | exact HB.out | apply below_alloc | apply pw_below_drewN | apply below_drew1 | refine below_set ?_ GE101.out) | exact HB.out)⟩⟩
          ·rw [if_neg c32] at H
           exact absurd H T40_
         ·rw [if_neg c31] at H
          have c31b0 : ((Go.bits .and .i64 (ji30) 1) == 0) = false := beq_eq_false_iff_ne.mpr c31
          have c31b1 : ((Go.bits .and .i64 (ji30) 1) != 0) = true := bne_iff_ne.mpr c31
          (first | rw [c31b0] | (simp only [i64_w,i32_w];rw [c31b0]) | skip)
          have H' := aZ_ H
          clear H
          go_wp2
          go_meet
          case rel => exact ⟨_,(false),T6_,H',⟨by have := HJ3.out;have := HK2.out;first | omega | exact Nat.le_refl _⟩,⟨by (with_reducible repeat (first | refine blk_drewN ?_ _ | refine blk_drew ?_ | refine blk_alloc ?_ _));exact BK101.out⟩,⟨by repeat (first | (with_reducible first | exact HB.out | apply below_alloc | apply pw_below_drewN | apply below_drew1 | refine below_set ?_ GE101.out) | exact HB.out)⟩⟩
        ·rw [if_neg c29] at H
         exact absurd H T40_
       case rest =>
        clear HC28
        try clear c1
        try clear c2
        try clear p2
        try clear c3
        try clear c7
        try clear c9
        try clear c10
        try clear c22
        try clear c23
        try clear c27
        try clear c27b0
        try clear c29
        try clear c29b0
        try clear c29b1
        try clear c31
        try clear c31b0
        try clear c31b1
        try clear c32
        try clear c32b0
        try clear c32b1
        try clear hcz11_0
        try clear hcz11_1
        try clear hcz13_0
        try clear hcz13_1
        try clear hcz15_0
        try clear hcz15_1
        try clear hcz17_0
        try clear hcz17_1
        try clear hcz19_0
        try clear hcz19_1
        try clear hcz21_0
        try clear hcz21_1
        try clear hcz25_0
        try clear hcz25_1
        try clear hfz11_0
        try clear hfz11_1
        try clear hfz13_0
        try clear hfz13_1
        try clear hfz15_0
        try clear hfz15_1
        try clear hfz17_0
        try clear hfz17_1
        try clear hfz19_0
        try clear hfz19_1
        try clear hfz21_0
        try clear hfz21_1
        try clear hfz25_0
        try clear hfz25_1
        try clear p2
        obtain ⟨kq,x43_27,rfl,HA,HJ27,BK101,HB⟩ := hcut
        cases kq with
        | zero => exact absurd HA.out (by simp [impl_DesirabilityOf.j2])
        | succ kj27 =>
         have H := HA.out
         clear HA
         simp only [impl_DesirabilityOf.j2] at H
         by_cases c34 : x43_27 = true
         ·subst c34
          have H1 : (if 0 ≤ a1 then ((impl_Table_at.f a0_0 a0_1 (Go.bits .or .i64 x29_2 (shl .i64 1 a1))).bind fun t106 => (if 0 ≤ a2 then ((impl_Table_at.f a0_0 a0_1 (Go.bits .or .i64 x29_2 (shl .i64 1 a2))).bind fun t107 => (if x7_2 = true then (if x8_2 = true then (impl_DesirabilityOf.l0 kj27 a1 a2 true true t105 (wrap64 (x29_2 + 1)) a0_0 a0_1) else (impl_DesirabilityOf.l0 kj27 a1 a2 true (decide (t107 > t106)) t105 (wrap64 (x29_2 + 1)) a0_0 a0_1)) else (if x8_2 = true then (impl_DesirabilityOf.l0 kj27 a1 a2 (decide (t106 > t107)) true t105 (wrap64 (x29_2 + 1)) a0_0 a0_1) else (impl_DesirabilityOf.l0 kj27 a1 a2 (decide (t106 > t107)) (decide (t107 > t106)) t105 (wrap64 (x29_2 + 1)) a0_0 a0_1)))) else (none))) else (none)) = some r := by rw [if_pos rfl] at H;exact H
          clear H
          have H := H1
          clear H1
          by_cases c35 : 0 ≤ a1
          ·rw [if_pos c35] at H
           have c35b0 := eq_true c35
           have c35b1 : decide (0 ≤ a1) = true := decide_eq_true c35
           clear c35
           obtain ⟨ji36,hji36⟩ : ∃ j_ : Int,(shl .i64 1 a1) = j_ := ⟨_,rfl⟩
           replace H : ((impl_Table_at.f a0_0 a0_1 (Go.bits .or .i64 x29_2 (ji36))).bind fun t106 => (if 0 ≤ a2 then ((impl_Table_at.f a0_0 a0_1 (Go.bits .or .i64 x29_2 (shl .i64 1 a2))).bind fun t107 => (if x7_2 = true then (if x8_2 = true then (impl_DesirabilityOf.l0 kj27 a1 a2 true true t105 (wrap64 (x29_2 + 1)) a0_0 a0_1) else (impl_DesirabilityOf.l0 kj27 a1 a2 true (decide (t107 > t106)) t105 (wrap64 (x29_2 + 1)) a0_0 a0_1)) else (if x8_2 = true then (impl_DesirabilityOf.l0 kj27 a1 a2 (decide (t106 > t107)) true t105 (wrap64 (x29_2 + 1)) a0_0 a0_1) else (impl_DesirabilityOf.l0 kj27 a1 a2 (decide (t106 > t107)) (decide (t107 > t106)) t105 (wrap64 (x29_2 + 1)) a0_0 a0_1)))) else (none))) = some r := by first | (rw [hji36] at H;exact H) | (simp only [hji36] at H ⊢;exact H)
           have hji36_ : (IntKind.i64.wrap (1 * 2 ^ min a1.toNat 64)) = ji36 := hji36
           have hji36z : a1 ≤ 64 → (IntKind.i64.wrap (1 * 2 ^ a1.toNat)) = ji36 := shl_small hji36
           have hji36u : (IntKind.i64.wrap (2 ^ min a1.toNat 64)) = ji36 := by have h_ := hji36_;rw [Int.one_mul] at h_;exact h_
           have hji36v : a1 ≤ 64 → (IntKind.i64.wrap (2 ^ a1.toNat)) = ji36 := fun hle_ => by have h_ := hji36z hle_;rw [Int.one_mul] at h_;exact h_
           have hji36y : (wrap64 (1 * 2 ^ min a1.toNat 64)) = ji36 := (i64_w _).symm.trans hji36_
           have hji36x : a1 ≤ 64 → (wrap64 (1 * 2 ^ a1.toNat)) = ji36 := fun h_ => (i64_w _).symm.trans (hji36z h_)
           replace H := Option.bind_eq_some_iff.mp H
           obtain ⟨t106,A370,H⟩ := H
           replace H : (if 0 ≤ a2 then ((impl_Table_at.f a0_0 a0_1 (Go.bits .or .i64 x29_2 (shl .i64 1 a2))).bind fun t107 => (if x7_2 = true then (if x8_2 = true then (impl_DesirabilityOf.l0 kj27 a1 a2 true true t105 (wrap64 (x29_2 + 1)) a0_0 a0_1) else (impl_DesirabilityOf.l0 kj27 a1 a2 true (decide (t107 > t106)) t105 (wrap64 (x29_2 + 1)) a0_0 a0_1)) else (if x8_2 = true then (impl_DesirabilityOf.l0 kj27 a1 a2 (decide (t106 > t107)) true t105 (wrap64 (x29_2 + 1)) a0_0 a0_1) else (impl_DesirabilityOf.l0 kj27 a1 a2 (decide (t106 > t107)) (decide (t107 > t106)) t105 (wrap64 (x29_2 + 1)) a0_0 a0_1)))) else (none)) = some r := H
           have A37 := aZ_ A370
           clear A370
           by_cases c38 : 0 ≤ a2
           ·rw [if_pos c38] at H
            have c38b0 := eq_true c38
            have c38b1 : decide (0 ≤ a2) = true := decide_eq_true c38
            clear c38
            obtain ⟨ji39,hji39⟩ : ∃ j_ : Int,(shl .i64 1 a2) = j_ := ⟨_,rfl⟩
            replace H : ((impl_Table_at.f a0_0 a0_1 (Go.bits .or .i64 x29_2 (ji39))).bind fun t107 => (if x7_2 = true then (if x8_2 = true then (impl_DesirabilityOf.l0 kj27 a1 a2 true true t105 (wrap64 (x29_2 + 1)) a0_0 a0_1) else (impl_DesirabilityOf.l0 kj27 a1 a2 true (decide (t107 > t106)) t105 (wrap64 (x29_2 + 1)) a0_0 a0_1)) else (if x8_2 = true then (impl_DesirabilityOf.l0 kj27 a1 a2 (decide (t106 > t107)) true t105 (wrap64 (x29_2 + 1)) a0_0 a0_1) else (impl_DesirabilityOf.l0 kj27 a1 a2 (decide (t106 > t107)) (decide (t107 > t106)) t105 (wrap64 (x29_2 + 1)) a0_0 a0_1)))) = some r := by first | (rw [hji39] at H;exact H) | (simp only [hji39] at H ⊢;exact H)
            (try rw [hji39] at A37)
            have hji39_ : (IntKind.i64.wrap (1 * 2 ^ min a2.toNat 64)) = ji39 := hji39
            have hji39z : a2 ≤ 64 → (IntKind.i64.wrap (1 * 2 ^ a2.toNat)) = ji39 := shl_small hji39
            have hji39u : (IntKind.i64.wrap (2 ^ min a2.toNat 64)) = ji39 := by have h_ := hji39_;rw [Int.one_mul] at h_;exact h_
            have hji39v : a2 ≤ 64 → (IntKind.i64.wrap (2 ^ a2.toNat)) = ji39 := fun hle_ => by have h_ := hji39z hle_;rw [Int.one_mul] at h_;exact h_
            have hji39y : (wrap64 (1 * 2 ^ min a2.toNat 64)) = ji39 := (i64_w _).symm.trans hji39_
            have hji39x : a2 ≤ 64 → (wrap64 (1 * 2 ^ a2.toNat)) = ji39 := fun h_ => (i64_w _).symm.trans (hji39z h_)
            replace H := Option.bind_eq_some_iff.mp H
            obtain ⟨t107,A400,H⟩ := H
            replace H : (if x7_2 = true then (if x8_2 = true then (impl_DesirabilityOf.l0 kj27 a1 a2 true true t105 (wrap64 (x29_2 + 1)) a0_0 a0_1) else (impl_DesirabilityOf.l0 kj27 a1 a2 true (decide (t107 > t106)) t105 (wrap64 (x29_2 + 1)) a0_0 a0_1)) else (if x8_2 = true then (impl_DesirabilityOf.l0 kj27 a1 a2 (decide (t106 > t107)) true t105 (wrap64 (x29_2 + 1)) a0_0 a0_1) else (impl_DesirabilityOf.l0 kj27 a1 a2 (decide (t106 > t107)) (decide (t107 > t106)) t105 (wrap64 (x29_2 + 1)) a0_0 a0_1))) = some r := H
            have A40 := aZ_ A400
            clear A400
            by_cases c41 : x7_2 = true
            ·subst c41
             have H1 : (if x8_2 = true then (impl_DesirabilityOf.l0 kj27 a1 a2 true true t105 (wrap64 (x29_2 + 1)) a0_0 a0_1) else (impl_DesirabilityOf.l0 kj27 a1 a2 true (decide (t107 > t106)) t105 (wrap64 (x29_2 + 1)) a0_0 a0_1)) = some r := by rw [if_pos rfl] at H;exact H
             clear H
             have H := H1
             clear H1
             by_cases c42 : x8_2 = true
             ·subst c42
              have H1 : (impl_DesirabilityOf.l0 kj27 a1 a2 true true t105 (wrap64 (x29_2 + 1)) a0_0 a0_1) = some r := by rw [if_pos rfl] at H;exact H
              clear H
              have H := H1
              clear H1
              have H' := aZ_ H
              clear H
              try go_wp2
              have n0_ := aZ_ (blk_drew BK101.out)
              have n1_ := aZ_ (below_drew1 HB.out)
              clear BK101
              clear HB
              have BK101 := n0_
              have HB := n1_
              clear n0_ n1_
              refine start_ (n := 14) (S := fun w' => w'.cell? ⟨gb101,0,none⟩ = some (.int .i64 a0_0) ∧ w'.cell? ⟨gb101,1,none⟩ = some (.int .i64 a0_1)) (ds := []) #[false,false,false,false,false,false,false,false,false,false,false,false,false,false] T12_ rfl rfl ⟨(blk_cell BK101.out 0).trans rfl,(blk_cell BK101.out 1).trans rfl⟩ (fun hHeld => ?_);refine with_tabW impl_DesirabilityOf.tab8 impl_DesirabilityOf.bits8 (fun HT_ HW_ => ?_)
              generalize wc.drew = w43 at BK101 HB hHeld ⊢
              refine pZ_ 1 (some 45) #[false,true,false,false,false,false,false,false,false,false,false,false,false,false] ?_
              refine pZ_ 2 (some 46) #[false,true,true,false,false,false,false,false,false,false,false,false,false,false] ?_
              refine pZ_ 3 (some 47) #[false,true,true,true,false,false,false,false,false,false,false,false,false,false] ?_
              refine pZ_ 4 (some 48) #[false,true,true,true,true,false,false,false,false,false,false,false,false,false] ?_
              refine pZ_ 7 (some 51) #[false,true,true,true,true,false,false,true,false,false,false,false,false,false] ?_
              refine pZ_ 8 (some 52) #[false,true,true,true,true,false,false,true,true,false,false,false,false,false] ?_
              refine pZ_ 9 (some 53) #[false,true,true,true,true,false,false,true,true,true,false,false,false,false] ?_
              refine pZ_ 10 (some 54) #[false,true,true,true,true,false,false,true,true,true,true,false,false,false] ?_
              refine tZ2_ 0 (some 44) #[true,true,true,true,true,false,false,true,true,true,true,false,false,false] hHeld ?_
              refine tZ2_ 6 (some 50) #[true,true,true,true,true,false,true,true,true,true,true,false,false,false] hHeld ?_
              refine one_ (i := 5) (N := some 49) #[true,true,true,true,true,true,true,true,true,true,true,false,false,false] rfl rfl (one_of HT_.out T12_) T35_ (fun K hK => ?_)
              refine goes_ Try.func36 T12_ rfl #[.agg #[.int .i64 a0_0,.int .i64 a0_1],.int .i64 (Go.bits .or .i64 x29_2 (ji36))] (by rfl) rfl rfl T37_ ?_
              with_reducible refine (impl_Table_at.calls a0_0 a0_1 (Go.bits .or .i64 x29_2 (ji36)) t106 _ A37.out).mono ?_
              rintro e w44 ⟨rfl,hb⟩
              refine ⟨_,rfl,?_⟩
              have n0_ := aZ_ (blk_below (g := gb101) (o := .cells #[.int .i64 a0_0,.int .i64 a0_1] 25 (0,0)) T2_ hb)
              have n1_ := aZ_ (below_step T1_ hb)
              clear BK101
              clear HB
              have BK101 := n0_
              have HB := n1_
              clear n0_ n1_
              (try clear hb)
              (try clear hb2)
              (try clear hk)
              (try clear hi)
              refine hK.out _ _ ⟨(blk_cell BK101.out 0).trans rfl,(blk_cell BK101.out 1).trans rfl⟩ (fun hHeld => ?_)
              clear hK K
              refine norm_ (a' := ?_) ?_ ?_
              rotate_left
              ·show Act.put _ (some 49) _ = _
               simp only [Act.put,List.setIfInBounds_toArray,List.set_cons_zero,List.set_cons_succ,i64_w,i32_w]
               rfl
              refine one_ (i := 11) (N := some 55) #[true,true,true,true,true,true,true,true,true,true,true,true,false,false] rfl rfl (one_of HT_.out T12_) T35_ (fun K hK => ?_)
              refine goes_ Try.func36 T12_ rfl #[.agg #[.int .i64 a0_0,.int .i64 a0_1],.int .i64 (Go.bits .or .i64 x29_2 (ji39))] (by rfl) rfl rfl T38_ ?_
              with_reducible refine (impl_Table_at.calls a0_0 a0_1 (Go.bits .or .i64 x29_2 (ji39)) t107 _ A40.out).mono ?_
              rintro e w45 ⟨rfl,hb⟩
              refine ⟨_,rfl,?_⟩
              have n0_ := aZ_ (blk_below (g := gb101) (o := .cells #[.int .i64 a0_0,.int .i64 a0_1] 25 (0,0)) T2_ hb)
              have n1_ := aZ_ (below_step T1_ hb)
              clear BK101
              clear HB
              have BK101 := n0_
              have HB := n1_
              clear n0_ n1_
              (try clear hb)
              (try clear hb2)
              (try clear hk)
              (try clear hi)
              refine hK.out _ _ ⟨(blk_cell BK101.out 0).trans rfl,(blk_cell BK101.out 1).trans rfl⟩ (fun hHeld => ?_)
              clear hK K
              refine norm_ (a' := ?_) ?_ ?_
              rotate_left
              ·show Act.put _ (some 55) _ = _
               simp only [Act.put,List.setIfInBounds_toArray,List.set_cons_zero,List.set_cons_succ,i64_w,i32_w]
               rfl
              refine pZ_ 12 (some 10) #[true,true,true,true,true,true,true,true,true,true,true,true,true,false] ?_
              refine pZ_ 13 (some 11) #[true,true,true,true,true,true,true,true,true,true,true,true,true,true] ?_
              refine done_ (done_of HT_.out T12_) ?_
              try go_wp2
              go_roundg kj27
              case measure => have := HJ3.out;have := HK2.out;have := HJ27.out;omega
              case rel => exact ⟨(true),(true),(wrap64 (x29_2 + 1)),T6_,T6_,T6_,H',⟨by have := HJ3.out;have := HK2.out;have := HJ27.out;omega⟩,⟨by (with_reducible repeat (first | refine blk_drewN ?_ _ | refine blk_drew ?_ | refine blk_alloc ?_ _));exact BK101.out⟩,⟨by repeat (first | (with_reducible first | exact HB.out | apply below_alloc | apply pw_below_drewN | apply below_drew1 | refine below_set ?_ GE101.out) | exact HB.out)⟩⟩
             ·replace c42 := Bool.eq_false_iff.mpr c42
              subst c42
              have H1 : (impl_DesirabilityOf.l0 kj27 a1 a2 true (decide (t107 > t106)) t105 (wrap64 (x29_2 + 1)) a0_0 a0_1) = some r := by rw [if_neg (show ¬ (false = true) by decide)] at H;exact H
              clear H
              have H := H1
              clear H1
              have H' := aZ_ H
              clear H
              try go_wp2
              have n0_ := aZ_ (blk_drew BK101.out)
              have n1_ := aZ_ (below_drew1 HB.out)
              clear BK101
              clear HB
              have BK101 := n0_
              have HB := n1_
              clear n0_ n1_
              refine start_ (n := 14) (S := fun w' => w'.cell? ⟨gb101,0,none⟩ = some (.int .i64 a0_0) ∧ w'.cell? ⟨gb101,1,none⟩ = some (.int .i64 a0_1)) (ds := []) #[false,false,false,false,false,false,false,false,false,false,false,false,false,false] T12_ rfl rfl ⟨(blk_cell BK101.out 0).trans rfl,(blk_cell BK101.out 1).trans rfl⟩ (fun hHeld => ?_);refine with_tabW impl_DesirabilityOf.tab8 impl_DesirabilityOf.bits8 (fun HT_ HW_ => ?_)
              generalize wc.drew = w46 at BK101 HB hHeld ⊢
              refine pZ_ 1 (some 45) #[false,true,false,false,false,false,false,false,false,false,false,false,false,false] ?_
              refine pZ_ 2 (some 46) #[false,true,true,false,false,false,false,false,false,false,false,false,false,false] ?_
              refine pZ_ 3 (some 47) #[false,true,true,true,false,false,false,false,false,false,false,false,false,false] ?_
              refine pZ_ 4 (some 48) #[false,true,true,true,true,false,false,false,false,false,false,false,false,false] ?_
              refine pZ_ 7 (some 51) #[false,true,true,true,true,false,false,true,false,false,false,false,false,false] ?_
              refine pZ_ 8 (some 52) #[false,true,true,true,true,false,false,true,true,false,false,false,false,false] ?_
              refine pZ_ 9 (some 53) #[false,true,true,true,true,false,false,true,true,true,false,false,false,false] ?_
              refine pZ_ 10 (some 54) #[false,true,true,true,true,false,false,true,true,true,true,false,false,false] ?_
              refine tZ2_ 0 (some 44) #[true,true,true,true,true,false,false,true,true,true,true,false,false,false] hHeld ?_
              refine tZ2_ 6 (some 50) #[true,true,true,true,true,false,true,true,true,true,true,false,false,false] hHeld ?_
              refine one_ (i := 5) (N := some 49) #[true,true,true,true,true,true,true,true,true,true,true,false,false,false] rfl rfl (one_of HT_.out T12_) T35_ (fun K hK => ?_)
              refine goes_ Try.func36 T12_ rfl #[.agg #[.int .i64 a0_0,.int .i64 a0_1],.int .i64 (Go.bits .or .i64 x29_2 (ji36))] (by rfl) rfl rfl T37_ ?_
              with_reducible refine (impl_Table_at.calls a0_0 a0_1 (Go.bits .or .i64 x29_2 (ji36)) t106 _ A37.out).mono ?_
              rintro e w47 ⟨rfl,hb⟩
              refine ⟨_,rfl,?_⟩
              have n0_ := aZ_ (blk_below (g := gb101) (o := .cells #[.int .i64 a0_0,.int .i64 a0_1] 25 (0,0)) T2_ hb)
              have n1_ := aZ_ (below_step T1_ hb)
              clear BK101
              clear HB
              have BK101 := n0_
              have HB := n1_
              clear n0_ n1_
              (try clear hb)
              (try clear hb2)
              (try clear hk)
              (try clear hi)
              refine hK.out _ _ ⟨(blk_cell BK101.out 0).trans rfl,(blk_cell BK101.out 1).trans rfl⟩ (fun hHeld => ?_)
              clear hK K
              refine norm_ (a' := ?_) ?_ ?_
              rotate_left
              ·show Act.put _ (some 49) _ = _
               simp only [Act.put,List.setIfInBounds_toArray,List.set_cons_zero,List.set_cons_succ,i64_w,i32_w]
               rfl
              refine one_ (i := 11) (N := some 55) #[true,true,true,true,true,true,true,true,true,true,true,true,false,false] rfl rfl (one_of HT_.out T12_) T35_ (fun K hK => ?_)
              refine goes_ Try.func36 T12_ rfl #[.agg #[.int .i64 a0_0,.int .i64 a0_1],.int .i64 (Go.bits .or .i64 x29_2 (ji39))] (by rfl) rfl rfl T38_ ?_
              with_reducible refine (impl_Table_at.calls a0_0 a0_1 (Go.bits .or .i64 x29_2 (ji39)) t107 _ A40.out).mono ?_
              rintro e w48 ⟨rfl,hb⟩
              refine ⟨_,rfl,?_⟩
              have n0_ := aZ_ (blk_below (g := gb101) (o := .cells #[.int .i64 a0_0,.int .i64 a0_1] 25 (0,0)) T2_ hb)
              have n1_ := aZ_ (below_step T1_ hb)
              clear BK101
              clear HB
              have BK101 := n0_
              have HB := n1_
              clear n0_ n1_
              (try clear hb)
              (try clear hb2)
              (try clear hk)
              (try clear hi)
              refine hK.out _ _ ⟨(blk_cell BK101.out 0).trans rfl,(blk_cell BK101.out 1).trans rfl⟩ (fun hHeld => ?_)
              clear hK K
              refine norm_ (a' := ?_) ?_ ?_
              rotate_left
              ·show Act.put _ (some 55) _ = _
               simp only [Act.put,List.setIfInBounds_toArray,List.set_cons_zero,List.set_cons_succ,i64_w,i32_w]
               rfl
              refine pZ_ 12 (some 10) #[true,true,true,true,true,true,true,true,true,true,true,true,true,false] ?_
              refine pZ_ 13 (some 11) #[true,true,true,true,true,true,true,true,true,true,true,true,true,true] ?_
              refine done_ (done_of HT_.out T12_) ?_
              try go_wp2
              go_roundg kj27
              case measure => have := HJ3.out;have := HK2.out;have := HJ27.out;omega
              case rel => exact ⟨(true),(decide (t107 > t106)),(wrap64 (x29_2 + 1)),T6_,T6_,T6_,H',⟨by have := HJ3.out;have := HK2.out;have := HJ27.out;omega⟩,⟨by (with_reducible repeat (first | refine blk_drewN ?_ _ | refine blk_drew ?_ | refine blk_alloc ?_ _));exact BK101.out⟩,⟨by repeat (first | (with_reducible first | exact HB.out | apply below_alloc | apply pw_below_drewN | apply below_drew1 | refine below_set ?_ GE101.out) | exact HB.out)⟩⟩
            ·replace c41 := Bool.eq_false_iff.mpr c41
             subst c41
             have H1 : (if x8_2 = true then (impl_DesirabilityOf.l0 kj27 a1 a2 (decide (t106 > t107)) true t105 (wrap64 (x29_2 + 1)) a0_0 a0_1) else (impl_DesirabilityOf.l0 kj27 a1 a2 (decide (t106 > t107)) (decide (t107 > t106)) t105 (wrap64 (x29_2 + 1)) a0_0 a0_1)) = some r := by rw [if_neg (show ¬ (false = true) by decide)] at H;exact H
             clear H
             have H := H1
             clear H1
             by_cases c49 : x8_2 = true
             ·subst c49
              have H1 : (impl_DesirabilityOf.l0 kj27 a1 a2 (decide (t106 > t107)) true t105 (wrap64 (x29_2 + 1)) a0_0 a0_1) = some r := by rw [if_pos rfl] at H;exact H
              clear H
              have H := H1
              clear H1
              have H' := aZ_ H
              clear H
              try go_wp2
              have n0_ := aZ_ (blk_drew BK101.out)
              have n1_ := aZ_ (below_drew1 HB.out)
              clear BK101
              clear HB
              have BK101 := n0_
              have HB := n1_
              clear n0_ n1_
              refine start_ (n := 14) (S := fun w' => w'.cell? ⟨gb101,0,none⟩ = some (.int .i64 a0_0) ∧ w'.cell? ⟨gb101,1,none⟩ = some (.int .i64 a0_1)) (ds := []) #[false,false,false,false,false,false,false,false,false,false,false,false,false,false] T12_ rfl rfl ⟨(blk_cell BK101.out 0).trans rfl,(blk_cell BK101.out 1).trans rfl⟩ (fun hHeld => ?_);refine with_tabW impl_DesirabilityOf.tab8 impl_DesirabilityOf.bits8 (fun HT_ HW_ => ?_)
              generalize wc.drew = w50 at BK101 HB hHeld ⊢
              refine pZ_ 1 (some 45) #[false,true,false,false,false,false,false,false,false,false,false,false,false,false] ?_
              refine pZ_ 2 (some 46) #[false,true,true,false,false,false,false,false,false,false,false,false,false,false] ?_
              refine pZ_ 3 (some 47) #[false,true,true,true,false,false,false,false,false,false,false,false,false,false] ?_
              refine pZ_ 4 (some 48) #[false,true,true,true,true,false,false,false,false,false,false,false,false,false] ?_
              refine pZ_ 7 (some 51) #[false,true,true,true,true,false,false,true,false,false,false,false,false,false] ?_
              refine pZ_ 8 (some 52) #[false,true,true,true,true,false,false,true,true,false,false,false,false,false] ?_
              refine pZ_ 9 (some 53) #[false,true,true,true,true,false,false,true,true,true,false,false,false,false] ?_
              refine pZ_ 10 (some 54) #[false,true,true,true,true,false,false,true,true,true,true,false,false,false] ?_
              refine tZ2_ 0 (some 44) #[true,true,true,true,true,false,false,true,true,true,true,false,false,false] hHeld ?_
              refine tZ2_ 6 (some 50) #[true,true,true,true,true,false,true,true,true,true,true,false,false,false] hHeld ?_
              refine one_ (i := 5) (N := some 49) #[true,true,true,true,true,true,true,true,true,true,true,false,false,false] rfl rfl (one_of HT_.out T12_) T35_ (fun K hK => ?_)
              refine goes_ Try.func36 T12_ rfl #[.agg #[.int .i64 a0_0,.int .i64 a0_1],.int .i64 (Go.bits .or .i64 x29_2 (ji36))] (by rfl) rfl rfl T37_ ?_
              with_reducible refine (impl_Table_at.calls a0_0 a0_1 (Go.bits .or .i64 x29_2 (ji36)) t106 _ A37.out).mono ?_
              rintro e w51 ⟨rfl,hb⟩
              refine ⟨_,rfl,?_⟩
              have n0_ := aZ_ (blk_below (g := gb101) (o := .cells #[.int .i64 a0_0,.int .i64 a0_1] 25 (0,0)) T2_ hb)
              have n1_ := aZ_ (below_step T1_ hb)
              clear BK101
              clear HB
              have BK101 := n0_
              have HB := n1_
              clear n0_ n1_
              (try clear hb)
              (try clear hb2)
              (try clear hk)
              (try clear hi)
              refine hK.out _ _ ⟨(blk_cell BK101.out 0).trans rfl,(blk_cell BK101.out 1).trans rfl⟩ (fun hHeld => ?_)
              clear hK K
              refine norm_ (a' := ?_) ?_ ?_
              rotate_left
              ·show Act.put _ (some 49) _ = _
               simp only [Act.put,List.setIfInBounds_toArray,List.set_cons_zero,List.set_cons_succ,i64_w,i32_w]
               rfl
              refine one_ (i := 11) (N := some 55) #[true,true,true,true,true,true,true,true,true,true,true,true,false,false] rfl rfl (one_of HT_.out T12_) T35_ (fun K hK => ?_)
              refine goes_ Try.func36 T12_ rfl #[.agg #[.int .i64 a0_0,.int .i64 a0_1],.int .i64 (Go.bits .or .i64 x29_2 (ji39))] (by rfl) rfl rfl T38_ ?_
              with_reducible refine (impl_Table_at.calls a0_0 a0_1 (Go.bits .or .i64 x29_2 (ji39)) t107 _ A40.out).mono ?_
              rintro e w52 ⟨rfl,hb⟩
              refine ⟨_,rfl,?_⟩
              have n0_ := aZ_ (blk_below (g := gb101) (o := .cells #[.int .i64 a0_0,.int .i64 a0_1] 25 (0,0)) T2_ hb)
              have n1_ := aZ_ (below_step T1_ hb)
              clear BK101
              clear HB
              have BK101 := n0_
              have HB := n1_
              clear n0_ n1_
              (try clear hb)
              (try clear hb2)
              (try clear hk)
              (try clear hi)
              refine hK.out _ _ ⟨(blk_cell BK101.out 0).trans rfl,(blk_cell BK101.out 1).trans rfl⟩ (fun hHeld => ?_)
              clear hK K
              refine norm_ (a' := ?_) ?_ ?_
              rotate_left
              ·show Act.put _ (some 55) _ = _
               simp only [Act.put,List.setIfInBounds_toArray,List.set_cons_zero,List.set_cons_succ,i64_w,i32_w]
               rfl
              refine pZ_ 12 (some 10) #[true,true,true,true,true,true,true,true,true,true,true,true,true,false] ?_
              refine pZ_ 13 (some 11) #[true,true,true,true,true,true,true,true,true,true,true,true,true,true] ?_
              refine done_ (done_of HT_.out T12_) ?_
              try go_wp2
              go_roundg kj27
              case measure => have := HJ3.out;have := HK2.out;have := HJ27.out;omega
              case rel => exact ⟨(decide (t106 > t107)),(true),(wrap64 (x29_2 + 1)),T6_,T6_,T6_,H',⟨by have := HJ3.out;have := HK2.out;have := HJ27.out;omega⟩,⟨by (with_reducible repeat (first | refine blk_drewN ?_ _ | refine blk_drew ?_ | refine blk_alloc ?_ _));exact BK101.out⟩,⟨by repeat (first | (with_reducible first | exact HB.out | apply below_alloc | apply pw_below_drewN | apply below_drew1 | refine below_set ?_ GE101.out) | exact HB.out)⟩⟩
             ·replace c49 := Bool.eq_false_iff.mpr c49
              subst c49
              have H1 : (impl_DesirabilityOf.l0 kj27 a1 a2 (decide (t106 > t107)) (decide (t107 > t106)) t105 (wrap64 (x29_2 + 1)) a0_0 a0_1) = some r := by rw [if_neg (show ¬ (false = true) by decide)] at H;exact H
              clear H
              have H := H1
              clear H1
              have H' := aZ_ H
              clear H
              try go_wp2
              have n0_ := aZ_ (blk_drew BK101.out)
              have n1_ := aZ_ (below_drew1 HB.out)
              clear BK101
              clear HB
              have BK101 := n0_
              have HB := n1_
              clear n0_ n1_
              refine start_ (n := 14) (S := fun w' => w'.cell? ⟨gb101,0,none⟩ = some (.int .i64 a0_0) ∧ w'.cell? ⟨gb101,1,none⟩ = some (.int .i64 a0_1)) (ds := []) #[false,false,false,false,false,false,false,false,false,false,false,false,false,false] T12_ rfl rfl ⟨(blk_cell BK101.out 0).trans rfl,(blk_cell BK101.out 1).trans rfl⟩ (fun hHeld => ?_);refine with_tabW impl_DesirabilityOf.tab8 impl_DesirabilityOf.bits8 (fun HT_ HW_ => ?_)
              generalize wc.drew = w53 at BK101 HB hHeld ⊢
              refine pZ_ 1 (some 45) #[false,true,false,false,false,false,false,false,false,false,false,false,false,false] ?_
              refine pZ_ 2 (some 46) #[false,true,true,false,false,false,false,false,false,false,false,false,false,false] ?_
              refine pZ_ 3 (some 47) #[false,true,true,true,false,false,false,false,false,false,false,false,false,false] ?_
              refine pZ_ 4 (some 48) #[false,true,true,true,true,false,false,false,false,false,false,false,false,false] ?_
              refine pZ_ 7 (some 51) #[false,true,true,true,true,false,false,true,false,false,false,false,false,false] ?_
              refine pZ_ 8 (some 52) #[false,true,true,true,true,false,false,true,true,false,false,false,false,false] ?_
              refine pZ_ 9 (some 53) #[false,true,true,true,true,false,false,true,true,true,false,false,false,false] ?_
              refine pZ_ 10 (some 54) #[false,true,true,true,true,false,false,true,true,true,true,false,false,false] ?_
              refine tZ2_ 0 (some 44) #[true,true,true,true,true,false,false,true,true,true,true,false,false,false] hHeld ?_
              refine tZ2_ 6 (some 50) #[true,true,true,true,true,false,true,true,true,true,true,false,false,false] hHeld ?_
              refine one_ (i := 5) (N := some 49) #[true,true,true,true,true,true,true,true,true,true,true,false,false,false] rfl rfl (one_of HT_.out T12_) T35_ (fun K hK => ?_)
              refine goes_ Try.func36 T12_ rfl #[.agg #[.int .i64 a0_0,.int .i64 a0_1],.int .i64 (Go.bits .or .i64 x29_2 (ji36))] (by rfl) rfl rfl T37_ ?_
              with_reducible refine (impl_Table_at.calls a0_0 a0_1 (Go.bits .or .i64 x29_2 (ji36)) t106 _ A37.out).mono ?_
              rintro e w54 ⟨rfl,hb⟩
              refine ⟨_,rfl,?_⟩
              have n0_ := aZ_ (blk_below (g := gb101) (o := .cells #[.int .i64 a0_0,.int .i64 a0_1] 25 (0,0)) T2_ hb)
              have n1_ := aZ_ (below_step T1_ hb)
              clear BK101
              clear HB
              have BK101 := n0_
              have HB := n1_
              clear n0_ n1_
              (try clear hb)
              (try clear hb2)
              (try clear hk)
              (try clear hi)
              refine hK.out _ _ ⟨(blk_cell BK101.out 0).trans rfl,(blk_cell BK101.out 1).trans rfl⟩ (fun hHeld => ?_)
              clear hK K
              refine norm_ (a' := ?_) ?_ ?_
              rotate_left
              ·show Act.put _ (some 49) _ = _
               simp only [Act.put,List.setIfInBounds_toArray,List.set_cons_zero,List.set_cons_succ,i64_w,i32_w]
               rfl
              refine one_ (i := 11) (N := some 55) #[true,true,true,true,true,true,true,true,true,true,true,true,false,false] rfl rfl (one_of HT_.out T12_) T35_ (fun K hK => ?_)
              refine goes_ Try.func36 T12_ rfl #[.agg #[.int .i64 a0_0,.int .i64 a0_1],.int .i64 (Go.bits .or .i64 x29_2 (ji39))] (by rfl) rfl rfl T38_ ?_
              with_reducible refine (impl_Table_at.calls a0_0 a0_1 (Go.bits .or .i64 x29_2 (ji39)) t107 _ A40.out).mono ?_
              rintro e w55 ⟨rfl,hb⟩
              refine ⟨_,rfl,?_⟩
              have n0_ := aZ_ (blk_below (g := gb101) (o := .cells #[.int .i64 a0_0,.int .i64 a0_1] 25 (0,0)) T2_ hb)
              have n1_ := aZ_ (below_step T1_ hb)
              clear BK101
              clear HB
              have BK101 := n0_
              have HB := n1_
              clear n0_ n1_
              (try clear hb)
              (try clear hb2)
              (try clear hk)
              (try clear hi)
              refine hK.out _ _ ⟨(blk_cell BK101.out 0).trans rfl,(blk_cell BK101.out 1).trans rfl⟩ (fun hHeld => ?_)
              clear hK K
              refine norm_ (a' := ?_) ?_ ?_
              rotate_left
              ·show Act.put _ (some 55) _ = _
               simp only [Act.put,List.setIfInBounds_toArray,List.set_cons_zero,List.set_cons_succ,i64_w,i32_w]
               rfl
              refine pZ_ 12 (some 10) #[true,true,true,true,true,true,true,true,true,true,true,true,true,false] ?_
              refine pZ_ 13 (some 11) #[true,true,true,true,true,true,true,true,true,true,true,true,true,true] ?_
              refine done_ (done_of HT_.out T12_) ?_
              try go_wp2
              go_roundg kj27
              case measure => have := HJ3.out;have := HK2.out;have := HJ27.out;omega
              case rel => exact ⟨(decide (t106 > t107)),(decide (t107 > t106)),(wrap64 (x29_2 + 1)),T6_,T6_,T6_,H',⟨by have := HJ3.out;have := HK2.out;have := HJ27.out;omega⟩,⟨by (with_reducible repeat (first | refine blk_drewN ?_ _ | refine blk_drew ?_ | refine blk_alloc ?_ _));exact BK101.out⟩,⟨by repeat (first | (with_reducible first | exact HB.out | apply below_alloc | apply pw_below_drewN | apply below_drew1 | refine below_set ?_ GE101.out) | exact HB.out)⟩⟩
           ·rw [if_neg c38] at H
            exact absurd H T40_
          ·rw [if_neg c35] at H
           exact absurd H T40_
         ·replace c34 := Bool.eq_false_iff.mpr c34
          subst c34
          have H1 : (impl_DesirabilityOf.l0 kj27 a1 a2 x7_2 x8_2 t105 (wrap64 (x29_2 + 1)) a0_0 a0_1) = some r := by rw [if_neg (show ¬ (false = true) by decide)] at H;exact H
          clear H
          have H := H1
          clear H1
          have H' := aZ_ H
          clear H
          go_wp2
          go_roundg kj27
          case measure => have := HJ3.out;have := HK2.out;have := HJ27.out;omega
          case rel => exact ⟨(x7_2),(x8_2),(wrap64 (x29_2 + 1)),T6_,T6_,T6_,H',⟨by have := HJ3.out;have := HK2.out;have := HJ27.out;omega⟩,⟨by (with_reducible repeat (first | refine blk_drewN ?_ _ | refine blk_drew ?_ | refine blk_alloc ?_ _));exact BK101.out⟩,⟨by repeat (first | (with_reducible first | exact HB.out | apply below_alloc | apply pw_below_drewN | apply below_drew1 | refine below_set ?_ GE101.out) | exact HB.out)⟩⟩
      ·rw [if_neg c27] at H
       have c27b0 : decide (x29_2 < t105) = false := decide_eq_false c27
       clear c27
       have HC56 := aZ_ H
       clear H
       go_upto_region 12 with (fail)
       go_cut [69] (fun v69 wc => ∃ (kq : Nat) (x69_55 : Bool),v69 = .bool x69_55 ∧ Aside0 (impl_DesirabilityOf.j3 kq x7_2 x8_2 x69_55 = some r) ∧ Aside0 (kq ≤ k2) ∧ Aside0 (wc.heap[gb101]? = some (.cells #[.int .i64 a0_0,.int .i64 a0_1] 25 (0,0))) ∧ Aside0 (Below w.heap.size w wc))
       case first =>
        have H := HC56.out
        clear HC56
        by_cases c57 : x7_2 = true
        ·subst c57
         have H1 : (impl_DesirabilityOf.j3 k2 true x8_2 x8_2) = some r := by rw [if_pos rfl] at H;exact H
         clear H
         have H := H1
         clear H1
         have H' := aZ_ H
         clear H
         go_wp2
         go_meet
         case rel => exact ⟨_,(x8_2),T6_,H',⟨by have := HJ3.out;have := HK2.out;first | omega | exact Nat.le_refl _⟩,⟨by (with_reducible repeat (first | refine blk_drewN ?_ _ | refine blk_drew ?_ | refine blk_alloc ?_ _));exact BK101.out⟩,⟨by repeat (first | (with_reducible first | exact HB.out | apply below_alloc | apply pw_below_drewN | apply below_drew1 | refine below_set ?_ GE101.out) | exact HB.out)⟩⟩
        ·replace c57 := Bool.eq_false_iff.mpr c57
         subst c57
         have H1 : (impl_DesirabilityOf.j3 k2 false x8_2 false) = some r := by rw [if_neg (show ¬ (false = true) by decide)] at H;exact H
         clear H
         have H := H1
         clear H1
         have H' := aZ_ H
         clear H
         go_wp2
         go_meet
         case rel => exact ⟨_,(false),T6_,H',⟨by have := HJ3.out;have := HK2.out;first | omega | exact Nat.le_refl _⟩,⟨by (with_reducible repeat (first | refine blk_drewN ?_ _ | refine blk_drew ?_ | refine blk_alloc ?_ _));exact BK101.out⟩,⟨by repeat (first | (with_reducible first | exact HB.out | apply below_alloc | apply pw_below_drewN | apply below_drew1 | refine below_set ?_ GE101.out) | exact HB.out)⟩⟩
       case rest =>
        clear HC56
        try clear c2
        try clear p2
        try clear c3
        try clear c4
        try clear c5
        try clear p6
        try clear c27
        try clear c27b0
        try clear c34
        try clear c35
        try clear c36
        try clear c38
        try clear c41
        try clear c42
        try clear c49
        try clear c57
        obtain ⟨kq,x69_55,rfl,HA,HJ55,BK101,HB⟩ := hcut
        cases kq with
        | zero => exact absurd HA.out (by simp [impl_DesirabilityOf.j3])
        | succ kj55 =>
         have H := HA.out
         clear HA
         simp only [impl_DesirabilityOf.j3] at H
         by_cases c58 : x69_55 = true
         ·subst c58
          have H1 : (some 2) = some r := by rw [if_pos rfl] at H;exact H
          clear H
          have H := H1
          clear H1
          obtain rfl := Option.some.inj H
          go_wp2
          go_ret
          exact ⟨by first | rfl | (simp [errW_none,errW_some] <;> rfl) | (simp [*,errW_none,errW_some] <;> rfl),by repeat (first | (with_reducible first | exact HB.out | apply below_alloc | apply pw_below_drewN | apply below_drew1 | refine below_set ?_ GE101.out) | exact HB.out)⟩
         ·replace c58 := Bool.eq_false_iff.mpr c58
          subst c58
          have H1 : (if x7_2 = true then (some 1) else (if x8_2 = true then (some (-1)) else (some 0))) = some r := by rw [if_neg (show ¬ (false = true) by decide)] at H;exact H
          clear H
          have H := H1
          clear H1
          by_cases c59 : x7_2 = true
          ·subst c59
           have H1 : (some 1) = some r := by rw [if_pos rfl] at H;exact H
           clear H
           have H := H1
           clear H1
           obtain rfl := Option.some.inj H
           go_wp2
           go_ret
           exact ⟨by first | rfl | (simp [errW_none,errW_some] <;> rfl) | (simp [*,errW_none,errW_some] <;> rfl),by repeat (first | (with_reducible first | exact HB.out | apply below_alloc | apply pw_below_drewN | apply below_drew1 | refine below_set ?_ GE101.out) | exact HB.out)⟩
          ·replace c59 := Bool.eq_false_iff.mpr c59
           subst c59
           have H1 : (if x8_2 = true then (some (-1)) else (some 0)) = some r := by rw [if_neg (show ¬ (false = true) by decide)] at H;exact H
           clear H
           have H := H1
           clear H1
           by_cases c60 : x8_2 = true
           ·subst c60
            have H1 : (some (-1)) = some r := by rw [if_pos rfl] at H;exact H
            clear H
            have H := H1
            clear H1
            obtain rfl := Option.some.inj H
            go_wp2
            go_ret
            exact ⟨by first | rfl | (simp [errW_none,errW_some] <;> rfl) | (simp [*,errW_none,errW_some] <;> rfl),by repeat (first | (with_reducible first | exact HB.out | apply below_alloc | apply pw_below_drewN | apply below_drew1 | refine below_set ?_ GE101.out) | exact HB.out)⟩
           ·replace c60 := Bool.eq_false_iff.mpr c60
            subst c60
            have H1 : (some 0) = some r := by rw [if_neg (show ¬ (false = true) by decide)] at H;exact H
            clear H
            have H := H1
            clear H1
            obtain rfl := Option.some.inj H
            go_wp2
            go_ret
            exact ⟨by first | rfl | (simp [errW_none,errW_some] <;> rfl) | (simp [*,errW_none,errW_some] <;> rfl),by repeat (first | (with_reducible first | exact HB.out | apply below_alloc | apply pw_below_drewN | apply below_drew1 | refine below_set ?_ GE101.out) | exact HB.out)⟩
def impl_moved.l0 : Nat → Int → Int → List Int → Int → Int → Option (Int)
 | 0,_,_,_,_,_ => none
 | k + 1,x0,x5,x8,x9,x10 => if x10 < x9 then (if 0 ≤ x10 then (if x10 < (x8.length : Int) then (if 0 ≤ (rd x8 x10) then (impl_moved.l0 k x0 (Go.bits .or .i64 x5 (shl .i64 (Go.bits .and .i64 (shr .i64 x0 x10) 1) (rd x8 x10))) x8 x9 (wrap64 (x10 + 1))) else (none)) else (none)) else (none)) else (some x5)
def impl_moved.f (k : Nat) (a0 : Int) (l1 : List Int) : Option (Int) := impl_moved.l0 k a0 0 l1 (l1.length : Int) 0
theorem impl_moved.mono_l : ∀ k,(∀ y0 y1 y2 y3 y4,LeO (impl_moved.l0 k y0 y1 y2 y3 y4) (impl_moved.l0 (k + 1) y0 y1 y2 y3 y4))
 | 0 => fun _ _ _ _ _ r h => by simp [impl_moved.l0] at h
 | k + 1 => by
  have ih0 := impl_moved.mono_l k
  ·intro y0 y1 y2 y3 y4
   unfold impl_moved.l0
   repeat' first
   | (with_reducible exact ih0 _ _ _ _ _)
   | (with_reducible exact LeO.refl _)
   | (with_reducible exact LeO.none _)
   | (with_reducible refine LeO.ite ?_ ?_)
   | (with_reducible refine LeO.bind ?_ (fun _ => ?_))
   | exact ih0 _ _ _ _ _
   | exact LeO.none _
   | refine LeO.ite ?_ ?_
   | refine LeO.bind ?_ (fun _ => ?_)
theorem impl_moved.mono : ∀ a0 a1 k,LeO (impl_moved.f k a0 a1) (impl_moved.f (k + 1) a0 a1) := by
 intro a0 a1 k
 have ih0 := impl_moved.mono_l k
 unfold impl_moved.f
 repeat' first
   | (with_reducible exact ih0 _ _ _ _ _)
   | (with_reducible exact LeO.refl _)
   | (with_reducible exact LeO.none _)
   | (with_reducible refine LeO.ite ?_ ?_)
   | (with_reducible refine LeO.bind ?_ (fun _ => ?_))
   | exact ih0 _ _ _ _ _
   | exact LeO.none _
   | refine LeO.ite ?_ ?_
   | refine LeO.bind ?_ (fun _ => ?_)
set_option maxHeartbeats 8000000 in
set_option maxRecDepth 100000 in
theorem impl_moved.calls (k : Nat) (a0 : Int) (A1 : Option Addr) (c1 : Nat) (l1 : List Int) (r : Int) (w : World) (hr1 : Kd.C (Kd.int .i64) w A1 l1.length l1) (hc1 : l1.length ≤ c1) (h : impl_moved.f k a0 l1 = some r) :
  Calls Try.prog 64 #[.int .i64 a0,.slice A1 l1.length c1] w fun e w' => e = .returned (.int .i64 r) ∧ Drawn0 w w' := by
 have HR1 := aZ_ hr1
 have HC1 := aZ_ hc1
 clear hr1 hc1
 have H : (impl_moved.l0 k a0 0 l1 (l1.length : Int) 0) = some r := h
 clear h
 have H' := aZ_ H
 clear H
 go_enter Try.func64,Try.ntmps64
 go_wp2
 go_loopg [5,10] k (fun kq v5 v10 w' => ∃ (x5_1 : Int) (x10_1 : Int),v5 = .int .i64 x5_1 ∧ v10 = .int .i64 x10_1 ∧ Aside0 (impl_moved.l0 kq a0 x5_1 l1 (l1.length : Int) x10_1 = some r) ∧ Aside0 (kq ≤ k) ∧ Drawn0 w w')
 case atStart => exact ⟨(0),(0),T6_,T6_,H',⟨Nat.le_refl _⟩,by repeat (first | exact Drawn0.refl _ | apply Drawn0.step)⟩
 case round =>
  clear H'
  try clear c1
  try clear p2
  obtain ⟨x5_1,x10_1,rfl,rfl,HA,HK1,⟨m1,rfl⟩⟩ := hrel
  cases gk with
  | zero => exact absurd HA.out (by simp [impl_moved.l0])
  | succ k1 =>
   have H := HA.out
   clear HA
   simp only [impl_moved.l0] at H
   by_cases c3 : x10_1 < (l1.length : Int)
   ·rw [if_pos c3] at H
    have c3b0 : decide (x10_1 < (l1.length : Int)) = true := decide_eq_true c3
    clear c3
    by_cases c4 : 0 ≤ x10_1
    ·rw [if_pos c4] at H
     have c4b0 : decide (0 ≤ x10_1) = true := decide_eq_true c4
     clear c4
     by_cases c5 : x10_1 < (l1.length : Int)
     ·rw [if_pos c5] at H
      have c5b0 : decide (x10_1 < (l1.length : Int)) = true := decide_eq_true c5
      clear c5
      have c6b0 := eq_true (of_decide_eq_true T13_ : 0 ≤ x10_1)
      obtain ⟨ji7,hji7⟩ : ∃ j_ : Int,(shr .i64 a0 x10_1) = j_ := ⟨_,rfl⟩
      replace H : (if 0 ≤ (rd l1 x10_1) then (impl_moved.l0 k1 a0 (Go.bits .or .i64 x5_1 (shl .i64 (Go.bits .and .i64 (ji7) 1) (rd l1 x10_1))) l1 (l1.length : Int) (wrap64 (x10_1 + 1))) else (none)) = some r := by first | (rw [hji7] at H;exact H) | (simp only [hji7] at H ⊢;exact H)
      have hji7_ : (a0 / 2 ^ min x10_1.toNat 64) = ji7 := hji7
      have hji7z : x10_1 ≤ 64 → (a0 / 2 ^ x10_1.toNat) = ji7 := shr_small hji7
      by_cases c8 : 0 ≤ (rd l1 x10_1)
      ·rw [if_pos c8] at H
       have c8b0 := eq_true c8
       have c8b1 : decide (0 ≤ (rd l1 x10_1)) = true := decide_eq_true c8
       clear c8
       obtain ⟨ji9,hji9⟩ : ∃ j_ : Int,(shl .i64 (Go.bits .and .i64 (ji7) 1) (rd l1 x10_1)) = j_ := ⟨_,rfl⟩
       replace H : (impl_moved.l0 k1 a0 (Go.bits .or .i64 x5_1 (ji9)) l1 (l1.length : Int) (wrap64 (x10_1 + 1))) = some r := by first | (rw [hji9] at H;exact H) | (simp only [hji9] at H ⊢;exact H)
       have hji9_ : (IntKind.i64.wrap ((Go.bits .and .i64 (ji7) 1) * 2 ^ min (rd l1 x10_1).toNat 64)) = ji9 := hji9
       have hji9z : (rd l1 x10_1) ≤ 64 → (IntKind.i64.wrap ((Go.bits .and .i64 (ji7) 1) * 2 ^ (rd l1 x10_1).toNat)) = ji9 := shl_small hji9
       have hji9y : (wrap64 ((Go.bits .and .i64 (ji7) 1) * 2 ^ min (rd l1 x10_1).toNat 64)) = ji9 := (i64_w _).symm.trans hji9_
       have hji9x : (rd l1 x10_1) ≤ 64 → (wrap64 ((Go.bits .and .i64 (ji7) 1) * 2 ^ (rd l1 x10_1).toNat)) = ji9 := fun h_ => (i64_w _).symm.trans (hji9z h_)
       have H' := aZ_ H
       clear H
       have p101 : 0 ≤ (x10_1 : Int) := of_decide_eq_true T13_
       have q101 : x10_1 < (l1.length : Int) := of_decide_eq_true T13_
       obtain ⟨ad101,e101,hx101_0⟩ := Kd.at_int HR1.out x10_1 p101 q101
       cases e101
       replace p101 := eq_true p101
       replace q101 := eq_true q101
       go_wp2
       go_roundg k1
       case measure => have := HK1.out;omega
       case rel => exact ⟨(Go.bits .or .i64 x5_1 (ji9)),(wrap64 (x10_1 + 1)),(by first | rfl | (simp;done) | (simp only [← hji9] <;> (first | rfl | simp)) | (simp [*];done)),T6_,H',⟨by have := HK1.out;omega⟩,by repeat (first | exact Drawn0.refl _ | apply Drawn0.step)⟩
      ·rw [if_neg c8] at H
       exact absurd H T40_
     ·rw [if_neg c5] at H
      exact absurd H T40_
    ·rw [if_neg c4] at H
     exact absurd H T40_
   ·rw [if_neg c3] at H
    have c3b0 : decide (x10_1 < (l1.length : Int)) = false := decide_eq_false c3
    clear c3
    obtain rfl := Option.some.inj H
    go_wp2
    go_ret
    exact ⟨by first | rfl | (simp;done) | (simp [*];done),by repeat (first | exact Drawn0.refl _ | apply Drawn0.step)⟩
def impl_Table_permute.l0 : Nat → List Int → Int → Int → Int → Int → Int → Int → Option (Int × Int)
 | 0,_,_,_,_,_,_,_ => none
 | k + 1,x1,x11,x12,x102000,x102001,x104000,x104001 => if x12 < x11 then ((impl_Table_at.f x102000 x102001 x12).bind fun t105 => ((impl_moved.f k x12 x1).bind fun t106 => (if 0 ≤ t106 then (impl_Table_permute.l0 k x1 x11 (wrap64 (x12 + 1)) x102000 x102001 x104000 (Go.bits .or .i64 x104001 (shl .i64 t105 t106))) else (none)))) else (some (x104000,x104001))
def impl_Table_permute.f (k : Nat) (a0_0 : Int) (a0_1 : Int) (l1 : List Int) : Option (Int × Int) := (impl_Table_size.f a0_0 a0_1).bind fun t104 => (impl_Table_permute.l0 k l1 t104 0 a0_0 a0_1 a0_0 0)
def impl_Table_permute.T5 : Bool × List (List Nat × List Nat) := (true,[([],[]),([0],[0]),([],[]),([],[]),([2,3],[2,3]),([],[]),([],[]),([5,6,4],[5,6]),([4,7],[4,7]),([1,8],[1,8]),([0,1,2,3,4,5,6,7,8,9],[]),([10,9,7,0,1,2,3,4,5,6,7,8,9],[9,10])])
def impl_Table_permute.B5 : List Nat := [0,1,0,0,12,0,0,124,252,511,1023,2047]
theorem impl_Table_permute.tab5 : rtab .any (opsOf Try.f48 5) = impl_Table_permute.T5 := by kernel_rfl
theorem impl_Table_permute.bits5 : waitsOk impl_Table_permute.T5.2 impl_Table_permute.B5 = true := by kernel_rfl
set_option maxHeartbeats 8000000 in
set_option maxRecDepth 100000 in
theorem impl_Table_permute.calls (k : Nat) (a0_0 : Int) (a0_1 : Int) (A1 : Option Addr) (c1 : Nat) (l1 : List Int) (r1 : Int) (r2 : Int) (w : World) (hr1 : Kd.C (Kd.int .i64) w A1 l1.length l1) (hc1 : l1.length ≤ c1) (h : impl_Table_permute.f k a0_0 a0_1 l1 = some (r1,r2)) :
  Calls Try.prog 48 #[.agg #[.int .i64 a0_0,.int .i64 a0_1],.slice A1 l1.length c1] w fun e w' => e = .returned (.agg #[.int .i64 r1,.int .i64 r2]) ∧ Below w.heap.size w w' := by
 have hu25 := Try.underlying25
 have HR1 := aZ_ hr1
 have HC1 := aZ_ hc1
 clear hr1 hc1
 have HB := aZ_ (Below.refl w.heap.size w)
 have H : ((impl_Table_size.f a0_0 a0_1).bind fun t104 => (impl_Table_permute.l0 k l1 t104 0 a0_0 a0_1 a0_0 0)) = some (r1,r2) := h
 clear h
 replace H := Option.bind_eq_some_iff.mp H
 obtain ⟨t104,A30,H⟩ := H
 replace H : (impl_Table_permute.l0 k l1 t104 0 a0_0 a0_1 a0_0 0) = some (r1,r2) := H
 have A3 := aZ_ A30
 clear A30
 have H' := aZ_ H
 clear H
 go_enter Try.func48,Try.ntmps48
 go_wp2_with (first | ((with_reducible refine gate_dst (N := 2) rfl ?_);refine box_event ?hg (N := 2) ?hd (cs := #[.int .i64 a0_0,.int .i64 a0_1]) (t := 25) ?hr ?_;(case hd => rfl);(case hg => rfl);(case hr => first | (go_simp;done) | (go_simp;rfl));intro gb101 hg w4 hbox hb;have n0_ := aZ_ (below_step T5_ hb);have n1_ := aZ_ (hbox);have n2_ := aZ_ ((T3_ : w.heap.size ≤ gb101));have n3_ := aZ_ ((T3_ : w.heap.size ≤ gb101));clear HB;have HB := n0_;have BK101 := n1_;have GW101 := n2_;have GE101 := n3_;clear n0_ n1_ n2_ n3_;clear hb hbox hg) | ((with_reducible refine gate_dst (N := 4) rfl ?_);refine box_event ?hg (N := 4) ?hd (cs := #[.int .i64 0,.int .i64 0]) (t := 25) ?hr ?_;(case hd => rfl);(case hg => rfl);(case hr => first | (go_simp;done) | (go_simp;rfl));intro gb102 hg w5 hbox hb;have n0_ := aZ_ (blk_below (g := gb101) (o := .cells #[.int .i64 a0_0,.int .i64 a0_1] 25 (0,0)) T2_ hb);have n1_ := aZ_ (below_step T1_ hb);have n2_ := aZ_ (hbox);have n3_ := aZ_ ((T22_ : w.heap.size ≤ gb102));have n4_ := aZ_ ((T22_ : w.heap.size ≤ gb102));have n5_ := aZ_ ((T27_ : gb101 ≠ gb102));have n6_ := aZ_ ((T28_ : gb102 ≠ gb101));clear BK101;clear HB;have BK101 := n0_;have HB := n1_;have BK102 := n2_;have GW102 := n3_;have GE102 := n4_;have NB101_102 := n5_;have NB102_101 := n6_;clear n0_ n1_ n2_ n3_ n4_ n5_ n6_;clear hb hbox hg;have hnb6 := NB101_102.out;have hnc6 := NB102_101.out;have hcz7_0 : w5.cell? ⟨gb101,0,none⟩ = some (.int .i64 a0_0) := (blk_cell BK101.out 0).trans rfl;have hcz7_1 : w5.cell? ⟨gb101,1,none⟩ = some (.int .i64 a0_1) := (blk_cell BK101.out 1).trans rfl;have hfz7_0 := blk_frozen BK101.out 0;have hfz7_1 := blk_frozen BK101.out 1) | ((with_reducible refine gate_dst (N := 5) rfl ?_);refine box_event ?hg (N := 5) ?hd (cs := #[.int .i64 0,.int .i64 0]) (t := 25) ?hr ?_;(case hd => rfl);(case hg => rfl);(case hr => first | (go_simp;done) | (go_simp;rfl));intro gb103 hg w8 hbox hb;have n0_ := aZ_ (blk_below (g := gb101) (o := .cells #[.int .i64 a0_0,.int .i64 a0_1] 25 (0,0)) T2_ hb);have n1_ := aZ_ (blk_below (g := gb102) (o := .cells #[.int .i64 0,.int .i64 0] 25 (0,0)) T45_ hb);have n2_ := aZ_ (below_step T39_ hb);have n3_ := aZ_ (hbox);have n4_ := aZ_ ((T46_ : w.heap.size ≤ gb103));have n5_ := aZ_ ((T46_ : w.heap.size ≤ gb103));have n6_ := aZ_ ((T27_ : gb101 ≠ gb103));have n7_ := aZ_ ((T28_ : gb103 ≠ gb101));have n8_ := aZ_ ((by rw [hg];exact Nat.ne_of_lt (blk_lt (g := gb102) (o := .cells #[.int .i64 0,.int .i64 0] 25 (0,0)) T45_) : gb102 ≠ gb103));have n9_ := aZ_ ((by rw [hg];exact Nat.ne_of_gt (blk_lt (g := gb102) (o := .cells #[.int .i64 0,.int .i64 0] 25 (0,0)) T45_) : gb103 ≠ gb102));clear BK101;clear BK102;clear HB;have BK101 := n0_;have BK102 := n1_;have HB := n2_;have BK103 := n3_;have GW103 := n4_;have GE103 := n5_;have NB101_103 := n6_;have NB103_101 := n7_;have NB102_103 := n8_;have NB103_102 := n9_;clear n0_ n1_ n2_ n3_ n4_ n5_ n6_ n7_ n8_ n9_;clear hb hbox hg;have hnb9 := NB103_101.out;have hnc9 := NB101_103.out;have hnb10 := NB103_102.out;have hnc10 := NB102_103.out;have hcz11_0 : w8.cell? ⟨gb103,0,none⟩ = some (.int .i64 0) := (blk_cell BK103.out 0).trans rfl;have hcz11_1 : w8.cell? ⟨gb103,1,none⟩ = some (.int .i64 0) := (blk_cell BK103.out 1).trans rfl;have hfz11_0 := blk_frozen BK103.out 0;have hfz11_1 := blk_frozen BK103.out 1;have hcz12_0 : w8.cell? ⟨gb101,0,none⟩ = some (.int .i64 a0_0) := (blk_cell BK101.out 0).trans rfl;have hcz12_1 : w8.cell? ⟨gb101,1,none⟩ = some (.int .i64 a0_1) := (blk_cell BK101.out 1).trans rfl;have hfz12_0 := blk_frozen BK101.out 0;have hfz12_1 := blk_frozen BK101.out 1) | ((with_reducible refine gate_callee (f := 37) rfl ?_);refine goesL_ (some 11) rfl rfl Try.func37 T12_ rfl #[.agg #[.int .i64 a0_0,.int .i64 a0_1]] rfl T4_ ?_;(with_reducible refine (impl_Table_size.calls a0_0 a0_1 t104 _ A3.out).mono ?_);rintro e w13 ⟨rfl,hb⟩;refine ⟨_,rfl,?_⟩;have n0_ := aZ_ (blk_below (g := gb101) (o := .cells #[.int .i64 a0_0,.int .i64 a0_1] 25 (0,0)) (by (with_reducible repeat (first | refine blk_drewN ?_ _ | refine blk_drew ?_ | refine blk_alloc ?_ _));refine blk_far ?_ NB101_103.out _;(with_reducible repeat (first | refine blk_drewN ?_ _ | refine blk_drew ?_ | refine blk_alloc ?_ _));refine blk_far ?_ NB101_103.out _;(with_reducible repeat (first | refine blk_drewN ?_ _ | refine blk_drew ?_ | refine blk_alloc ?_ _));exact BK101.out) hb);have n1_ := aZ_ (blk_below (g := gb102) (o := .cells #[.int .i64 0,.int .i64 0] 25 (0,0)) (by (with_reducible repeat (first | refine blk_drewN ?_ _ | refine blk_drew ?_ | refine blk_alloc ?_ _));refine blk_far ?_ NB102_103.out _;(with_reducible repeat (first | refine blk_drewN ?_ _ | refine blk_drew ?_ | refine blk_alloc ?_ _));refine blk_far ?_ NB102_103.out _;(with_reducible repeat (first | refine blk_drewN ?_ _ | refine blk_drew ?_ | refine blk_alloc ?_ _));exact BK102.out) hb);have n2_ := aZ_ (blk_below (g := gb103) (o := .cells #[.int .i64 a0_0,.int .i64 0] 25 (0,0)) (by (with_reducible repeat (first | refine blk_drewN ?_ _ | refine blk_drew ?_ | refine blk_alloc ?_ _));refine blk_put (cs := #[.int .i64 a0_0,.int .i64 0]) ?_ 1 _ rfl;(with_reducible repeat (first | refine blk_drewN ?_ _ | refine blk_drew ?_ | refine blk_alloc ?_ _));refine blk_put (cs := #[.int .i64 0,.int .i64 0]) ?_ 0 _ rfl;(with_reducible repeat (first | refine blk_drewN ?_ _ | refine blk_drew ?_ | refine blk_alloc ?_ _));exact BK103.out) hb);have n3_ := aZ_ (below_step T47_ hb);clear BK101;clear BK102;clear BK103;clear HB;have BK101 := n0_;have BK102 := n1_;have BK103 := n2_;have HB := n3_;clear n0_ n1_ n2_ n3_;(try clear hb);(try clear hb2);(try clear hk);(try clear hi)))
 go_loopg [12] k (fun kq v12 w' => ∃ (x12_1 : Int) (x104001_1 : Int),v12 = .int .i64 x12_1 ∧ Aside0 (impl_Table_permute.l0 kq l1 t104 x12_1 a0_0 a0_1 a0_0 x104001_1 = some (r1,r2)) ∧ Aside0 (kq ≤ k) ∧ Aside0 (w'.heap[gb101]? = some (.cells #[.int .i64 a0_0,.int .i64 a0_1] 25 (0,0))) ∧ Aside0 (w'.heap[gb102]? = some (.cells #[.int .i64 0,.int .i64 0] 25 (0,0))) ∧ Aside0 (w'.heap[gb103]? = some (.cells #[.int .i64 a0_0,.int .i64 x104001_1] 25 (0,0))) ∧ Aside0 (Below w.heap.size w w'))
 case atStart => exact ⟨(0),(0),T6_,H',⟨Nat.le_refl _⟩,⟨by (with_reducible repeat (first | refine blk_drewN ?_ _ | refine blk_drew ?_ | refine blk_alloc ?_ _));exact BK101.out⟩,⟨by (with_reducible repeat (first | refine blk_drewN ?_ _ | refine blk_drew ?_ | refine blk_alloc ?_ _));exact BK102.out⟩,⟨by (with_reducible repeat (first | refine blk_drewN ?_ _ | refine blk_drew ?_ | refine blk_alloc ?_ _));exact BK103.out⟩,⟨by repeat (first | (with_reducible first | exact HB.out | apply below_alloc | apply pw_below_drewN | apply below_drew1 | refine below_set ?_ GE101.out | refine below_set ?_ GE102.out | refine below_set ?_ GE103.out) | exact HB.out)⟩⟩
 case round =>
  clear H'
  try clear c1
  try clear p2
  try clear c3
  try clear c4
  try clear c6
  try clear c9
  try clear c10
  try clear hcz11_0
  try clear hcz11_1
  try clear hcz12_0
  try clear hcz12_1
  try clear hcz7_0
  try clear hcz7_1
  try clear hfz11_0
  try clear hfz11_1
  try clear hfz12_0
  try clear hfz12_1
  try clear hfz7_0
  try clear hfz7_1
  obtain ⟨x12_1,x104001_1,rfl,HA,HK1,BK101,BK102,BK103,HB⟩ := hrel
  cases gk with
  | zero => exact absurd HA.out (by simp [impl_Table_permute.l0])
  | succ k1 =>
   have H := HA.out
   clear HA
   simp only [impl_Table_permute.l0] at H
   by_cases c14 : x12_1 < t104
   ·rw [if_pos c14] at H
    have c14b0 : decide (x12_1 < t104) = true := decide_eq_true c14
    clear c14
    replace H := Option.bind_eq_some_iff.mp H
    obtain ⟨t105,A150,H⟩ := H
    replace H : ((impl_moved.f k1 x12_1 l1).bind fun t106 => (if 0 ≤ t106 then (impl_Table_permute.l0 k1 l1 t104 (wrap64 (x12_1 + 1)) a0_0 a0_1 a0_0 (Go.bits .or .i64 x104001_1 (shl .i64 t105 t106))) else (none))) = some (r1,r2) := H
    have A15 := aZ_ A150
    clear A150
    replace H := Option.bind_eq_some_iff.mp H
    obtain ⟨t106,A160,H⟩ := H
    replace H : (if 0 ≤ t106 then (impl_Table_permute.l0 k1 l1 t104 (wrap64 (x12_1 + 1)) a0_0 a0_1 a0_0 (Go.bits .or .i64 x104001_1 (shl .i64 t105 t106))) else (none)) = some (r1,r2) := H
    have A16 := aZ_ A160
    clear A160
    by_cases c17 : 0 ≤ t106
    ·rw [if_pos c17] at H
     have c17b0 := eq_true c17
     have c17b1 : decide (0 ≤ t106) = true := decide_eq_true c17
     clear c17
     obtain ⟨ji18,hji18⟩ : ∃ j_ : Int,(shl .i64 t105 t106) = j_ := ⟨_,rfl⟩
     replace H : (impl_Table_permute.l0 k1 l1 t104 (wrap64 (x12_1 + 1)) a0_0 a0_1 a0_0 (Go.bits .or .i64 x104001_1 (ji18))) = some (r1,r2) := by first | (rw [hji18] at H;exact H) | (simp only [hji18] at H ⊢;exact H)
     (try rw [hji18] at A15)
     (try rw [hji18] at A16)
     have hji18_ : (IntKind.i64.wrap (t105 * 2 ^ min t106.toNat 64)) = ji18 := hji18
     have hji18z : t106 ≤ 64 → (IntKind.i64.wrap (t105 * 2 ^ t106.toNat)) = ji18 := shl_small hji18
     have hji18y : (wrap64 (t105 * 2 ^ min t106.toNat 64)) = ji18 := (i64_w _).symm.trans hji18_
     have hji18x : t106 ≤ 64 → (wrap64 (t105 * 2 ^ t106.toNat)) = ji18 := fun h_ => (i64_w _).symm.trans (hji18z h_)
     have H' := aZ_ H
     clear H
     try go_wp2
     have n0_ := aZ_ (blk_drew BK101.out)
     have n1_ := aZ_ (blk_drew BK102.out)
     have n2_ := aZ_ (blk_drew BK103.out)
     have n3_ := aZ_ (below_drew1 HB.out)
     clear BK101
     clear BK102
     clear BK103
     clear HB
     have BK101 := n0_
     have BK102 := n1_
     have BK103 := n2_
     have HB := n3_
     clear n0_ n1_ n2_ n3_
     refine start_ (n := 12) (S := fun w' => w'.cell? ⟨gb103,0,none⟩ = some (.int .i64 a0_0) ∧ w'.cell? ⟨gb103,1,none⟩ = some (.int .i64 x104001_1) ∧ w'.cell? ⟨gb101,0,none⟩ = some (.int .i64 a0_0) ∧ w'.cell? ⟨gb101,1,none⟩ = some (.int .i64 a0_1)) (ds := [11]) #[false,false,false,false,false,false,false,false,false,false,false,false] T12_ rfl rfl ⟨(blk_cell BK103.out 0).trans rfl,(blk_cell BK103.out 1).trans rfl,(blk_cell BK101.out 0).trans rfl,(blk_cell BK101.out 1).trans rfl⟩ (fun hHeld => ?_);refine with_tabW impl_Table_permute.tab5 impl_Table_permute.bits5 (fun HT_ HW_ => ?_)
     generalize wr.drew = w19 at BK101 BK102 BK103 HB hHeld ⊢
     refine pZ_ 0 (some 15) #[true,false,false,false,false,false,false,false,false,false,false,false] ?_
     refine pZ_ 3 (some 18) #[true,false,false,true,false,false,false,false,false,false,false,false] ?_
     refine pZ_ 5 (some 20) #[true,false,false,true,false,true,false,false,false,false,false,false] ?_
     refine pZ_ 6 (some 21) #[true,false,false,true,false,true,true,false,false,false,false,false] ?_
     refine tZ4_ 1 (some 16) #[true,true,false,true,false,true,true,false,false,false,false,false] hHeld ?_
     refine tZ4_ 2 (some 17) #[true,true,true,true,false,true,true,false,false,false,false,false] hHeld ?_
     refine one_ (i := 4) (N := some 19) #[true,true,true,true,true,true,true,false,false,false,false,false] rfl rfl (one_of HT_.out T12_) T35_ (fun K hK => ?_)
     refine gZ_ Try.func36 #[.agg #[.int .i64 a0_0,.int .i64 a0_1],.int .i64 x12_1] ?_
     with_reducible refine (impl_Table_at.calls a0_0 a0_1 x12_1 t105 _ A15.out).mono ?_
     rintro e w20 ⟨rfl,hb⟩
     refine ⟨_,rfl,?_⟩
     have n0_ := aZ_ (blk_below (g := gb101) (o := .cells #[.int .i64 a0_0,.int .i64 a0_1] 25 (0,0)) T2_ hb)
     have n1_ := aZ_ (blk_below (g := gb102) (o := .cells #[.int .i64 0,.int .i64 0] 25 (0,0)) T45_ hb)
     have n2_ := aZ_ (blk_below (g := gb103) (o := .cells #[.int .i64 a0_0,.int .i64 x104001_1] 25 (0,0)) (by (with_reducible repeat (first | refine blk_drewN ?_ _ | refine blk_drew ?_ | refine blk_alloc ?_ _));exact BK103.out) hb)
     have n3_ := aZ_ (below_step T47_ hb)
     clear BK101
     clear BK102
     clear BK103
     clear HB
     have BK101 := n0_
     have BK102 := n1_
     have BK103 := n2_
     have HB := n3_
     clear n0_ n1_ n2_ n3_
     (try clear hb)
     (try clear hb2)
     (try clear hk)
     (try clear hi)
     refine hK.out _ _ ⟨(blk_cell BK103.out 0).trans rfl,(blk_cell BK103.out 1).trans rfl,(blk_cell BK101.out 0).trans rfl,(blk_cell BK101.out 1).trans rfl⟩ (fun hHeld => ?_)
     clear hK K
     refine norm_ (a' := ?_) ?_ ?_
     rotate_left
     ·show Act.put _ (some 19) _ = _
      simp only [Act.put,List.setIfInBounds_toArray,List.set_cons_zero,List.set_cons_succ,i64_w,i32_w]
      rfl
     refine one_ (i := 7) (N := some 22) #[true,true,true,true,true,true,true,true,false,false,false,false] rfl rfl (one_of HT_.out T12_) T35_ (fun K hK => ?_)
     refine gZ_ Try.func64 #[.int .i64 x12_1,.slice A1 l1.length c1] ?_
     with_reducible refine (impl_moved.calls k1 x12_1 _ _ l1 t106 _ ?side1 ?side2 A16.out).mono ?_
     (case side1 => repeat (first | exact (Kd.C_below HR1.out HB.out) | (with_reducible refine Kd.C_alloc ?_ _) | (with_reducible refine Kd.C_drewN ?_ _) | (with_reducible refine Kd.C_drew ?_)))
     (case side2 => exact HC1.out)
     rintro e w' ⟨rfl,⟨nd,rfl⟩⟩
     refine ⟨_,rfl,?_⟩
     refine hK.out _ _ ⟨(blk_cell BK103.out 0).trans rfl,(blk_cell BK103.out 1).trans rfl,(blk_cell BK101.out 0).trans rfl,(blk_cell BK101.out 1).trans rfl⟩ (fun hHeld => ?_)
     clear hK K
     refine norm_ (a' := ?_) ?_ ?_
     rotate_left
     ·show Act.put _ (some 22) _ = _
      simp only [Act.put,List.setIfInBounds_toArray,List.set_cons_zero,List.set_cons_succ,i64_w,i32_w]
      rfl
     refine pZ_ 8 (some 23) #[true,true,true,true,true,true,true,true,true,false,false,false] ?_
     refine pZ_ 9 (some 24) #[true,true,true,true,true,true,true,true,true,true,false,false] ?_
     refine pZ_ 10 (some 25) #[true,true,true,true,true,true,true,true,true,true,true,false] ?_
     refine last_ (i := 11) (N := none) #[true,true,true,true,true,true,true,true,true,true,true,true] rfl rfl (one_of HT_.out T12_) T35_ (fun K hK => ?_)
     have hs21 : w20.cell? ⟨gb103,1,none⟩ = some (.int .i64 x104001_1) := (blk_cell BK103.out 1).trans rfl
     have hfs21 := blk_frozen BK103.out 1
     have hns21_0 := NB101_103.out
     have hns21_1 := NB102_103.out
     have hms21_0 := NB103_101.out
     have hms21_1 := NB103_102.out
     refine skip_ (w1 := ?_) (by rfl) rfl ?_ ?_
     rotate_left
     ·go_simp
      rfl
     refine hK.out _ _ ?_
     clear hK K
     refine done_ (done_of HT_.out T12_) ?_
     try go_wp2
     go_roundg k1
     case measure => have := HK1.out;omega
     case rel => exact ⟨(wrap64 (x12_1 + 1)),(Go.bits .or .i64 x104001_1 (ji18)),T6_,H',⟨by have := HK1.out;omega⟩,⟨by (with_reducible repeat (first | refine blk_drewN ?_ _ | refine blk_drew ?_ | refine blk_alloc ?_ _));refine blk_far ?_ NB101_103.out _;(with_reducible repeat (first | refine blk_drewN ?_ _ | refine blk_drew ?_ | refine blk_alloc ?_ _));exact BK101.out⟩,⟨by (with_reducible repeat (first | refine blk_drewN ?_ _ | refine blk_drew ?_ | refine blk_alloc ?_ _));refine blk_far ?_ NB102_103.out _;(with_reducible repeat (first | refine blk_drewN ?_ _ | refine blk_drew ?_ | refine blk_alloc ?_ _));exact BK102.out⟩,⟨by (with_reducible repeat (first | refine blk_drewN ?_ _ | refine blk_drew ?_ | refine blk_alloc ?_ _));refine blk_put (cs := #[.int .i64 a0_0,.int .i64 x104001_1]) ?_ 1 _ rfl;(with_reducible repeat (first | refine blk_drewN ?_ _ | refine blk_drew ?_ | refine blk_alloc ?_ _));exact BK103.out⟩,⟨by repeat (first | (with_reducible first | exact HB.out | apply below_alloc | apply pw_below_drewN | apply below_drew1 | refine below_set ?_ GE101.out | refine below_set ?_ GE102.out | refine below_set ?_ GE103.out) | exact HB.out)⟩⟩
    ·rw [if_neg c17] at H
     exact absurd H T40_
   ·rw [if_neg c14] at H
    have c14b0 : decide (x12_1 < t104) = false := decide_eq_false c14
    clear c14
    simp only [Option.some.injEq,Prod.mk.injEq] at H
    obtain ⟨rfl,rfl⟩ := H
    have hnb22 := NB103_101.out
    have hnc22 := NB101_103.out
    have hnb23 := NB103_102.out
    have hnc23 := NB102_103.out
    have hcz24_0 : wr.cell? ⟨gb103,0,none⟩ = some (.int .i64 a0_0) := (blk_cell BK103.out 0).trans rfl
    have hcz24_1 : wr.cell? ⟨gb103,1,none⟩ = some (.int .i64 x104001_1) := (blk_cell BK103.out 1).trans rfl
    have hfz24_0 := blk_frozen BK103.out 0
    have hfz24_1 := blk_frozen BK103.out 1
    have hnb25 := NB102_101.out
    have hnc25 := NB101_102.out
    have hcz26_0 : wr.cell? ⟨gb102,0,none⟩ = some (.int .i64 0) := (blk_cell BK102.out 0).trans rfl
    have hcz26_1 : wr.cell? ⟨gb102,1,none⟩ = some (.int .i64 0) := (blk_cell BK102.out 1).trans rfl
    have hfz26_0 := blk_frozen BK102.out 0
    have hfz26_1 := blk_frozen BK102.out 1
    go_wp2
    refine bodyPost_ret (results_cell_row rfl _ _ gb102 25 #[.int .i64 a0_0,.int .i64 x104001_1] (0,0) _ rfl T32_ Try.underlying25 rfl T12_) rfl ?_
    exact ⟨by first | rfl | (simp [errW_none,errW_some] <;> rfl) | (simp [*,errW_none,errW_some] <;> rfl),by repeat (first | (with_reducible first | exact HB.out | apply below_alloc | apply pw_below_drewN | apply below_drew1 | refine below_set ?_ GE101.out | refine below_set ?_ GE102.out | refine below_set ?_ GE103.out) | exact HB.out)⟩
end Go.Proofs.Ytmmdcbdchifniaa.F
