/- Walks of Go functions and lemmas on what they compute, for the row of FnMatrices (a part of several): each call ends as the Lean function of its name tells; the conditions are those of each theorem. -/
import Derived.Test.YthlajlhjofjmcaaM1FnMatrices
import Derived.Test.YthlajlhjofjmcaaM2FnMatrices
import Derived.Test.YthlajlhjofjmcaaM3FnMatrices
import Derived.Test.YthlajlhjofjmcaaM4FnMatrices
namespace Go.Proofs.Ythlajlhjofjmcaa.F
open Go.RowKit Go.Proofs.YthlajlhjofjmcaaW.PrintWords Go.Proofs.YthlajlhjofjmcaaW.PrintLast Go.Proofs.YthlajlhjofjmcaaW.PrintMore
attribute [local go_sem] max2_int min2_int max_two min_two max_three min_three max_four min_four 
set_option linter.unusedVariables false
set_option linter.unusedSimpArgs false
mutual
def spec_IsFooling.j0 : Nat → Int → Int → List Int → Bool → Int → Int → Option (Bool)
 | 0,_,_,_,_,_,_ => none
 | k + 1,x1,x2,x3,x28,x102000,x102001 => if x28 = true then (some false) else (if 0 ≤ x1 then (spec_IsFooling.l0 k x2 x3 (wrap64 ((shl .i64 1 x1) - 1)) 0 x102000 x102001) else (none))
def spec_IsFooling.l0 : Nat → Int → List Int → Int → Int → Int → Int → Option (Bool)
 | 0,_,_,_,_,_,_ => none
 | k + 1,x2,x3,x9,x10,x102000,x102001 => if x10 < (x3.length : Int) then (if 0 ≤ x10 then (if 0 ≤ x102000 then ((spec_l1In.f (rd x3 x10) 0 (wrap64 ((shl .i64 1 x102000) - 1))).bind fun t106 => (if t106 = true then (if x10 > 0 then (if 0 ≤ (wrap64 (x10 - 1)) then (if (wrap64 (x10 - 1)) < (x3.length : Int) then (if (rd x3 x10) ≤ (rd x3 (wrap64 (x10 - 1))) then (spec_IsFooling.j2 k x2 x3 x9 x10 true x102000 x102001) else (if 0 ≤ (rd x3 x10) then (spec_IsFooling.j2 k x2 x3 x9 x10 ((Go.bits .and .i64 (shr .i64 x102001 (rd x3 x10)) 1) != x2) x102000 x102001) else (none))) else (none)) else (none)) else (if 0 ≤ (rd x3 x10) then (spec_IsFooling.j2 k x2 x3 x9 x10 ((Go.bits .and .i64 (shr .i64 x102001 (rd x3 x10)) 1) != x2) x102000 x102001) else (none))) else (spec_IsFooling.j2 k x2 x3 x9 x10 true x102000 x102001))) else (none)) else (none)) else (some true)
def spec_IsFooling.j2 : Nat → Int → List Int → Int → Int → Bool → Int → Int → Option (Bool)
 | 0,_,_,_,_,_,_,_ => none
 | k + 1,x2,x3,x9,x10,x75,x102000,x102001 => if x75 = true then (some false) else (spec_IsFooling.l1 k x2 x3 x9 x10 0 x102000 x102001)
def spec_IsFooling.l1 : Nat → Int → List Int → Int → Int → Int → Int → Int → Option (Bool)
 | 0,_,_,_,_,_,_,_ => none
 | k + 1,x2,x3,x9,x10,x11,x102000,x102001 => if x11 < x10 then (if 0 ≤ x10 then (if x10 < (x3.length : Int) then (if 0 ≤ x11 then (if x11 < (x3.length : Int) then (if 0 ≤ (wrap64 ((wrap64 ((Go.bits .and .i64 (rd x3 x10) x9) + (rd x3 x11))) - (Go.bits .and .i64 (rd x3 x11) x9))) then (if (Go.bits .and .i64 (shr .i64 x102001 (wrap64 ((wrap64 ((Go.bits .and .i64 (rd x3 x10) x9) + (rd x3 x11))) - (Go.bits .and .i64 (rd x3 x11) x9)))) 1) = x2 then (if 0 ≤ (wrap64 ((wrap64 ((Go.bits .and .i64 (rd x3 x11) x9) + (rd x3 x10))) - (Go.bits .and .i64 (rd x3 x10) x9))) then (if (Go.bits .and .i64 (shr .i64 x102001 (wrap64 ((wrap64 ((Go.bits .and .i64 (rd x3 x11) x9) + (rd x3 x10))) - (Go.bits .and .i64 (rd x3 x10) x9)))) 1) = x2 then (some false) else (spec_IsFooling.l1 k x2 x3 x9 x10 (wrap64 (x11 + 1)) x102000 x102001)) else (none)) else (spec_IsFooling.l1 k x2 x3 x9 x10 (wrap64 (x11 + 1)) x102000 x102001)) else (none)) else (none)) else (none)) else (none)) else (none)) else (spec_IsFooling.l0 k x2 x3 x9 (wrap64 (x10 + 1)) x102000 x102001)
end
def spec_IsFooling.f (k : Nat) (a0_0 : Int) (a0_1 : Int) (a1 : Int) (a2 : Int) (l3 : List Int) : Option (Bool) := (spec_IsTable.f a0_0 a0_1).bind fun t102 => (if t102 = true then ((spec_l1In.f a1 0 a0_0).bind fun t103 => (if t103 = true then ((spec_l1In.f a2 0 1).bind fun t104 => (spec_IsFooling.j0 k a1 a2 l3 (!t104) a0_0 a0_1)) else (spec_IsFooling.j0 k a1 a2 l3 true a0_0 a0_1))) else (spec_IsFooling.j0 k a1 a2 l3 true a0_0 a0_1))
def spec_IsFooling.T7 : Bool × List (List Nat × List Nat) := (true,[([],[]),([],[]),([0,1],[0,1]),([2],[2]),([],[]),([4],[4]),([5],[5]),([6],[6]),([3,7],[3,7]),([8],[8]),([9,8],[9]),([10],[10]),([11,10],[10,11]),([12,10,10],[10,12]),([13],[13]),([13],[13]),([14,15,13],[13,14,15]),([16,13],[13,16]),([13],[13]),([13],[13]),([19,13],[13,19]),([18,20,13],[13,18,20]),([21,13],[13,21]),([17,22,13],[13,17,22]),([13,23,10],[10,13,23]),([10,24],[10,24]),([25,13],[25]),([26],[26]),([27,26],[26,27]),([26],[26]),([26],[26]),([29,30,26],[26,29,30]),([31,26],[26,31]),([28,32,26],[26,28,32]),([33,26],[26,33]),([26],[26]),([34,35,26],[26,34,35]),([26,36],[26,36])])
def spec_IsFooling.B7 : List Nat := [0,0,3,7,0,16,48,112,255,511,1023,2047,4095,8191,16383,16383,65535,131071,16383,16383,540671,1851391,3948543,8388607,16777215,33554431,67108863,134217727,268435455,134217727,134217727,1744830463,3892314111,8589934591,17179869183,134217727,68719476735,137438953471]
theorem spec_IsFooling.tab7 : rtab .any (opsOf Try.f45 7) = spec_IsFooling.T7 := by kernel_rfl
theorem spec_IsFooling.bits7 : waitsOk spec_IsFooling.T7.2 spec_IsFooling.B7 = true := by kernel_rfl
def spec_IsFooling.T12 : Bool × List (List Nat × List Nat) := (true,[([],[]),([],[]),([0,1],[0,1]),([2],[2]),([],[]),([3,4],[3,4]),([],[]),([],[]),([6,7],[6,7]),([8],[8]),([5,9],[5,9]),([],[]),([],[]),([11,12],[11,12]),([13],[13]),([],[]),([14,15],[14,15]),([10,16],[10,16]),([17,0,1,2,3,4,5,6,7,8,9,10,11,12,13,14,15,16,17],[17])])
def spec_IsFooling.B12 : List Nat := [0,0,3,7,0,31,0,0,192,448,1023,0,0,6144,14336,0,63488,131071,262143]
theorem spec_IsFooling.tab12 : rtab .any (opsOf Try.f45 12) = spec_IsFooling.T12 := by kernel_rfl
theorem spec_IsFooling.bits12 : waitsOk spec_IsFooling.T12.2 spec_IsFooling.B12 = true := by kernel_rfl
def spec_IsFooling.T13 : Bool × List (List Nat × List Nat) := (true,[([],[]),([],[]),([0,1],[0,1]),([2],[2]),([],[]),([3,4],[3,4]),([],[]),([],[]),([6,7],[6,7]),([8],[8]),([5,9],[5,9]),([],[]),([],[]),([11,12],[11,12]),([13],[13]),([],[]),([14,15],[14,15]),([10,16],[10,16]),([17,0,1,2,3,4,5,6,7,8,9,10,11,12,13,14,15,16,17],[17])])
def spec_IsFooling.B13 : List Nat := [0,0,3,7,0,31,0,0,192,448,1023,0,0,6144,14336,0,63488,131071,262143]
theorem spec_IsFooling.tab13 : rtab .any (opsOf Try.f45 13) = spec_IsFooling.T13 := by kernel_rfl
theorem spec_IsFooling.bits13 : waitsOk spec_IsFooling.T13.2 spec_IsFooling.B13 = true := by kernel_rfl
set_option maxHeartbeats 8000000 in
set_option maxRecDepth 100000 in
theorem spec_IsFooling.calls (k : Nat) (a0_0 : Int) (a0_1 : Int) (a1 : Int) (a2 : Int) (A3 : Option Addr) (c3 : Nat) (l3 : List Int) (r : Bool) (w : World) (hr3 : Kd.C (Kd.int .i64) w A3 l3.length l3) (hc3 : l3.length ≤ c3) (h : spec_IsFooling.f k a0_0 a0_1 a1 a2 l3 = some r) :
  Calls Try.prog 45 #[.agg #[.int .i64 a0_0,.int .i64 a0_1],.int .i64 a1,.int .i64 a2,.slice A3 l3.length c3] w fun e w' => e = .returned (.bool r) ∧ Below w.heap.size w w' := by
 have hu25 := Try.underlying25
 have HR3 := aZ_ hr3
 have HC3 := aZ_ hc3
 clear hr3 hc3
 have HB := aZ_ (Below.refl w.heap.size w)
 have H : ((spec_IsTable.f a0_0 a0_1).bind fun t102 => (if t102 = true then ((spec_l1In.f a1 0 a0_0).bind fun t103 => (if t103 = true then ((spec_l1In.f a2 0 1).bind fun t104 => (spec_IsFooling.j0 k a1 a2 l3 (!t104) a0_0 a0_1)) else (spec_IsFooling.j0 k a1 a2 l3 true a0_0 a0_1))) else (spec_IsFooling.j0 k a1 a2 l3 true a0_0 a0_1))) = some r := h
 clear h
 have HC5 := aZ_ H
 clear H
 go_enter Try.func45,Try.ntmps45
 go_upto_region 1 with (first | ((with_reducible refine gate_dst (N := 4) rfl ?_);refine box_event ?hg (N := 4) ?hd (cs := #[.int .i64 a0_0,.int .i64 a0_1]) (t := 25) ?hr ?_;(case hd => rfl);(case hg => rfl);(case hr => first | (go_simp;done) | (go_simp;rfl));intro gb101 hg w6 hbox hb;have n0_ := aZ_ (below_step T5_ hb);have n1_ := aZ_ (hbox);have n2_ := aZ_ ((T2_ : w.heap.size ≤ gb101));have n3_ := aZ_ ((T2_ : w.heap.size ≤ gb101));clear HB;have HB := n0_;have BK101 := n1_;have GW101 := n2_;have GE101 := n3_;clear n0_ n1_ n2_ n3_;clear hb hbox hg))
 (try simp only [Act.put,List.setIfInBounds_toArray,List.set_cons_zero,List.set_cons_succ])
 go_cut [28] (fun v28 wc => ∃ (kq : Nat) (x28_4 : Bool),v28 = .bool x28_4 ∧ Aside0 (spec_IsFooling.j0 kq a1 a2 l3 x28_4 a0_0 a0_1 = some r) ∧ Aside0 (kq ≤ k) ∧ Aside0 (wc.heap[gb101]? = some (.cells #[.int .i64 a0_0,.int .i64 a0_1] 25 (0,0))) ∧ Aside0 (Below w.heap.size w wc))
 case first =>
  have H := HC5.out
  clear HC5
  replace H := Option.bind_eq_some_iff.mp H
  obtain ⟨t102,A70,H⟩ := H
  replace H : (if t102 = true then ((spec_l1In.f a1 0 a0_0).bind fun t103 => (if t103 = true then ((spec_l1In.f a2 0 1).bind fun t104 => (spec_IsFooling.j0 k a1 a2 l3 (!t104) a0_0 a0_1)) else (spec_IsFooling.j0 k a1 a2 l3 true a0_0 a0_1))) else (spec_IsFooling.j0 k a1 a2 l3 true a0_0 a0_1)) = some r := H
  have A7 := aZ_ A70
  clear A70
  by_cases c8 : t102 = true
  ·subst c8
   have H1 : ((spec_l1In.f a1 0 a0_0).bind fun t103 => (if t103 = true then ((spec_l1In.f a2 0 1).bind fun t104 => (spec_IsFooling.j0 k a1 a2 l3 (!t104) a0_0 a0_1)) else (spec_IsFooling.j0 k a1 a2 l3 true a0_0 a0_1))) = some r := by rw [if_pos rfl] at H;exact H
   clear H
   have H := H1
   clear H1
   replace H := Option.bind_eq_some_iff.mp H
   obtain ⟨t103,A90,H⟩ := H
   replace H : (if t103 = true then ((spec_l1In.f a2 0 1).bind fun t104 => (spec_IsFooling.j0 k a1 a2 l3 (!t104) a0_0 a0_1)) else (spec_IsFooling.j0 k a1 a2 l3 true a0_0 a0_1)) = some r := H
   have A9 := aZ_ A90
   clear A90
   by_cases c10 : t103 = true
   ·subst c10
    have H1 : ((spec_l1In.f a2 0 1).bind fun t104 => (spec_IsFooling.j0 k a1 a2 l3 (!t104) a0_0 a0_1)) = some r := by rw [if_pos rfl] at H;exact H
    clear H
    have H := H1
    clear H1
    replace H := Option.bind_eq_some_iff.mp H
    obtain ⟨t104,A110,H⟩ := H
    replace H : (spec_IsFooling.j0 k a1 a2 l3 (!t104) a0_0 a0_1) = some r := H
    have A11 := aZ_ A110
    clear A110
    have H' := aZ_ H
    clear H
    have hcz12_0 : w6.cell? ⟨gb101,0,none⟩ = some (.int .i64 a0_0) := (blk_cell BK101.out 0).trans rfl
    have hcz12_1 : w6.cell? ⟨gb101,1,none⟩ = some (.int .i64 a0_1) := (blk_cell BK101.out 1).trans rfl
    have hfz12_0 := blk_frozen BK101.out 0
    have hfz12_1 := blk_frozen BK101.out 1
    go_wp2_with (first | ((with_reducible refine gate_callee (f := 17) rfl ?_);refine goesL_ (some 15) rfl rfl Try.func17 T15_ rfl #[.agg #[.int .i64 a0_0,.int .i64 a0_1]] rfl T4_ ?_;(with_reducible refine (spec_IsTable.calls a0_0 a0_1 true _ A7.out).mono ?_);rintro e w13 ⟨rfl,hb⟩;refine ⟨_,rfl,?_⟩;have n0_ := aZ_ (blk_below (g := gb101) (o := .cells #[.int .i64 a0_0,.int .i64 a0_1] 25 (0,0)) T3_ hb);have n1_ := aZ_ (below_step T1_ hb);clear BK101;clear HB;have BK101 := n0_;have HB := n1_;clear n0_ n1_;(try clear hb);(try clear hb2);(try clear hk);(try clear hi);have hcz14_0 : w13.cell? ⟨gb101,0,none⟩ = some (.int .i64 a0_0) := (blk_cell BK101.out 0).trans rfl;have hcz14_1 : w13.cell? ⟨gb101,1,none⟩ = some (.int .i64 a0_1) := (blk_cell BK101.out 1).trans rfl;have hfz14_0 := blk_frozen BK101.out 0;have hfz14_1 := blk_frozen BK101.out 1) | (go_at_call 61;(with_reducible refine (spec_l1In.calls a1 0 a0_0 true _ A9.out).mono ?_);rintro e w' ⟨rfl,⟨nd,rfl⟩⟩) | (go_at_call 61;(with_reducible refine (spec_l1In.calls a2 0 1 t104 _ A11.out).mono ?_);rintro e w' ⟨rfl,⟨nd,rfl⟩⟩))
    go_meet
    case rel => exact ⟨_,(!t104),T10_,H',⟨by first | omega | exact Nat.le_refl _⟩,⟨by (with_reducible repeat (first | refine blk_drewN ?_ _ | refine blk_drew ?_ | refine blk_alloc ?_ _));exact BK101.out⟩,⟨by repeat (first | (with_reducible first | exact HB.out | apply below_alloc | apply pw_below_drewN | apply below_drew1 | refine below_set ?_ GE101.out) | exact HB.out)⟩⟩
   ·replace c10 := Bool.eq_false_iff.mpr c10
    subst c10
    have H1 : (spec_IsFooling.j0 k a1 a2 l3 true a0_0 a0_1) = some r := by rw [if_neg (show ¬ (false = true) by decide)] at H;exact H
    clear H
    have H := H1
    clear H1
    have H' := aZ_ H
    clear H
    have hcz15_0 : w6.cell? ⟨gb101,0,none⟩ = some (.int .i64 a0_0) := (blk_cell BK101.out 0).trans rfl
    have hcz15_1 : w6.cell? ⟨gb101,1,none⟩ = some (.int .i64 a0_1) := (blk_cell BK101.out 1).trans rfl
    have hfz15_0 := blk_frozen BK101.out 0
    have hfz15_1 := blk_frozen BK101.out 1
    go_wp2_with (first | ((with_reducible refine gate_callee (f := 17) rfl ?_);refine goesL_ (some 15) rfl rfl Try.func17 T15_ rfl #[.agg #[.int .i64 a0_0,.int .i64 a0_1]] rfl T4_ ?_;(with_reducible refine (spec_IsTable.calls a0_0 a0_1 true _ A7.out).mono ?_);rintro e w16 ⟨rfl,hb⟩;refine ⟨_,rfl,?_⟩;have n0_ := aZ_ (blk_below (g := gb101) (o := .cells #[.int .i64 a0_0,.int .i64 a0_1] 25 (0,0)) T3_ hb);have n1_ := aZ_ (below_step T1_ hb);clear BK101;clear HB;have BK101 := n0_;have HB := n1_;clear n0_ n1_;(try clear hb);(try clear hb2);(try clear hk);(try clear hi);have hcz17_0 : w16.cell? ⟨gb101,0,none⟩ = some (.int .i64 a0_0) := (blk_cell BK101.out 0).trans rfl;have hcz17_1 : w16.cell? ⟨gb101,1,none⟩ = some (.int .i64 a0_1) := (blk_cell BK101.out 1).trans rfl;have hfz17_0 := blk_frozen BK101.out 0;have hfz17_1 := blk_frozen BK101.out 1) | (go_at_call 61;(with_reducible refine (spec_l1In.calls a1 0 a0_0 false _ A9.out).mono ?_);rintro e w' ⟨rfl,⟨nd,rfl⟩⟩))
    go_meet
    case rel => exact ⟨_,(true),T10_,H',⟨by first | omega | exact Nat.le_refl _⟩,⟨by (with_reducible repeat (first | refine blk_drewN ?_ _ | refine blk_drew ?_ | refine blk_alloc ?_ _));exact BK101.out⟩,⟨by repeat (first | (with_reducible first | exact HB.out | apply below_alloc | apply pw_below_drewN | apply below_drew1 | refine below_set ?_ GE101.out) | exact HB.out)⟩⟩
  ·replace c8 := Bool.eq_false_iff.mpr c8
   subst c8
   have H1 : (spec_IsFooling.j0 k a1 a2 l3 true a0_0 a0_1) = some r := by rw [if_neg (show ¬ (false = true) by decide)] at H;exact H
   clear H
   have H := H1
   clear H1
   have H' := aZ_ H
   clear H
   have hcz18_0 : w6.cell? ⟨gb101,0,none⟩ = some (.int .i64 a0_0) := (blk_cell BK101.out 0).trans rfl
   have hcz18_1 : w6.cell? ⟨gb101,1,none⟩ = some (.int .i64 a0_1) := (blk_cell BK101.out 1).trans rfl
   have hfz18_0 := blk_frozen BK101.out 0
   have hfz18_1 := blk_frozen BK101.out 1
   go_wp2_with (first | ((with_reducible refine gate_callee (f := 17) rfl ?_);refine goesL_ (some 15) rfl rfl Try.func17 T15_ rfl #[.agg #[.int .i64 a0_0,.int .i64 a0_1]] rfl T4_ ?_;(with_reducible refine (spec_IsTable.calls a0_0 a0_1 false _ A7.out).mono ?_);rintro e w19 ⟨rfl,hb⟩;refine ⟨_,rfl,?_⟩;have n0_ := aZ_ (blk_below (g := gb101) (o := .cells #[.int .i64 a0_0,.int .i64 a0_1] 25 (0,0)) T3_ hb);have n1_ := aZ_ (below_step T1_ hb);clear BK101;clear HB;have BK101 := n0_;have HB := n1_;clear n0_ n1_;(try clear hb);(try clear hb2);(try clear hk);(try clear hi)))
   go_meet
   case rel => exact ⟨_,(true),T10_,H',⟨by first | omega | exact Nat.le_refl _⟩,⟨by (with_reducible repeat (first | refine blk_drewN ?_ _ | refine blk_drew ?_ | refine blk_alloc ?_ _));exact BK101.out⟩,⟨by repeat (first | (with_reducible first | exact HB.out | apply below_alloc | apply pw_below_drewN | apply below_drew1 | refine below_set ?_ GE101.out) | exact HB.out)⟩⟩
 case rest =>
  clear HC5
  try clear c1
  try clear p2
  try clear c3
  try clear c4
  try clear c8
  try clear c10
  try clear c17
  try clear hcz12_0
  try clear hcz12_1
  try clear hcz14_0
  try clear hcz14_1
  try clear hcz15_0
  try clear hcz15_1
  try clear hcz17_0
  try clear hcz17_1
  try clear hcz18_0
  try clear hcz18_1
  try clear hfz12_0
  try clear hfz12_1
  try clear hfz14_0
  try clear hfz14_1
  try clear hfz15_0
  try clear hfz15_1
  try clear hfz17_0
  try clear hfz17_1
  try clear hfz18_0
  try clear hfz18_1
  obtain ⟨kq,x28_4,rfl,HA,HJ4,BK101,HB⟩ := hcut
  cases kq with
  | zero => exact absurd HA.out (by simp [spec_IsFooling.j0])
  | succ kj4 =>
   have H := HA.out
   clear HA
   simp only [spec_IsFooling.j0] at H
   by_cases c20 : x28_4 = true
   ·subst c20
    have H1 : (some false) = some r := by rw [if_pos rfl] at H;exact H
    clear H
    have H := H1
    clear H1
    obtain rfl := Option.some.inj H
    go_wp2
    go_ret
    exact ⟨by first | rfl | (simp [errW_none,errW_some] <;> rfl) | (simp [*,errW_none,errW_some] <;> rfl),by repeat (first | (with_reducible first | exact HB.out | apply below_alloc | apply pw_below_drewN | apply below_drew1 | refine below_set ?_ GE101.out) | exact HB.out)⟩
   ·replace c20 := Bool.eq_false_iff.mpr c20
    subst c20
    have H1 : (if 0 ≤ a1 then (spec_IsFooling.l0 kj4 a2 l3 (wrap64 ((shl .i64 1 a1) - 1)) 0 a0_0 a0_1) else (none)) = some r := by rw [if_neg (show ¬ (false = true) by decide)] at H;exact H
    clear H
    have H := H1
    clear H1
    by_cases c21 : 0 ≤ a1
    ·rw [if_pos c21] at H
     have c21b0 := eq_true c21
     have c21b1 : decide (0 ≤ a1) = true := decide_eq_true c21
     clear c21
     obtain ⟨ji22,hji22⟩ : ∃ j_ : Int,(shl .i64 1 a1) = j_ := ⟨_,rfl⟩
     replace H : (spec_IsFooling.l0 kj4 a2 l3 (wrap64 ((ji22) - 1)) 0 a0_0 a0_1) = some r := by first | (rw [hji22] at H;exact H) | (simp only [hji22] at H ⊢;exact H)
     have hji22_ : (IntKind.i64.wrap (1 * 2 ^ min a1.toNat 64)) = ji22 := hji22
     have hji22z : a1 ≤ 64 → (IntKind.i64.wrap (1 * 2 ^ a1.toNat)) = ji22 := shl_small hji22
     have hji22u : (IntKind.i64.wrap (2 ^ min a1.toNat 64)) = ji22 := by have h_ := hji22_;rw [Int.one_mul] at h_;exact h_
     have hji22v : a1 ≤ 64 → (IntKind.i64.wrap (2 ^ a1.toNat)) = ji22 := fun hle_ => by have h_ := hji22z hle_;rw [Int.one_mul] at h_;exact h_
     have hji22y : (wrap64 (1 * 2 ^ min a1.toNat 64)) = ji22 := (i64_w _).symm.trans hji22_
     have hji22x : a1 ≤ 64 → (wrap64 (1 * 2 ^ a1.toNat)) = ji22 := fun h_ => (i64_w _).symm.trans (hji22z h_)
     have H' := aZ_ H
     clear H
     go_wp2
     go_loopg [10] kj4 (fun kq v10 w' => ∃ (x10_2 : Int),v10 = .int .i64 x10_2 ∧ Aside0 (spec_IsFooling.l0 kq a2 l3 (wrap64 ((ji22) - 1)) x10_2 a0_0 a0_1 = some r) ∧ Aside0 (kq ≤ kj4) ∧ Aside0 (w'.heap[gb101]? = some (.cells #[.int .i64 a0_0,.int .i64 a0_1] 25 (0,0))) ∧ Aside0 (Below w.heap.size w w'))
     case atStart => exact ⟨(0),T10_,H',⟨Nat.le_refl _⟩,⟨by (with_reducible repeat (first | refine blk_drewN ?_ _ | refine blk_drew ?_ | refine blk_alloc ?_ _));exact BK101.out⟩,⟨by repeat (first | (with_reducible first | exact HB.out | apply below_alloc | apply pw_below_drewN | apply below_drew1 | refine below_set ?_ GE101.out) | exact HB.out)⟩⟩
     case round =>
      clear H'
      try clear c1
      try clear c2
      try clear p2
      try clear c3
      try clear c4
      try clear p6
      try clear c8
      try clear c10
      try clear c17
      try clear c20
      try clear c21
      try clear c21b0
      try clear c21b1
      try clear hcz12_0
      try clear hcz12_1
      try clear hcz14_0
      try clear hcz14_1
      try clear hcz15_0
      try clear hcz15_1
      try clear hcz17_0
      try clear hcz17_1
      try clear hcz18_0
      try clear hcz18_1
      try clear hfz12_0
      try clear hfz12_1
      try clear hfz14_0
      try clear hfz14_1
      try clear hfz15_0
      try clear hfz15_1
      try clear hfz17_0
      try clear hfz17_1
      try clear hfz18_0
      try clear hfz18_1
      try clear p2
      obtain ⟨x10_2,rfl,HA,HK2,BK101,HB⟩ := hrel
      cases gk with
      | zero => exact absurd HA.out (by simp [spec_IsFooling.l0])
      | succ k2 =>
       have H := HA.out
       clear HA
       simp only [spec_IsFooling.l0] at H
       by_cases c23 : x10_2 < (l3.length : Int)
       ·rw [if_pos c23] at H
        have c23b0 : decide (x10_2 < (l3.length : Int)) = true := decide_eq_true c23
        clear c23
        have HC24 := aZ_ H
        clear H
        go_upto_region 7 with (fail)
        go_cut [75] (fun v75 wc => ∃ (kq : Nat) (x75_23 : Bool),v75 = .bool x75_23 ∧ Aside0 (spec_IsFooling.j2 kq a2 l3 (wrap64 ((ji22) - 1)) x10_2 x75_23 a0_0 a0_1 = some r) ∧ Aside0 (kq ≤ k2) ∧ Aside0 (wc.heap[gb101]? = some (.cells #[.int .i64 a0_0,.int .i64 a0_1] 25 (0,0))) ∧ Aside0 (Below w.heap.size w wc))
        case first =>
         have H := HC24.out
         clear HC24
         by_cases c25 : 0 ≤ x10_2
         ·rw [if_pos c25] at H
          have c25b0 : decide (0 ≤ x10_2) = true := decide_eq_true c25
          clear c25
          (first | rw [c25b0] | (simp only [i64_w,i32_w];rw [c25b0]) | skip)
          by_cases c26 : 0 ≤ a0_0
          ·rw [if_pos c26] at H
           have c26b0 := eq_true c26
           have c26b1 : decide (0 ≤ a0_0) = true := decide_eq_true c26
           clear c26
           obtain ⟨ji27,hji27⟩ : ∃ j_ : Int,(shl .i64 1 a0_0) = j_ := ⟨_,rfl⟩
           replace H : ((spec_l1In.f (rd l3 x10_2) 0 (wrap64 ((ji27) - 1))).bind fun t106 => (if t106 = true then (if x10_2 > 0 then (if 0 ≤ (wrap64 (x10_2 - 1)) then (if (wrap64 (x10_2 - 1)) < (l3.length : Int) then (if (rd l3 x10_2) ≤ (rd l3 (wrap64 (x10_2 - 1))) then (spec_IsFooling.j2 k2 a2 l3 (wrap64 ((ji22) - 1)) x10_2 true a0_0 a0_1) else (if 0 ≤ (rd l3 x10_2) then (spec_IsFooling.j2 k2 a2 l3 (wrap64 ((ji22) - 1)) x10_2 ((Go.bits .and .i64 (shr .i64 a0_1 (rd l3 x10_2)) 1) != a2) a0_0 a0_1) else (none))) else (none)) else (none)) else (if 0 ≤ (rd l3 x10_2) then (spec_IsFooling.j2 k2 a2 l3 (wrap64 ((ji22) - 1)) x10_2 ((Go.bits .and .i64 (shr .i64 a0_1 (rd l3 x10_2)) 1) != a2) a0_0 a0_1) else (none))) else (spec_IsFooling.j2 k2 a2 l3 (wrap64 ((ji22) - 1)) x10_2 true a0_0 a0_1))) = some r := by first | (rw [hji27] at H;exact H) | (simp only [hji27] at H ⊢;exact H)
           have hji27_ : (IntKind.i64.wrap (1 * 2 ^ min a0_0.toNat 64)) = ji27 := hji27
           have hji27z : a0_0 ≤ 64 → (IntKind.i64.wrap (1 * 2 ^ a0_0.toNat)) = ji27 := shl_small hji27
           have hji27u : (IntKind.i64.wrap (2 ^ min a0_0.toNat 64)) = ji27 := by have h_ := hji27_;rw [Int.one_mul] at h_;exact h_
           have hji27v : a0_0 ≤ 64 → (IntKind.i64.wrap (2 ^ a0_0.toNat)) = ji27 := fun hle_ => by have h_ := hji27z hle_;rw [Int.one_mul] at h_;exact h_
           have hji27y : (wrap64 (1 * 2 ^ min a0_0.toNat 64)) = ji27 := (i64_w _).symm.trans hji27_
           have hji27x : a0_0 ≤ 64 → (wrap64 (1 * 2 ^ a0_0.toNat)) = ji27 := fun h_ => (i64_w _).symm.trans (hji27z h_)
           replace H := Option.bind_eq_some_iff.mp H
           obtain ⟨t106,A280,H⟩ := H
           replace H : (if t106 = true then (if x10_2 > 0 then (if 0 ≤ (wrap64 (x10_2 - 1)) then (if (wrap64 (x10_2 - 1)) < (l3.length : Int) then (if (rd l3 x10_2) ≤ (rd l3 (wrap64 (x10_2 - 1))) then (spec_IsFooling.j2 k2 a2 l3 (wrap64 ((ji22) - 1)) x10_2 true a0_0 a0_1) else (if 0 ≤ (rd l3 x10_2) then (spec_IsFooling.j2 k2 a2 l3 (wrap64 ((ji22) - 1)) x10_2 ((Go.bits .and .i64 (shr .i64 a0_1 (rd l3 x10_2)) 1) != a2) a0_0 a0_1) else (none))) else (none)) else (none)) else (if 0 ≤ (rd l3 x10_2) then (spec_IsFooling.j2 k2 a2 l3 (wrap64 ((ji22) - 1)) x10_2 ((Go.bits .and .i64 (shr .i64 a0_1 (rd l3 x10_2)) 1) != a2) a0_0 a0_1) else (none))) else (spec_IsFooling.j2 k2 a2 l3 (wrap64 ((ji22) - 1)) x10_2 true a0_0 a0_1)) = some r := H
           have A28 := aZ_ A280
           clear A280
           by_cases c29 : t106 = true
           ·subst c29
            have H1 : (if x10_2 > 0 then (if 0 ≤ (wrap64 (x10_2 - 1)) then (if (wrap64 (x10_2 - 1)) < (l3.length : Int) then (if (rd l3 x10_2) ≤ (rd l3 (wrap64 (x10_2 - 1))) then (spec_IsFooling.j2 k2 a2 l3 (wrap64 ((ji22) - 1)) x10_2 true a0_0 a0_1) else (if 0 ≤ (rd l3 x10_2) then (spec_IsFooling.j2 k2 a2 l3 (wrap64 ((ji22) - 1)) x10_2 ((Go.bits .and .i64 (shr .i64 a0_1 (rd l3 x10_2)) 1) != a2) a0_0 a0_1) else (none))) else (none)) else (none)) else (if 0 ≤ (rd l3 x10_2) then (spec_IsFooling.j2 k2 a2 l3 (wrap64 ((ji22) - 1)) x10_2 ((Go.bits .and .i64 (shr .i64 a0_1 (rd l3 x10_2)) 1) != a2) a0_0 a0_1) else (none))) = some r := by rw [if_pos rfl] at H;exact H
            clear H
            have H := H1
            clear H1
            by_cases c30 : x10_2 > 0
            ·rw [if_pos c30] at H
             have c30b0 : decide (0 < x10_2) = true := decide_eq_true c30
             clear c30
             obtain ⟨ji31,hji31⟩ : ∃ j_ : Int,(wrap64 (x10_2 - 1)) = j_ := ⟨_,rfl⟩
             replace H : (if 0 ≤ (ji31) then (if (ji31) < (l3.length : Int) then (if (rd l3 x10_2) ≤ (rd l3 (ji31)) then (spec_IsFooling.j2 k2 a2 l3 (wrap64 ((ji22) - 1)) x10_2 true a0_0 a0_1) else (if 0 ≤ (rd l3 x10_2) then (spec_IsFooling.j2 k2 a2 l3 (wrap64 ((ji22) - 1)) x10_2 ((Go.bits .and .i64 (shr .i64 a0_1 (rd l3 x10_2)) 1) != a2) a0_0 a0_1) else (none))) else (none)) else (none)) = some r := by first | (rw [hji31] at H;exact H) | (simp only [hji31] at H ⊢;exact H)
             (try rw [hji31] at A28)
             have hji31w : (IntKind.i64.wrap (x10_2 - 1)) = ji31 := (i64_w _).trans hji31
             by_cases c32 : 0 ≤ (ji31)
             ·rw [if_pos c32] at H
              have c32b0 : decide (0 ≤ (ji31)) = true := decide_eq_true c32
              clear c32
              by_cases c33 : (ji31) < (l3.length : Int)
              ·rw [if_pos c33] at H
               have c33b0 : decide ((ji31) < (l3.length : Int)) = true := decide_eq_true c33
               clear c33
               by_cases c34 : (rd l3 x10_2) ≤ (rd l3 (ji31))
               ·rw [if_pos c34] at H
                have c34b0 : decide ((rd l3 x10_2) ≤ (rd l3 (ji31))) = true := decide_eq_true c34
                clear c34
                have H' := aZ_ H
                clear H
                try go_wp2
                have n0_ := aZ_ (blk_drew BK101.out)
                have n1_ := aZ_ (below_drew1 HB.out)
                clear BK101
                clear HB
                have BK101 := n0_
                have HB := n1_
                clear n0_ n1_
                have p105 : 0 ≤ (x10_2 : Int) := of_decide_eq_true T6_
                have q105 : x10_2 < (l3.length : Int) := of_decide_eq_true T6_
                obtain ⟨ad105,e105,hx105_0⟩ := Kd.at_int HR3.out x10_2 p105 q105
                have hw105_0 := hx105_0
                cases e105
                replace hx105_0 := (HB.out.cell (World.block_lt_of_cell? w _ hx105_0)).trans hx105_0
                replace p105 := eq_true p105
                replace q105 := eq_true q105
                have p107 : 0 ≤ (x10_2 : Int) := of_decide_eq_true T6_
                have q107 : x10_2 < (l3.length : Int) := of_decide_eq_true T6_
                obtain ⟨ad107,e107,hx107_0⟩ := Kd.at_int HR3.out x10_2 p107 q107
                have hw107_0 := hx107_0
                obtain rfl : ad105 = ad107 := (by injection e107)
                replace hx107_0 := (HB.out.cell (World.block_lt_of_cell? w _ hx107_0)).trans hx107_0
                replace p107 := eq_true p107
                replace q107 := eq_true q107
                have p108 : 0 ≤ ((ji31) : Int) := of_decide_eq_true T6_
                have q108 : (ji31) < (l3.length : Int) := of_decide_eq_true T6_
                obtain ⟨ad108,e108,hx108_0⟩ := Kd.at_int HR3.out (ji31) p108 q108
                have hw108_0 := hx108_0
                obtain rfl : ad105 = ad108 := (by injection e108)
                replace hx108_0 := (HB.out.cell (World.block_lt_of_cell? w _ hx108_0)).trans hx108_0
                replace p108 := eq_true p108
                replace q108 := eq_true q108
                refine start_ (n := 38) (S := fun w' => w'.cell? ⟨gb101,0,none⟩ = some (.int .i64 a0_0) ∧ w'.cell? ⟨gb101,1,none⟩ = some (.int .i64 a0_1) ∧ w'.cell? (ad105.add (x10_2).toNat) = some (.int .i64 (rd l3 x10_2)) ∧ w'.cell? (ad105.add (x10_2).toNat) = some (.int .i64 (rd l3 x10_2)) ∧ w'.cell? (ad105.add ((ji31)).toNat) = some (.int .i64 (rd l3 (ji31)))) (ds := []) #[false,false,false,false,false,false,false,false,false,false,false,false,false,false,false,false,false,false,false,false,false,false,false,false,false,false,false,false,false,false,false,false,false,false,false,false,false,false] T15_ rfl rfl ⟨(blk_cell BK101.out 0).trans rfl,(blk_cell BK101.out 1).trans rfl,((HB.out.cell (World.block_lt_of_cell? w _ hw105_0)).trans hw105_0),((HB.out.cell (World.block_lt_of_cell? w _ hw107_0)).trans hw107_0),((HB.out.cell (World.block_lt_of_cell? w _ hw108_0)).trans hw108_0)⟩ (fun hHeld => ?_);refine with_tabW spec_IsFooling.tab7 spec_IsFooling.bits7 (fun HT_ HW_ => ?_)
                generalize wr.drew = w35 at BK101 HB hx105_0 hx107_0 hx108_0 hHeld ⊢
                refine pZ_ 0 (some 38) #[true,false,false,false,false,false,false,false,false,false,false,false,false,false,false,false,false,false,false,false,false,false,false,false,false,false,false,false,false,false,false,false,false,false,false,false,false,false] ?_
                refine pZ_ 1 (some 39) #[true,true,false,false,false,false,false,false,false,false,false,false,false,false,false,false,false,false,false,false,false,false,false,false,false,false,false,false,false,false,false,false,false,false,false,false,false,false] ?_
                refine pZ_ 2 (some 40) #[true,true,true,false,false,false,false,false,false,false,false,false,false,false,false,false,false,false,false,false,false,false,false,false,false,false,false,false,false,false,false,false,false,false,false,false,false,false] ?_
                refine pZ_ 4 (some 42) #[true,true,true,false,true,false,false,false,false,false,false,false,false,false,false,false,false,false,false,false,false,false,false,false,false,false,false,false,false,false,false,false,false,false,false,false,false,false] ?_
                refine tZ5_ 3 (some 41) #[true,true,true,true,true,false,false,false,false,false,false,false,false,false,false,false,false,false,false,false,false,false,false,false,false,false,false,false,false,false,false,false,false,false,false,false,false,false] hHeld ?_
                refine tZ5_ 5 (some 43) #[true,true,true,true,true,true,false,false,false,false,false,false,false,false,false,false,false,false,false,false,false,false,false,false,false,false,false,false,false,false,false,false,false,false,false,false,false,false] hHeld ?_
                refine pZ_ 6 (some 44) #[true,true,true,true,true,true,true,false,false,false,false,false,false,false,false,false,false,false,false,false,false,false,false,false,false,false,false,false,false,false,false,false,false,false,false,false,false,false] ?_
                refine pZ_ 7 (some 45) #[true,true,true,true,true,true,true,true,false,false,false,false,false,false,false,false,false,false,false,false,false,false,false,false,false,false,false,false,false,false,false,false,false,false,false,false,false,false] ?_
                refine one_ (i := 8) (N := some 46) #[true,true,true,true,true,true,true,true,true,false,false,false,false,false,false,false,false,false,false,false,false,false,false,false,false,false,false,false,false,false,false,false,false,false,false,false,false,false] rfl rfl (one_of HT_.out T15_) T48_ (fun K hK => ?_)
                refine goes_ Try.func61 T15_ rfl #[.int .i64 (rd l3 x10_2),.int .i64 0,.int .i64 (wrap64 ((ji27) - 1))] (by rfl) rfl rfl T51_ ?_
                with_reducible refine (spec_l1In.calls (rd l3 x10_2) 0 (wrap64 ((ji27) - 1)) true _ A28.out).mono ?_
                rintro e w' ⟨rfl,⟨nd,rfl⟩⟩
                refine ⟨_,rfl,?_⟩
                refine hK.out _ _ ⟨(blk_cell BK101.out 0).trans rfl,(blk_cell BK101.out 1).trans rfl,((HB.out.cell (World.block_lt_of_cell? w _ hw105_0)).trans hw105_0),((HB.out.cell (World.block_lt_of_cell? w _ hw107_0)).trans hw107_0),((HB.out.cell (World.block_lt_of_cell? w _ hw108_0)).trans hw108_0)⟩ (fun hHeld => ?_)
                clear hK K
                refine norm_ (a' := ?_) ?_ ?_
                rotate_left
                ·show Act.put _ (some 46) _ = _
                 simp only [Act.put,List.setIfInBounds_toArray,List.set_cons_zero,List.set_cons_succ,i64_w,i32_w]
                 rfl
                refine pZ_ 9 (some 47) #[true,true,true,true,true,true,true,true,true,true,false,false,false,false,false,false,false,false,false,false,false,false,false,false,false,false,false,false,false,false,false,false,false,false,false,false,false,false] ?_
                refine pZ_ 10 (some 48) #[true,true,true,true,true,true,true,true,true,true,true,false,false,false,false,false,false,false,false,false,false,false,false,false,false,false,false,false,false,false,false,false,false,false,false,false,false,false] ?_
                refine pZ_ 11 (some 49) #[true,true,true,true,true,true,true,true,true,true,true,true,false,false,false,false,false,false,false,false,false,false,false,false,false,false,false,false,false,false,false,false,false,false,false,false,false,false] ?_
                refine pZ_ 12 (some 50) #[true,true,true,true,true,true,true,true,true,true,true,true,true,false,false,false,false,false,false,false,false,false,false,false,false,false,false,false,false,false,false,false,false,false,false,false,false,false] ?_
                refine pZ_ 13 (some 51) #[true,true,true,true,true,true,true,true,true,true,true,true,true,true,false,false,false,false,false,false,false,false,false,false,false,false,false,false,false,false,false,false,false,false,false,false,false,false] ?_
                refine pZ_ 14 (some 52) #[true,true,true,true,true,true,true,true,true,true,true,true,true,true,true,false,false,false,false,false,false,false,false,false,false,false,false,false,false,false,false,false,false,false,false,false,false,false] ?_
                refine pZ_ 15 (some 53) #[true,true,true,true,true,true,true,true,true,true,true,true,true,true,true,true,false,false,false,false,false,false,false,false,false,false,false,false,false,false,false,false,false,false,false,false,false,false] ?_
                refine pZ_ 16 (some 54) #[true,true,true,true,true,true,true,true,true,true,true,true,true,true,true,true,true,false,false,false,false,false,false,false,false,false,false,false,false,false,false,false,false,false,false,false,false,false] ?_
                refine pZ_ 18 (some 56) #[true,true,true,true,true,true,true,true,true,true,true,true,true,true,true,true,true,false,true,false,false,false,false,false,false,false,false,false,false,false,false,false,false,false,false,false,false,false] ?_
                refine pZ_ 19 (some 57) #[true,true,true,true,true,true,true,true,true,true,true,true,true,true,true,true,true,false,true,true,false,false,false,false,false,false,false,false,false,false,false,false,false,false,false,false,false,false] ?_
                refine pZ_ 20 (some 58) #[true,true,true,true,true,true,true,true,true,true,true,true,true,true,true,true,true,false,true,true,true,false,false,false,false,false,false,false,false,false,false,false,false,false,false,false,false,false] ?_
                refine pZ_ 21 (some 59) #[true,true,true,true,true,true,true,true,true,true,true,true,true,true,true,true,true,false,true,true,true,true,false,false,false,false,false,false,false,false,false,false,false,false,false,false,false,false] ?_
                refine tZ5_ 17 (some 55) #[true,true,true,true,true,true,true,true,true,true,true,true,true,true,true,true,true,true,true,true,true,true,false,false,false,false,false,false,false,false,false,false,false,false,false,false,false,false] hHeld ?_
                refine tZ5_ 22 (some 60) #[true,true,true,true,true,true,true,true,true,true,true,true,true,true,true,true,true,true,true,true,true,true,true,false,false,false,false,false,false,false,false,false,false,false,false,false,false,false] hHeld ?_
                refine pZ_ 23 (some 61) #[true,true,true,true,true,true,true,true,true,true,true,true,true,true,true,true,true,true,true,true,true,true,true,true,false,false,false,false,false,false,false,false,false,false,false,false,false,false] ?_
                refine pZ_ 24 (some 62) #[true,true,true,true,true,true,true,true,true,true,true,true,true,true,true,true,true,true,true,true,true,true,true,true,true,false,false,false,false,false,false,false,false,false,false,false,false,false] ?_
                refine pZ_ 25 (some 63) #[true,true,true,true,true,true,true,true,true,true,true,true,true,true,true,true,true,true,true,true,true,true,true,true,true,true,false,false,false,false,false,false,false,false,false,false,false,false] ?_
                refine pZ_ 26 (some 64) #[true,true,true,true,true,true,true,true,true,true,true,true,true,true,true,true,true,true,true,true,true,true,true,true,true,true,true,false,false,false,false,false,false,false,false,false,false,false] ?_
                refine oZ_ 27 (some 65) #[true,true,true,true,true,true,true,true,true,true,true,true,true,true,true,true,true,true,true,true,true,true,true,true,true,true,true,true,false,false,false,false,false,false,false,false,false,false] ?_
                refine oZ_ 28 (some 66) #[true,true,true,true,true,true,true,true,true,true,true,true,true,true,true,true,true,true,true,true,true,true,true,true,true,true,true,true,true,false,false,false,false,false,false,false,false,false] ?_
                refine oZ_ 29 (some 67) #[true,true,true,true,true,true,true,true,true,true,true,true,true,true,true,true,true,true,true,true,true,true,true,true,true,true,true,true,true,true,false,false,false,false,false,false,false,false] ?_
                refine oZ_ 30 (some 68) #[true,true,true,true,true,true,true,true,true,true,true,true,true,true,true,true,true,true,true,true,true,true,true,true,true,true,true,true,true,true,true,false,false,false,false,false,false,false] ?_
                refine oZ_ 31 (some 69) #[true,true,true,true,true,true,true,true,true,true,true,true,true,true,true,true,true,true,true,true,true,true,true,true,true,true,true,true,true,true,true,true,false,false,false,false,false,false] ?_
                refine oZ_ 32 (some 70) #[true,true,true,true,true,true,true,true,true,true,true,true,true,true,true,true,true,true,true,true,true,true,true,true,true,true,true,true,true,true,true,true,true,false,false,false,false,false] ?_
                refine oZ_ 33 (some 71) #[true,true,true,true,true,true,true,true,true,true,true,true,true,true,true,true,true,true,true,true,true,true,true,true,true,true,true,true,true,true,true,true,true,true,false,false,false,false] ?_
                refine oZ_ 34 (some 72) #[true,true,true,true,true,true,true,true,true,true,true,true,true,true,true,true,true,true,true,true,true,true,true,true,true,true,true,true,true,true,true,true,true,true,true,false,false,false] ?_
                refine oZ_ 35 (some 73) #[true,true,true,true,true,true,true,true,true,true,true,true,true,true,true,true,true,true,true,true,true,true,true,true,true,true,true,true,true,true,true,true,true,true,true,true,false,false] ?_
                refine oZ_ 36 (some 74) #[true,true,true,true,true,true,true,true,true,true,true,true,true,true,true,true,true,true,true,true,true,true,true,true,true,true,true,true,true,true,true,true,true,true,true,true,true,false] ?_
                refine pZ_ 37 (some 75) #[true,true,true,true,true,true,true,true,true,true,true,true,true,true,true,true,true,true,true,true,true,true,true,true,true,true,true,true,true,true,true,true,true,true,true,true,true,true] ?_
                refine done_ (done_of HT_.out T15_) ?_
                try go_wp2
                go_meet
                case rel => exact ⟨_,(true),T10_,H',⟨by have := HJ4.out;have := HK2.out;first | omega | exact Nat.le_refl _⟩,⟨by (with_reducible repeat (first | refine blk_drewN ?_ _ | refine blk_drew ?_ | refine blk_alloc ?_ _));exact BK101.out⟩,⟨by repeat (first | (with_reducible first | exact HB.out | apply below_alloc | apply pw_below_drewN | apply below_drew1 | refine below_set ?_ GE101.out) | exact HB.out)⟩⟩
               ·rw [if_neg c34] at H
                have c34b0 : decide ((rd l3 x10_2) ≤ (rd l3 (ji31))) = false := decide_eq_false c34
                clear c34
                by_cases c36 : 0 ≤ (rd l3 x10_2)
                ·rw [if_pos c36] at H
                 have c36b0 := eq_true c36
                 have c36b1 : decide (0 ≤ (rd l3 x10_2)) = true := decide_eq_true c36
                 clear c36
                 obtain ⟨ji37,hji37⟩ : ∃ j_ : Int,(shr .i64 a0_1 (rd l3 x10_2)) = j_ := ⟨_,rfl⟩
                 replace H : (spec_IsFooling.j2 k2 a2 l3 (wrap64 ((ji22) - 1)) x10_2 ((Go.bits .and .i64 (ji37) 1) != a2) a0_0 a0_1) = some r := by first | (rw [hji37] at H;exact H) | (simp only [hji37] at H ⊢;exact H)
                 (try rw [hji37] at A28)
                 have hji37_ : (a0_1 / 2 ^ min (rd l3 x10_2).toNat 64) = ji37 := hji37
                 have hji37z : (rd l3 x10_2) ≤ 64 → (a0_1 / 2 ^ (rd l3 x10_2).toNat) = ji37 := shr_small hji37
                 have H' := aZ_ H
                 clear H
                 try go_wp2
                 have n0_ := aZ_ (blk_drew BK101.out)
                 have n1_ := aZ_ (below_drew1 HB.out)
                 clear BK101
                 clear HB
                 have BK101 := n0_
                 have HB := n1_
                 clear n0_ n1_
                 have p105 : 0 ≤ (x10_2 : Int) := of_decide_eq_true T6_
                 have q105 : x10_2 < (l3.length : Int) := of_decide_eq_true T6_
                 obtain ⟨ad105,e105,hx105_0⟩ := Kd.at_int HR3.out x10_2 p105 q105
                 have hw105_0 := hx105_0
                 cases e105
                 replace hx105_0 := (HB.out.cell (World.block_lt_of_cell? w _ hx105_0)).trans hx105_0
                 replace p105 := eq_true p105
                 replace q105 := eq_true q105
                 have p107 : 0 ≤ (x10_2 : Int) := of_decide_eq_true T6_
                 have q107 : x10_2 < (l3.length : Int) := of_decide_eq_true T6_
                 obtain ⟨ad107,e107,hx107_0⟩ := Kd.at_int HR3.out x10_2 p107 q107
                 have hw107_0 := hx107_0
                 obtain rfl : ad105 = ad107 := (by injection e107)
                 replace hx107_0 := (HB.out.cell (World.block_lt_of_cell? w _ hx107_0)).trans hx107_0
                 replace p107 := eq_true p107
                 replace q107 := eq_true q107
                 have p108 : 0 ≤ ((ji31) : Int) := of_decide_eq_true T6_
                 have q108 : (ji31) < (l3.length : Int) := of_decide_eq_true T6_
                 obtain ⟨ad108,e108,hx108_0⟩ := Kd.at_int HR3.out (ji31) p108 q108
                 have hw108_0 := hx108_0
                 obtain rfl : ad105 = ad108 := (by injection e108)
                 replace hx108_0 := (HB.out.cell (World.block_lt_of_cell? w _ hx108_0)).trans hx108_0
                 replace p108 := eq_true p108
                 replace q108 := eq_true q108
                 have p109 : 0 ≤ (x10_2 : Int) := of_decide_eq_true T6_
                 have q109 : x10_2 < (l3.length : Int) := of_decide_eq_true T6_
                 obtain ⟨ad109,e109,hx109_0⟩ := Kd.at_int HR3.out x10_2 p109 q109
                 have hw109_0 := hx109_0
                 obtain rfl : ad105 = ad109 := (by injection e109)
                 replace hx109_0 := (HB.out.cell (World.block_lt_of_cell? w _ hx109_0)).trans hx109_0
                 replace p109 := eq_true p109
                 replace q109 := eq_true q109
                 refine start_ (n := 38) (S := fun w' => w'.cell? ⟨gb101,0,none⟩ = some (.int .i64 a0_0) ∧ w'.cell? ⟨gb101,1,none⟩ = some (.int .i64 a0_1) ∧ w'.cell? (ad105.add (x10_2).toNat) = some (.int .i64 (rd l3 x10_2)) ∧ w'.cell? (ad105.add (x10_2).toNat) = some (.int .i64 (rd l3 x10_2)) ∧ w'.cell? (ad105.add ((ji31)).toNat) = some (.int .i64 (rd l3 (ji31))) ∧ w'.cell? (ad105.add (x10_2).toNat) = some (.int .i64 (rd l3 x10_2))) (ds := []) #[false,false,false,false,false,false,false,false,false,false,false,false,false,false,false,false,false,false,false,false,false,false,false,false,false,false,false,false,false,false,false,false,false,false,false,false,false,false] T15_ rfl rfl ⟨(blk_cell BK101.out 0).trans rfl,(blk_cell BK101.out 1).trans rfl,((HB.out.cell (World.block_lt_of_cell? w _ hw105_0)).trans hw105_0),((HB.out.cell (World.block_lt_of_cell? w _ hw107_0)).trans hw107_0),((HB.out.cell (World.block_lt_of_cell? w _ hw108_0)).trans hw108_0),((HB.out.cell (World.block_lt_of_cell? w _ hw109_0)).trans hw109_0)⟩ (fun hHeld => ?_);refine with_tabW spec_IsFooling.tab7 spec_IsFooling.bits7 (fun HT_ HW_ => ?_)
                 generalize wr.drew = w38 at BK101 HB hx105_0 hx107_0 hx108_0 hx109_0 hHeld ⊢
                 refine pZ_ 0 (some 38) #[true,false,false,false,false,false,false,false,false,false,false,false,false,false,false,false,false,false,false,false,false,false,false,false,false,false,false,false,false,false,false,false,false,false,false,false,false,false] ?_
                 refine pZ_ 1 (some 39) #[true,true,false,false,false,false,false,false,false,false,false,false,false,false,false,false,false,false,false,false,false,false,false,false,false,false,false,false,false,false,false,false,false,false,false,false,false,false] ?_
                 refine pZ_ 2 (some 40) #[true,true,true,false,false,false,false,false,false,false,false,false,false,false,false,false,false,false,false,false,false,false,false,false,false,false,false,false,false,false,false,false,false,false,false,false,false,false] ?_
                 refine pZ_ 4 (some 42) #[true,true,true,false,true,false,false,false,false,false,false,false,false,false,false,false,false,false,false,false,false,false,false,false,false,false,false,false,false,false,false,false,false,false,false,false,false,false] ?_
                 refine tZ6_ 3 (some 41) #[true,true,true,true,true,false,false,false,false,false,false,false,false,false,false,false,false,false,false,false,false,false,false,false,false,false,false,false,false,false,false,false,false,false,false,false,false,false] hHeld ?_
                 refine tZ6_ 5 (some 43) #[true,true,true,true,true,true,false,false,false,false,false,false,false,false,false,false,false,false,false,false,false,false,false,false,false,false,false,false,false,false,false,false,false,false,false,false,false,false] hHeld ?_
                 refine pZ_ 6 (some 44) #[true,true,true,true,true,true,true,false,false,false,false,false,false,false,false,false,false,false,false,false,false,false,false,false,false,false,false,false,false,false,false,false,false,false,false,false,false,false] ?_
                 refine pZ_ 7 (some 45) #[true,true,true,true,true,true,true,true,false,false,false,false,false,false,false,false,false,false,false,false,false,false,false,false,false,false,false,false,false,false,false,false,false,false,false,false,false,false] ?_
                 refine one_ (i := 8) (N := some 46) #[true,true,true,true,true,true,true,true,true,false,false,false,false,false,false,false,false,false,false,false,false,false,false,false,false,false,false,false,false,false,false,false,false,false,false,false,false,false] rfl rfl (one_of HT_.out T15_) T48_ (fun K hK => ?_)
                 refine goes_ Try.func61 T15_ rfl #[.int .i64 (rd l3 x10_2),.int .i64 0,.int .i64 (wrap64 ((ji27) - 1))] (by rfl) rfl rfl T51_ ?_
                 with_reducible refine (spec_l1In.calls (rd l3 x10_2) 0 (wrap64 ((ji27) - 1)) true _ A28.out).mono ?_
                 rintro e w' ⟨rfl,⟨nd,rfl⟩⟩
                 refine ⟨_,rfl,?_⟩
                 refine hK.out _ _ ⟨(blk_cell BK101.out 0).trans rfl,(blk_cell BK101.out 1).trans rfl,((HB.out.cell (World.block_lt_of_cell? w _ hw105_0)).trans hw105_0),((HB.out.cell (World.block_lt_of_cell? w _ hw107_0)).trans hw107_0),((HB.out.cell (World.block_lt_of_cell? w _ hw108_0)).trans hw108_0),((HB.out.cell (World.block_lt_of_cell? w _ hw109_0)).trans hw109_0)⟩ (fun hHeld => ?_)
                 clear hK K
                 refine norm_ (a' := ?_) ?_ ?_
                 rotate_left
                 ·show Act.put _ (some 46) _ = _
                  simp only [Act.put,List.setIfInBounds_toArray,List.set_cons_zero,List.set_cons_succ,i64_w,i32_w]
                  rfl
                 refine pZ_ 9 (some 47) #[true,true,true,true,true,true,true,true,true,true,false,false,false,false,false,false,false,false,false,false,false,false,false,false,false,false,false,false,false,false,false,false,false,false,false,false,false,false] ?_
                 refine pZ_ 10 (some 48) #[true,true,true,true,true,true,true,true,true,true,true,false,false,false,false,false,false,false,false,false,false,false,false,false,false,false,false,false,false,false,false,false,false,false,false,false,false,false] ?_
                 refine pZ_ 11 (some 49) #[true,true,true,true,true,true,true,true,true,true,true,true,false,false,false,false,false,false,false,false,false,false,false,false,false,false,false,false,false,false,false,false,false,false,false,false,false,false] ?_
                 refine pZ_ 12 (some 50) #[true,true,true,true,true,true,true,true,true,true,true,true,true,false,false,false,false,false,false,false,false,false,false,false,false,false,false,false,false,false,false,false,false,false,false,false,false,false] ?_
                 refine pZ_ 13 (some 51) #[true,true,true,true,true,true,true,true,true,true,true,true,true,true,false,false,false,false,false,false,false,false,false,false,false,false,false,false,false,false,false,false,false,false,false,false,false,false] ?_
                 refine pZ_ 14 (some 52) #[true,true,true,true,true,true,true,true,true,true,true,true,true,true,true,false,false,false,false,false,false,false,false,false,false,false,false,false,false,false,false,false,false,false,false,false,false,false] ?_
                 refine pZ_ 15 (some 53) #[true,true,true,true,true,true,true,true,true,true,true,true,true,true,true,true,false,false,false,false,false,false,false,false,false,false,false,false,false,false,false,false,false,false,false,false,false,false] ?_
                 refine pZ_ 16 (some 54) #[true,true,true,true,true,true,true,true,true,true,true,true,true,true,true,true,true,false,false,false,false,false,false,false,false,false,false,false,false,false,false,false,false,false,false,false,false,false] ?_
                 refine pZ_ 18 (some 56) #[true,true,true,true,true,true,true,true,true,true,true,true,true,true,true,true,true,false,true,false,false,false,false,false,false,false,false,false,false,false,false,false,false,false,false,false,false,false] ?_
                 refine pZ_ 19 (some 57) #[true,true,true,true,true,true,true,true,true,true,true,true,true,true,true,true,true,false,true,true,false,false,false,false,false,false,false,false,false,false,false,false,false,false,false,false,false,false] ?_
                 refine pZ_ 20 (some 58) #[true,true,true,true,true,true,true,true,true,true,true,true,true,true,true,true,true,false,true,true,true,false,false,false,false,false,false,false,false,false,false,false,false,false,false,false,false,false] ?_
                 refine pZ_ 21 (some 59) #[true,true,true,true,true,true,true,true,true,true,true,true,true,true,true,true,true,false,true,true,true,true,false,false,false,false,false,false,false,false,false,false,false,false,false,false,false,false] ?_
                 refine tZ6_ 17 (some 55) #[true,true,true,true,true,true,true,true,true,true,true,true,true,true,true,true,true,true,true,true,true,true,false,false,false,false,false,false,false,false,false,false,false,false,false,false,false,false] hHeld ?_
                 refine tZ6_ 22 (some 60) #[true,true,true,true,true,true,true,true,true,true,true,true,true,true,true,true,true,true,true,true,true,true,true,false,false,false,false,false,false,false,false,false,false,false,false,false,false,false] hHeld ?_
                 refine pZ_ 23 (some 61) #[true,true,true,true,true,true,true,true,true,true,true,true,true,true,true,true,true,true,true,true,true,true,true,true,false,false,false,false,false,false,false,false,false,false,false,false,false,false] ?_
                 refine pZ_ 24 (some 62) #[true,true,true,true,true,true,true,true,true,true,true,true,true,true,true,true,true,true,true,true,true,true,true,true,true,false,false,false,false,false,false,false,false,false,false,false,false,false] ?_
                 refine pZ_ 25 (some 63) #[true,true,true,true,true,true,true,true,true,true,true,true,true,true,true,true,true,true,true,true,true,true,true,true,true,true,false,false,false,false,false,false,false,false,false,false,false,false] ?_
                 refine pZ_ 26 (some 64) #[true,true,true,true,true,true,true,true,true,true,true,true,true,true,true,true,true,true,true,true,true,true,true,true,true,true,true,false,false,false,false,false,false,false,false,false,false,false] ?_
                 refine pZ_ 27 (some 65) #[true,true,true,true,true,true,true,true,true,true,true,true,true,true,true,true,true,true,true,true,true,true,true,true,true,true,true,true,false,false,false,false,false,false,false,false,false,false] ?_
                 refine pZ_ 29 (some 67) #[true,true,true,true,true,true,true,true,true,true,true,true,true,true,true,true,true,true,true,true,true,true,true,true,true,true,true,true,false,true,false,false,false,false,false,false,false,false] ?_
                 refine pZ_ 30 (some 68) #[true,true,true,true,true,true,true,true,true,true,true,true,true,true,true,true,true,true,true,true,true,true,true,true,true,true,true,true,false,true,true,false,false,false,false,false,false,false] ?_
                 refine pZ_ 31 (some 69) #[true,true,true,true,true,true,true,true,true,true,true,true,true,true,true,true,true,true,true,true,true,true,true,true,true,true,true,true,false,true,true,true,false,false,false,false,false,false] ?_
                 refine pZ_ 35 (some 73) #[true,true,true,true,true,true,true,true,true,true,true,true,true,true,true,true,true,true,true,true,true,true,true,true,true,true,true,true,false,true,true,true,false,false,false,true,false,false] ?_
                 refine tZ6_ 28 (some 66) #[true,true,true,true,true,true,true,true,true,true,true,true,true,true,true,true,true,true,true,true,true,true,true,true,true,true,true,true,true,true,true,true,false,false,false,true,false,false] hHeld ?_
                 refine tZ6_ 32 (some 70) #[true,true,true,true,true,true,true,true,true,true,true,true,true,true,true,true,true,true,true,true,true,true,true,true,true,true,true,true,true,true,true,true,true,false,false,true,false,false] hHeld ?_
                 refine pZ_ 33 (some 71) #[true,true,true,true,true,true,true,true,true,true,true,true,true,true,true,true,true,true,true,true,true,true,true,true,true,true,true,true,true,true,true,true,true,true,false,true,false,false] ?_
                 refine pZ_ 34 (some 72) #[true,true,true,true,true,true,true,true,true,true,true,true,true,true,true,true,true,true,true,true,true,true,true,true,true,true,true,true,true,true,true,true,true,true,true,true,false,false] ?_
                 refine pZ_ 36 (some 74) #[true,true,true,true,true,true,true,true,true,true,true,true,true,true,true,true,true,true,true,true,true,true,true,true,true,true,true,true,true,true,true,true,true,true,true,true,true,false] ?_
                 refine pZ_ 37 (some 75) #[true,true,true,true,true,true,true,true,true,true,true,true,true,true,true,true,true,true,true,true,true,true,true,true,true,true,true,true,true,true,true,true,true,true,true,true,true,true] ?_
                 refine done_ (done_of HT_.out T15_) ?_
                 try go_wp2
                 go_meet
                 case rel => exact ⟨_,(((Go.bits .and .i64 (ji37) 1) != a2)),(by first | rfl | (simp;done) | (simp only [← hji37] <;> (first | rfl | simp)) | (simp [*];done)),H',⟨by have := HJ4.out;have := HK2.out;first | omega | exact Nat.le_refl _⟩,⟨by (with_reducible repeat (first | refine blk_drewN ?_ _ | refine blk_drew ?_ | refine blk_alloc ?_ _));exact BK101.out⟩,⟨by repeat (first | (with_reducible first | exact HB.out | apply below_alloc | apply pw_below_drewN | apply below_drew1 | refine below_set ?_ GE101.out) | exact HB.out)⟩⟩
                ·rw [if_neg c36] at H
                 exact absurd H T49_
              ·rw [if_neg c33] at H
               exact absurd H T49_
             ·rw [if_neg c32] at H
              exact absurd H T49_
            ·rw [if_neg c30] at H
             have c30b0 : decide (0 < x10_2) = false := decide_eq_false c30
             clear c30
             by_cases c39 : 0 ≤ (rd l3 x10_2)
             ·rw [if_pos c39] at H
              have c39b0 := eq_true c39
              have c39b1 : decide (0 ≤ (rd l3 x10_2)) = true := decide_eq_true c39
              clear c39
              obtain ⟨ji40,hji40⟩ : ∃ j_ : Int,(shr .i64 a0_1 (rd l3 x10_2)) = j_ := ⟨_,rfl⟩
              replace H : (spec_IsFooling.j2 k2 a2 l3 (wrap64 ((ji22) - 1)) x10_2 ((Go.bits .and .i64 (ji40) 1) != a2) a0_0 a0_1) = some r := by first | (rw [hji40] at H;exact H) | (simp only [hji40] at H ⊢;exact H)
              (try rw [hji40] at A28)
              have hji40_ : (a0_1 / 2 ^ min (rd l3 x10_2).toNat 64) = ji40 := hji40
              have hji40z : (rd l3 x10_2) ≤ 64 → (a0_1 / 2 ^ (rd l3 x10_2).toNat) = ji40 := shr_small hji40
              have H' := aZ_ H
              clear H
              try go_wp2
              have n0_ := aZ_ (blk_drew BK101.out)
              have n1_ := aZ_ (below_drew1 HB.out)
              clear BK101
              clear HB
              have BK101 := n0_
              have HB := n1_
              clear n0_ n1_
              have p105 : 0 ≤ (x10_2 : Int) := of_decide_eq_true T6_
              have q105 : x10_2 < (l3.length : Int) := of_decide_eq_true T6_
              obtain ⟨ad105,e105,hx105_0⟩ := Kd.at_int HR3.out x10_2 p105 q105
              have hw105_0 := hx105_0
              cases e105
              replace hx105_0 := (HB.out.cell (World.block_lt_of_cell? w _ hx105_0)).trans hx105_0
              replace p105 := eq_true p105
              replace q105 := eq_true q105
              have p110 : 0 ≤ (x10_2 : Int) := of_decide_eq_true T6_
              have q110 : x10_2 < (l3.length : Int) := of_decide_eq_true T6_
              obtain ⟨ad110,e110,hx110_0⟩ := Kd.at_int HR3.out x10_2 p110 q110
              have hw110_0 := hx110_0
              obtain rfl : ad105 = ad110 := (by injection e110)
              replace hx110_0 := (HB.out.cell (World.block_lt_of_cell? w _ hx110_0)).trans hx110_0
              replace p110 := eq_true p110
              replace q110 := eq_true q110
              refine start_ (n := 38) (S := fun w' => w'.cell? ⟨gb101,0,none⟩ = some (.int .i64 a0_0) ∧ w'.cell? ⟨gb101,1,none⟩ = some (.int .i64 a0_1) ∧ w'.cell? (ad105.add (x10_2).toNat) = some (.int .i64 (rd l3 x10_2)) ∧ w'.cell? (ad105.add (x10_2).toNat) = some (.int .i64 (rd l3 x10_2))) (ds := []) #[false,false,false,false,false,false,false,false,false,false,false,false,false,false,false,false,false,false,false,false,false,false,false,false,false,false,false,false,false,false,false,false,false,false,false,false,false,false] T15_ rfl rfl ⟨(blk_cell BK101.out 0).trans rfl,(blk_cell BK101.out 1).trans rfl,((HB.out.cell (World.block_lt_of_cell? w _ hw105_0)).trans hw105_0),((HB.out.cell (World.block_lt_of_cell? w _ hw110_0)).trans hw110_0)⟩ (fun hHeld => ?_);refine with_tabW spec_IsFooling.tab7 spec_IsFooling.bits7 (fun HT_ HW_ => ?_)
              generalize wr.drew = w41 at BK101 HB hx105_0 hx110_0 hHeld ⊢
              refine pZ_ 0 (some 38) #[true,false,false,false,false,false,false,false,false,false,false,false,false,false,false,false,false,false,false,false,false,false,false,false,false,false,false,false,false,false,false,false,false,false,false,false,false,false] ?_
              refine pZ_ 1 (some 39) #[true,true,false,false,false,false,false,false,false,false,false,false,false,false,false,false,false,false,false,false,false,false,false,false,false,false,false,false,false,false,false,false,false,false,false,false,false,false] ?_
              refine pZ_ 2 (some 40) #[true,true,true,false,false,false,false,false,false,false,false,false,false,false,false,false,false,false,false,false,false,false,false,false,false,false,false,false,false,false,false,false,false,false,false,false,false,false] ?_
              refine pZ_ 4 (some 42) #[true,true,true,false,true,false,false,false,false,false,false,false,false,false,false,false,false,false,false,false,false,false,false,false,false,false,false,false,false,false,false,false,false,false,false,false,false,false] ?_
              refine tZ4_ 3 (some 41) #[true,true,true,true,true,false,false,false,false,false,false,false,false,false,false,false,false,false,false,false,false,false,false,false,false,false,false,false,false,false,false,false,false,false,false,false,false,false] hHeld ?_
              refine tZ4_ 5 (some 43) #[true,true,true,true,true,true,false,false,false,false,false,false,false,false,false,false,false,false,false,false,false,false,false,false,false,false,false,false,false,false,false,false,false,false,false,false,false,false] hHeld ?_
              refine pZ_ 6 (some 44) #[true,true,true,true,true,true,true,false,false,false,false,false,false,false,false,false,false,false,false,false,false,false,false,false,false,false,false,false,false,false,false,false,false,false,false,false,false,false] ?_
              refine pZ_ 7 (some 45) #[true,true,true,true,true,true,true,true,false,false,false,false,false,false,false,false,false,false,false,false,false,false,false,false,false,false,false,false,false,false,false,false,false,false,false,false,false,false] ?_
              refine one_ (i := 8) (N := some 46) #[true,true,true,true,true,true,true,true,true,false,false,false,false,false,false,false,false,false,false,false,false,false,false,false,false,false,false,false,false,false,false,false,false,false,false,false,false,false] rfl rfl (one_of HT_.out T15_) T48_ (fun K hK => ?_)
              refine goes_ Try.func61 T15_ rfl #[.int .i64 (rd l3 x10_2),.int .i64 0,.int .i64 (wrap64 ((ji27) - 1))] (by rfl) rfl rfl T51_ ?_
              with_reducible refine (spec_l1In.calls (rd l3 x10_2) 0 (wrap64 ((ji27) - 1)) true _ A28.out).mono ?_
              rintro e w' ⟨rfl,⟨nd,rfl⟩⟩
              refine ⟨_,rfl,?_⟩
              refine hK.out _ _ ⟨(blk_cell BK101.out 0).trans rfl,(blk_cell BK101.out 1).trans rfl,((HB.out.cell (World.block_lt_of_cell? w _ hw105_0)).trans hw105_0),((HB.out.cell (World.block_lt_of_cell? w _ hw110_0)).trans hw110_0)⟩ (fun hHeld => ?_)
              clear hK K
              refine norm_ (a' := ?_) ?_ ?_
              rotate_left
              ·show Act.put _ (some 46) _ = _
               simp only [Act.put,List.setIfInBounds_toArray,List.set_cons_zero,List.set_cons_succ,i64_w,i32_w]
               rfl
              refine pZ_ 9 (some 47) #[true,true,true,true,true,true,true,true,true,true,false,false,false,false,false,false,false,false,false,false,false,false,false,false,false,false,false,false,false,false,false,false,false,false,false,false,false,false] ?_
              refine pZ_ 10 (some 48) #[true,true,true,true,true,true,true,true,true,true,true,false,false,false,false,false,false,false,false,false,false,false,false,false,false,false,false,false,false,false,false,false,false,false,false,false,false,false] ?_
              refine pZ_ 11 (some 49) #[true,true,true,true,true,true,true,true,true,true,true,true,false,false,false,false,false,false,false,false,false,false,false,false,false,false,false,false,false,false,false,false,false,false,false,false,false,false] ?_
              refine pZ_ 12 (some 50) #[true,true,true,true,true,true,true,true,true,true,true,true,true,false,false,false,false,false,false,false,false,false,false,false,false,false,false,false,false,false,false,false,false,false,false,false,false,false] ?_
              refine pZ_ 13 (some 51) #[true,true,true,true,true,true,true,true,true,true,true,true,true,true,false,false,false,false,false,false,false,false,false,false,false,false,false,false,false,false,false,false,false,false,false,false,false,false] ?_
              refine oZ_ 14 (some 52) #[true,true,true,true,true,true,true,true,true,true,true,true,true,true,true,false,false,false,false,false,false,false,false,false,false,false,false,false,false,false,false,false,false,false,false,false,false,false] ?_
              refine oZ_ 15 (some 53) #[true,true,true,true,true,true,true,true,true,true,true,true,true,true,true,true,false,false,false,false,false,false,false,false,false,false,false,false,false,false,false,false,false,false,false,false,false,false] ?_
              refine oZ_ 16 (some 54) #[true,true,true,true,true,true,true,true,true,true,true,true,true,true,true,true,true,false,false,false,false,false,false,false,false,false,false,false,false,false,false,false,false,false,false,false,false,false] ?_
              refine oZ_ 17 (some 55) #[true,true,true,true,true,true,true,true,true,true,true,true,true,true,true,true,true,true,false,false,false,false,false,false,false,false,false,false,false,false,false,false,false,false,false,false,false,false] ?_
              refine oZ_ 18 (some 56) #[true,true,true,true,true,true,true,true,true,true,true,true,true,true,true,true,true,true,true,false,false,false,false,false,false,false,false,false,false,false,false,false,false,false,false,false,false,false] ?_
              refine oZ_ 19 (some 57) #[true,true,true,true,true,true,true,true,true,true,true,true,true,true,true,true,true,true,true,true,false,false,false,false,false,false,false,false,false,false,false,false,false,false,false,false,false,false] ?_
              refine oZ_ 20 (some 58) #[true,true,true,true,true,true,true,true,true,true,true,true,true,true,true,true,true,true,true,true,true,false,false,false,false,false,false,false,false,false,false,false,false,false,false,false,false,false] ?_
              refine oZ_ 21 (some 59) #[true,true,true,true,true,true,true,true,true,true,true,true,true,true,true,true,true,true,true,true,true,true,false,false,false,false,false,false,false,false,false,false,false,false,false,false,false,false] ?_
              refine oZ_ 22 (some 60) #[true,true,true,true,true,true,true,true,true,true,true,true,true,true,true,true,true,true,true,true,true,true,true,false,false,false,false,false,false,false,false,false,false,false,false,false,false,false] ?_
              refine oZ_ 23 (some 61) #[true,true,true,true,true,true,true,true,true,true,true,true,true,true,true,true,true,true,true,true,true,true,true,true,false,false,false,false,false,false,false,false,false,false,false,false,false,false] ?_
              refine pZ_ 24 (some 62) #[true,true,true,true,true,true,true,true,true,true,true,true,true,true,true,true,true,true,true,true,true,true,true,true,true,false,false,false,false,false,false,false,false,false,false,false,false,false] ?_
              refine pZ_ 25 (some 63) #[true,true,true,true,true,true,true,true,true,true,true,true,true,true,true,true,true,true,true,true,true,true,true,true,true,true,false,false,false,false,false,false,false,false,false,false,false,false] ?_
              refine pZ_ 26 (some 64) #[true,true,true,true,true,true,true,true,true,true,true,true,true,true,true,true,true,true,true,true,true,true,true,true,true,true,true,false,false,false,false,false,false,false,false,false,false,false] ?_
              refine pZ_ 27 (some 65) #[true,true,true,true,true,true,true,true,true,true,true,true,true,true,true,true,true,true,true,true,true,true,true,true,true,true,true,true,false,false,false,false,false,false,false,false,false,false] ?_
              refine pZ_ 29 (some 67) #[true,true,true,true,true,true,true,true,true,true,true,true,true,true,true,true,true,true,true,true,true,true,true,true,true,true,true,true,false,true,false,false,false,false,false,false,false,false] ?_
              refine pZ_ 30 (some 68) #[true,true,true,true,true,true,true,true,true,true,true,true,true,true,true,true,true,true,true,true,true,true,true,true,true,true,true,true,false,true,true,false,false,false,false,false,false,false] ?_
              refine pZ_ 31 (some 69) #[true,true,true,true,true,true,true,true,true,true,true,true,true,true,true,true,true,true,true,true,true,true,true,true,true,true,true,true,false,true,true,true,false,false,false,false,false,false] ?_
              refine pZ_ 35 (some 73) #[true,true,true,true,true,true,true,true,true,true,true,true,true,true,true,true,true,true,true,true,true,true,true,true,true,true,true,true,false,true,true,true,false,false,false,true,false,false] ?_
              refine tZ4_ 28 (some 66) #[true,true,true,true,true,true,true,true,true,true,true,true,true,true,true,true,true,true,true,true,true,true,true,true,true,true,true,true,true,true,true,true,false,false,false,true,false,false] hHeld ?_
              refine tZ4_ 32 (some 70) #[true,true,true,true,true,true,true,true,true,true,true,true,true,true,true,true,true,true,true,true,true,true,true,true,true,true,true,true,true,true,true,true,true,false,false,true,false,false] hHeld ?_
              refine pZ_ 33 (some 71) #[true,true,true,true,true,true,true,true,true,true,true,true,true,true,true,true,true,true,true,true,true,true,true,true,true,true,true,true,true,true,true,true,true,true,false,true,false,false] ?_
              refine pZ_ 34 (some 72) #[true,true,true,true,true,true,true,true,true,true,true,true,true,true,true,true,true,true,true,true,true,true,true,true,true,true,true,true,true,true,true,true,true,true,true,true,false,false] ?_
              refine pZ_ 36 (some 74) #[true,true,true,true,true,true,true,true,true,true,true,true,true,true,true,true,true,true,true,true,true,true,true,true,true,true,true,true,true,true,true,true,true,true,true,true,true,false] ?_
              refine pZ_ 37 (some 75) #[true,true,true,true,true,true,true,true,true,true,true,true,true,true,true,true,true,true,true,true,true,true,true,true,true,true,true,true,true,true,true,true,true,true,true,true,true,true] ?_
              refine done_ (done_of HT_.out T15_) ?_
              try go_wp2
              go_meet
              case rel => exact ⟨_,(((Go.bits .and .i64 (ji40) 1) != a2)),T69_,H',⟨by have := HJ4.out;have := HK2.out;first | omega | exact Nat.le_refl _⟩,⟨by (with_reducible repeat (first | refine blk_drewN ?_ _ | refine blk_drew ?_ | refine blk_alloc ?_ _));exact BK101.out⟩,⟨by repeat (first | (with_reducible first | exact HB.out | apply below_alloc | apply pw_below_drewN | apply below_drew1 | refine below_set ?_ GE101.out) | exact HB.out)⟩⟩
             ·rw [if_neg c39] at H
              exact absurd H T49_
           ·replace c29 := Bool.eq_false_iff.mpr c29
            subst c29
            have H1 : (spec_IsFooling.j2 k2 a2 l3 (wrap64 ((ji22) - 1)) x10_2 true a0_0 a0_1) = some r := by rw [if_neg (show ¬ (false = true) by decide)] at H;exact H
            clear H
            have H := H1
            clear H1
            have H' := aZ_ H
            clear H
            try go_wp2
            have n0_ := aZ_ (blk_drew BK101.out)
            have n1_ := aZ_ (below_drew1 HB.out)
            clear BK101
            clear HB
            have BK101 := n0_
            have HB := n1_
            clear n0_ n1_
            have p105 : 0 ≤ (x10_2 : Int) := of_decide_eq_true T6_
            have q105 : x10_2 < (l3.length : Int) := of_decide_eq_true T6_
            obtain ⟨ad105,e105,hx105_0⟩ := Kd.at_int HR3.out x10_2 p105 q105
            have hw105_0 := hx105_0
            cases e105
            replace hx105_0 := (HB.out.cell (World.block_lt_of_cell? w _ hx105_0)).trans hx105_0
            replace p105 := eq_true p105
            replace q105 := eq_true q105
            refine start_ (n := 38) (S := fun w' => w'.cell? ⟨gb101,0,none⟩ = some (.int .i64 a0_0) ∧ w'.cell? ⟨gb101,1,none⟩ = some (.int .i64 a0_1) ∧ w'.cell? (ad105.add (x10_2).toNat) = some (.int .i64 (rd l3 x10_2))) (ds := []) #[false,false,false,false,false,false,false,false,false,false,false,false,false,false,false,false,false,false,false,false,false,false,false,false,false,false,false,false,false,false,false,false,false,false,false,false,false,false] T15_ rfl rfl ⟨(blk_cell BK101.out 0).trans rfl,(blk_cell BK101.out 1).trans rfl,((HB.out.cell (World.block_lt_of_cell? w _ hw105_0)).trans hw105_0)⟩ (fun hHeld => ?_);refine with_tabW spec_IsFooling.tab7 spec_IsFooling.bits7 (fun HT_ HW_ => ?_)
            generalize wr.drew = w42 at BK101 HB hx105_0 hHeld ⊢
            refine pZ_ 0 (some 38) #[true,false,false,false,false,false,false,false,false,false,false,false,false,false,false,false,false,false,false,false,false,false,false,false,false,false,false,false,false,false,false,false,false,false,false,false,false,false] ?_
            refine pZ_ 1 (some 39) #[true,true,false,false,false,false,false,false,false,false,false,false,false,false,false,false,false,false,false,false,false,false,false,false,false,false,false,false,false,false,false,false,false,false,false,false,false,false] ?_
            refine pZ_ 2 (some 40) #[true,true,true,false,false,false,false,false,false,false,false,false,false,false,false,false,false,false,false,false,false,false,false,false,false,false,false,false,false,false,false,false,false,false,false,false,false,false] ?_
            refine pZ_ 4 (some 42) #[true,true,true,false,true,false,false,false,false,false,false,false,false,false,false,false,false,false,false,false,false,false,false,false,false,false,false,false,false,false,false,false,false,false,false,false,false,false] ?_
            refine tZ3_ 3 (some 41) #[true,true,true,true,true,false,false,false,false,false,false,false,false,false,false,false,false,false,false,false,false,false,false,false,false,false,false,false,false,false,false,false,false,false,false,false,false,false] hHeld ?_
            refine tZ3_ 5 (some 43) #[true,true,true,true,true,true,false,false,false,false,false,false,false,false,false,false,false,false,false,false,false,false,false,false,false,false,false,false,false,false,false,false,false,false,false,false,false,false] hHeld ?_
            refine pZ_ 6 (some 44) #[true,true,true,true,true,true,true,false,false,false,false,false,false,false,false,false,false,false,false,false,false,false,false,false,false,false,false,false,false,false,false,false,false,false,false,false,false,false] ?_
            refine pZ_ 7 (some 45) #[true,true,true,true,true,true,true,true,false,false,false,false,false,false,false,false,false,false,false,false,false,false,false,false,false,false,false,false,false,false,false,false,false,false,false,false,false,false] ?_
            refine one_ (i := 8) (N := some 46) #[true,true,true,true,true,true,true,true,true,false,false,false,false,false,false,false,false,false,false,false,false,false,false,false,false,false,false,false,false,false,false,false,false,false,false,false,false,false] rfl rfl (one_of HT_.out T15_) T48_ (fun K hK => ?_)
            refine goes_ Try.func61 T15_ rfl #[.int .i64 (rd l3 x10_2),.int .i64 0,.int .i64 (wrap64 ((ji27) - 1))] (by rfl) rfl rfl T51_ ?_
            with_reducible refine (spec_l1In.calls (rd l3 x10_2) 0 (wrap64 ((ji27) - 1)) false _ A28.out).mono ?_
            rintro e w' ⟨rfl,⟨nd,rfl⟩⟩
            refine ⟨_,rfl,?_⟩
            refine hK.out _ _ ⟨(blk_cell BK101.out 0).trans rfl,(blk_cell BK101.out 1).trans rfl,((HB.out.cell (World.block_lt_of_cell? w _ hw105_0)).trans hw105_0)⟩ (fun hHeld => ?_)
            clear hK K
            refine norm_ (a' := ?_) ?_ ?_
            rotate_left
            ·show Act.put _ (some 46) _ = _
             simp only [Act.put,List.setIfInBounds_toArray,List.set_cons_zero,List.set_cons_succ,i64_w,i32_w]
             rfl
            refine pZ_ 9 (some 47) #[true,true,true,true,true,true,true,true,true,true,false,false,false,false,false,false,false,false,false,false,false,false,false,false,false,false,false,false,false,false,false,false,false,false,false,false,false,false] ?_
            refine pZ_ 10 (some 48) #[true,true,true,true,true,true,true,true,true,true,true,false,false,false,false,false,false,false,false,false,false,false,false,false,false,false,false,false,false,false,false,false,false,false,false,false,false,false] ?_
            refine oZ_ 11 (some 49) #[true,true,true,true,true,true,true,true,true,true,true,true,false,false,false,false,false,false,false,false,false,false,false,false,false,false,false,false,false,false,false,false,false,false,false,false,false,false] ?_
            refine oZ_ 12 (some 50) #[true,true,true,true,true,true,true,true,true,true,true,true,true,false,false,false,false,false,false,false,false,false,false,false,false,false,false,false,false,false,false,false,false,false,false,false,false,false] ?_
            refine oZ_ 13 (some 51) #[true,true,true,true,true,true,true,true,true,true,true,true,true,true,false,false,false,false,false,false,false,false,false,false,false,false,false,false,false,false,false,false,false,false,false,false,false,false] ?_
            refine oZ_ 14 (some 52) #[true,true,true,true,true,true,true,true,true,true,true,true,true,true,true,false,false,false,false,false,false,false,false,false,false,false,false,false,false,false,false,false,false,false,false,false,false,false] ?_
            refine oZ_ 15 (some 53) #[true,true,true,true,true,true,true,true,true,true,true,true,true,true,true,true,false,false,false,false,false,false,false,false,false,false,false,false,false,false,false,false,false,false,false,false,false,false] ?_
            refine oZ_ 16 (some 54) #[true,true,true,true,true,true,true,true,true,true,true,true,true,true,true,true,true,false,false,false,false,false,false,false,false,false,false,false,false,false,false,false,false,false,false,false,false,false] ?_
            refine oZ_ 17 (some 55) #[true,true,true,true,true,true,true,true,true,true,true,true,true,true,true,true,true,true,false,false,false,false,false,false,false,false,false,false,false,false,false,false,false,false,false,false,false,false] ?_
            refine oZ_ 18 (some 56) #[true,true,true,true,true,true,true,true,true,true,true,true,true,true,true,true,true,true,true,false,false,false,false,false,false,false,false,false,false,false,false,false,false,false,false,false,false,false] ?_
            refine oZ_ 19 (some 57) #[true,true,true,true,true,true,true,true,true,true,true,true,true,true,true,true,true,true,true,true,false,false,false,false,false,false,false,false,false,false,false,false,false,false,false,false,false,false] ?_
            refine oZ_ 20 (some 58) #[true,true,true,true,true,true,true,true,true,true,true,true,true,true,true,true,true,true,true,true,true,false,false,false,false,false,false,false,false,false,false,false,false,false,false,false,false,false] ?_
            refine oZ_ 21 (some 59) #[true,true,true,true,true,true,true,true,true,true,true,true,true,true,true,true,true,true,true,true,true,true,false,false,false,false,false,false,false,false,false,false,false,false,false,false,false,false] ?_
            refine oZ_ 22 (some 60) #[true,true,true,true,true,true,true,true,true,true,true,true,true,true,true,true,true,true,true,true,true,true,true,false,false,false,false,false,false,false,false,false,false,false,false,false,false,false] ?_
            refine oZ_ 23 (some 61) #[true,true,true,true,true,true,true,true,true,true,true,true,true,true,true,true,true,true,true,true,true,true,true,true,false,false,false,false,false,false,false,false,false,false,false,false,false,false] ?_
            refine oZ_ 24 (some 62) #[true,true,true,true,true,true,true,true,true,true,true,true,true,true,true,true,true,true,true,true,true,true,true,true,true,false,false,false,false,false,false,false,false,false,false,false,false,false] ?_
            refine pZ_ 25 (some 63) #[true,true,true,true,true,true,true,true,true,true,true,true,true,true,true,true,true,true,true,true,true,true,true,true,true,true,false,false,false,false,false,false,false,false,false,false,false,false] ?_
            refine pZ_ 26 (some 64) #[true,true,true,true,true,true,true,true,true,true,true,true,true,true,true,true,true,true,true,true,true,true,true,true,true,true,true,false,false,false,false,false,false,false,false,false,false,false] ?_
            refine oZ_ 27 (some 65) #[true,true,true,true,true,true,true,true,true,true,true,true,true,true,true,true,true,true,true,true,true,true,true,true,true,true,true,true,false,false,false,false,false,false,false,false,false,false] ?_
            refine oZ_ 28 (some 66) #[true,true,true,true,true,true,true,true,true,true,true,true,true,true,true,true,true,true,true,true,true,true,true,true,true,true,true,true,true,false,false,false,false,false,false,false,false,false] ?_
            refine oZ_ 29 (some 67) #[true,true,true,true,true,true,true,true,true,true,true,true,true,true,true,true,true,true,true,true,true,true,true,true,true,true,true,true,true,true,false,false,false,false,false,false,false,false] ?_
            refine oZ_ 30 (some 68) #[true,true,true,true,true,true,true,true,true,true,true,true,true,true,true,true,true,true,true,true,true,true,true,true,true,true,true,true,true,true,true,false,false,false,false,false,false,false] ?_
            refine oZ_ 31 (some 69) #[true,true,true,true,true,true,true,true,true,true,true,true,true,true,true,true,true,true,true,true,true,true,true,true,true,true,true,true,true,true,true,true,false,false,false,false,false,false] ?_
            refine oZ_ 32 (some 70) #[true,true,true,true,true,true,true,true,true,true,true,true,true,true,true,true,true,true,true,true,true,true,true,true,true,true,true,true,true,true,true,true,true,false,false,false,false,false] ?_
            refine oZ_ 33 (some 71) #[true,true,true,true,true,true,true,true,true,true,true,true,true,true,true,true,true,true,true,true,true,true,true,true,true,true,true,true,true,true,true,true,true,true,false,false,false,false] ?_
            refine oZ_ 34 (some 72) #[true,true,true,true,true,true,true,true,true,true,true,true,true,true,true,true,true,true,true,true,true,true,true,true,true,true,true,true,true,true,true,true,true,true,true,false,false,false] ?_
            refine oZ_ 35 (some 73) #[true,true,true,true,true,true,true,true,true,true,true,true,true,true,true,true,true,true,true,true,true,true,true,true,true,true,true,true,true,true,true,true,true,true,true,true,false,false] ?_
            refine oZ_ 36 (some 74) #[true,true,true,true,true,true,true,true,true,true,true,true,true,true,true,true,true,true,true,true,true,true,true,true,true,true,true,true,true,true,true,true,true,true,true,true,true,false] ?_
            refine pZ_ 37 (some 75) #[true,true,true,true,true,true,true,true,true,true,true,true,true,true,true,true,true,true,true,true,true,true,true,true,true,true,true,true,true,true,true,true,true,true,true,true,true,true] ?_
            refine done_ (done_of HT_.out T15_) ?_
            try go_wp2
            go_meet
            case rel => exact ⟨_,(true),T10_,H',⟨by have := HJ4.out;have := HK2.out;first | omega | exact Nat.le_refl _⟩,⟨by (with_reducible repeat (first | refine blk_drewN ?_ _ | refine blk_drew ?_ | refine blk_alloc ?_ _));exact BK101.out⟩,⟨by repeat (first | (with_reducible first | exact HB.out | apply below_alloc | apply pw_below_drewN | apply below_drew1 | refine below_set ?_ GE101.out) | exact HB.out)⟩⟩
          ·rw [if_neg c26] at H
           exact absurd H T49_
         ·rw [if_neg c25] at H
          exact absurd H T49_
        case rest =>
         clear HC24
         try clear p1
         try clear q1
         try clear hx1
         try clear c2
         try clear p2
         try clear c3
         try clear c6
         try clear p6
         try clear p10
         try clear q10
         try clear hx10
         try clear p11
         try clear q11
         try clear hx11
         try clear c25
         try clear c26
         try clear c29
         try clear c30
         try clear c30b0
         try clear c32
         try clear c33
         try clear c36
         try clear c39
         try clear c39b0
         try clear c39b1
         try clear hx105_0
         try clear hx110_0
         try clear p105
         try clear p110
         try clear q105
         try clear q110
         obtain ⟨kq,x75_23,rfl,HA,HJ23,BK101,HB⟩ := hcut
         cases kq with
         | zero => exact absurd HA.out (by simp [spec_IsFooling.j2])
         | succ kj23 =>
          have H := HA.out
          clear HA
          simp only [spec_IsFooling.j2] at H
          by_cases c43 : x75_23 = true
          ·subst c43
           have H1 : (some false) = some r := by rw [if_pos rfl] at H;exact H
           clear H
           have H := H1
           clear H1
           obtain rfl := Option.some.inj H
           go_wp2
           go_ret
           exact ⟨by first | rfl | (simp [errW_none,errW_some] <;> rfl) | (simp only [← hji22];first | rfl | (simp [errW_none,errW_some] <;> rfl)) | (simp [*,errW_none,errW_some] <;> rfl),by repeat (first | (with_reducible first | exact HB.out | apply below_alloc | apply pw_below_drewN | apply below_drew1 | refine below_set ?_ GE101.out) | exact HB.out)⟩
          ·replace c43 := Bool.eq_false_iff.mpr c43
           subst c43
           have H1 : (spec_IsFooling.l1 kj23 a2 l3 (wrap64 ((ji22) - 1)) x10_2 0 a0_0 a0_1) = some r := by rw [if_neg (show ¬ (false = true) by decide)] at H;exact H
           clear H
           have H := H1
           clear H1
           have H' := aZ_ H
           clear H
           go_wp2
           go_loopg [11] kj23 (fun kq v11 w' => ∃ (x11_4 : Int),v11 = .int .i64 x11_4 ∧ Aside0 (spec_IsFooling.l1 kq a2 l3 (wrap64 ((ji22) - 1)) x10_2 x11_4 a0_0 a0_1 = some r) ∧ Aside0 (kq ≤ kj23) ∧ Aside0 (w'.heap[gb101]? = some (.cells #[.int .i64 a0_0,.int .i64 a0_1] 25 (0,0))) ∧ Aside0 (Below w.heap.size w w'))
           case atStart => exact ⟨(0),T10_,H',⟨Nat.le_refl _⟩,⟨by (with_reducible repeat (first | refine blk_drewN ?_ _ | refine blk_drew ?_ | refine blk_alloc ?_ _));exact BK101.out⟩,⟨by repeat (first | (with_reducible first | exact HB.out | apply below_alloc | apply pw_below_drewN | apply below_drew1 | refine below_set ?_ GE101.out) | exact HB.out)⟩⟩
           case round =>
            clear H'
            try clear p1
            try clear q1
            try clear hx1
            try clear c2
            try clear p2
            try clear c3
            try clear c4
            try clear c6
            try clear p6
            try clear p10
            try clear q10
            try clear hx10
            try clear p11
            try clear q11
            try clear hx11
            try clear c25
            try clear c26
            try clear c29
            try clear c30
            try clear c30b0
            try clear c32
            try clear c33
            try clear c36
            try clear c39
            try clear c39b0
            try clear c39b1
            try clear c43
            try clear hx105_0
            try clear hx110_0
            try clear p1
            try clear p10
            try clear p105
            try clear p11
            try clear p110
            try clear p2
            try clear p6
            try clear q1
            try clear q10
            try clear q105
            try clear q11
            try clear q110
            obtain ⟨x11_4,rfl,HA,HK4,BK101,HB⟩ := hrel
            cases gk with
            | zero => exact absurd HA.out (by simp [spec_IsFooling.l1])
            | succ k4 =>
             have H := HA.out
             clear HA
             simp only [spec_IsFooling.l1] at H
             by_cases c44 : x11_4 < x10_2
             ·rw [if_pos c44] at H
              have c44b0 : decide (x11_4 < x10_2) = true := decide_eq_true c44
              clear c44
              by_cases c45 : 0 ≤ x10_2
              ·rw [if_pos c45] at H
               have c45b0 : decide (0 ≤ x10_2) = true := decide_eq_true c45
               clear c45
               by_cases c46 : x10_2 < (l3.length : Int)
               ·rw [if_pos c46] at H
                have c46b0 : decide (x10_2 < (l3.length : Int)) = true := decide_eq_true c46
                clear c46
                by_cases c47 : 0 ≤ x11_4
                ·rw [if_pos c47] at H
                 have c47b0 : decide (0 ≤ x11_4) = true := decide_eq_true c47
                 clear c47
                 by_cases c48 : x11_4 < (l3.length : Int)
                 ·rw [if_pos c48] at H
                  have c48b0 : decide (x11_4 < (l3.length : Int)) = true := decide_eq_true c48
                  clear c48
                  obtain ⟨ji49,hji49⟩ : ∃ j_ : Int,(wrap64 ((wrap64 ((Go.bits .and .i64 (rd l3 x10_2) (wrap64 ((ji22) - 1))) + (rd l3 x11_4))) - (Go.bits .and .i64 (rd l3 x11_4) (wrap64 ((ji22) - 1))))) = j_ := ⟨_,rfl⟩
                  replace H : (if 0 ≤ (ji49) then (if (Go.bits .and .i64 (shr .i64 a0_1 (ji49)) 1) = a2 then (if 0 ≤ (wrap64 ((wrap64 ((Go.bits .and .i64 (rd l3 x11_4) (wrap64 ((ji22) - 1))) + (rd l3 x10_2))) - (Go.bits .and .i64 (rd l3 x10_2) (wrap64 ((ji22) - 1))))) then (if (Go.bits .and .i64 (shr .i64 a0_1 (wrap64 ((wrap64 ((Go.bits .and .i64 (rd l3 x11_4) (wrap64 ((ji22) - 1))) + (rd l3 x10_2))) - (Go.bits .and .i64 (rd l3 x10_2) (wrap64 ((ji22) - 1)))))) 1) = a2 then (some false) else (spec_IsFooling.l1 k4 a2 l3 (wrap64 ((ji22) - 1)) x10_2 (wrap64 (x11_4 + 1)) a0_0 a0_1)) else (none)) else (spec_IsFooling.l1 k4 a2 l3 (wrap64 ((ji22) - 1)) x10_2 (wrap64 (x11_4 + 1)) a0_0 a0_1)) else (none)) = some r := by first | (rw [hji49] at H;exact H) | (simp only [hji49] at H ⊢;exact H)
                  have hji49w : (IntKind.i64.wrap ((wrap64 ((Go.bits .and .i64 (rd l3 x10_2) (wrap64 ((ji22) - 1))) + (rd l3 x11_4))) - (Go.bits .and .i64 (rd l3 x11_4) (wrap64 ((ji22) - 1))))) = ji49 := (i64_w _).trans hji49
                  by_cases c50 : 0 ≤ (ji49)
                  ·rw [if_pos c50] at H
                   have c50b0 := eq_true c50
                   have c50b1 : decide (0 ≤ (ji49)) = true := decide_eq_true c50
                   clear c50
                   obtain ⟨ji51,hji51⟩ : ∃ j_ : Int,(shr .i64 a0_1 (ji49)) = j_ := ⟨_,rfl⟩
                   replace H : (if (Go.bits .and .i64 (ji51) 1) = a2 then (if 0 ≤ (wrap64 ((wrap64 ((Go.bits .and .i64 (rd l3 x11_4) (wrap64 ((ji22) - 1))) + (rd l3 x10_2))) - (Go.bits .and .i64 (rd l3 x10_2) (wrap64 ((ji22) - 1))))) then (if (Go.bits .and .i64 (shr .i64 a0_1 (wrap64 ((wrap64 ((Go.bits .and .i64 (rd l3 x11_4) (wrap64 ((ji22) - 1))) + (rd l3 x10_2))) - (Go.bits .and .i64 (rd l3 x10_2) (wrap64 ((ji22) - 1)))))) 1) = a2 then (some false) else (spec_IsFooling.l1 k4 a2 l3 (wrap64 ((ji22) - 1)) x10_2 (wrap64 (x11_4 + 1)) a0_0 a0_1)) else (none)) else (spec_IsFooling.l1 k4 a2 l3 (wrap64 ((ji22) - 1)) x10_2 (wrap64 (x11_4 + 1)) a0_0 a0_1)) = some r := by first | (rw [hji51] at H;exact H) | (simp only [hji51] at H ⊢;exact H)
                   have hji51_ : (a0_1 / 2 ^ min (ji49).toNat 64) = ji51 := hji51
                   have hji51z : (ji49) ≤ 64 → (a0_1 / 2 ^ (ji49).toNat) = ji51 := shr_small hji51
                   by_cases c52 : (Go.bits .and .i64 (ji51) 1) = a2
                   ·rw [if_pos c52] at H
                    have c52b0 : ((Go.bits .and .i64 (ji51) 1) == a2) = true := beq_iff_eq.mpr c52
                    have c52b1 : ((Go.bits .and .i64 (ji51) 1) != a2) = false := bne_eq_false_iff_eq.mpr c52
                    clear c52
                    obtain ⟨ji53,hji53⟩ : ∃ j_ : Int,(wrap64 ((wrap64 ((Go.bits .and .i64 (rd l3 x11_4) (wrap64 ((ji22) - 1))) + (rd l3 x10_2))) - (Go.bits .and .i64 (rd l3 x10_2) (wrap64 ((ji22) - 1))))) = j_ := ⟨_,rfl⟩
                    replace H : (if 0 ≤ (ji53) then (if (Go.bits .and .i64 (shr .i64 a0_1 (ji53)) 1) = a2 then (some false) else (spec_IsFooling.l1 k4 a2 l3 (wrap64 ((ji22) - 1)) x10_2 (wrap64 (x11_4 + 1)) a0_0 a0_1)) else (none)) = some r := by first | (rw [hji53] at H;exact H) | (simp only [hji53] at H ⊢;exact H)
                    have hji53w : (IntKind.i64.wrap ((wrap64 ((Go.bits .and .i64 (rd l3 x11_4) (wrap64 ((ji22) - 1))) + (rd l3 x10_2))) - (Go.bits .and .i64 (rd l3 x10_2) (wrap64 ((ji22) - 1))))) = ji53 := (i64_w _).trans hji53
                    by_cases c54 : 0 ≤ (ji53)
                    ·rw [if_pos c54] at H
                     have c54b0 := eq_true c54
                     have c54b1 : decide (0 ≤ (ji53)) = true := decide_eq_true c54
                     clear c54
                     obtain ⟨ji55,hji55⟩ : ∃ j_ : Int,(shr .i64 a0_1 (ji53)) = j_ := ⟨_,rfl⟩
                     replace H : (if (Go.bits .and .i64 (ji55) 1) = a2 then (some false) else (spec_IsFooling.l1 k4 a2 l3 (wrap64 ((ji22) - 1)) x10_2 (wrap64 (x11_4 + 1)) a0_0 a0_1)) = some r := by first | (rw [hji55] at H;exact H) | (simp only [hji55] at H ⊢;exact H)
                     have hji55_ : (a0_1 / 2 ^ min (ji53).toNat 64) = ji55 := hji55
                     have hji55z : (ji53) ≤ 64 → (a0_1 / 2 ^ (ji53).toNat) = ji55 := shr_small hji55
                     by_cases c56 : (Go.bits .and .i64 (ji55) 1) = a2
                     ·rw [if_pos c56] at H
                      have c56b0 : ((Go.bits .and .i64 (ji55) 1) == a2) = true := beq_iff_eq.mpr c56
                      have c56b1 : ((Go.bits .and .i64 (ji55) 1) != a2) = false := bne_eq_false_iff_eq.mpr c56
                      clear c56
                      obtain rfl := Option.some.inj H
                      try go_wp2
                      have n0_ := aZ_ (blk_drew BK101.out)
                      have n1_ := aZ_ (below_drew1 HB.out)
                      clear BK101
                      clear HB
                      have BK101 := n0_
                      have HB := n1_
                      clear n0_ n1_
                      have p111 : 0 ≤ (x10_2 : Int) := of_decide_eq_true T6_
                      have q111 : x10_2 < (l3.length : Int) := of_decide_eq_true T6_
                      obtain ⟨ad111,e111,hx111_0⟩ := Kd.at_int HR3.out x10_2 p111 q111
                      have hw111_0 := hx111_0
                      cases e111
                      replace hx111_0 := (HB.out.cell (World.block_lt_of_cell? w _ hx111_0)).trans hx111_0
                      replace p111 := eq_true p111
                      replace q111 := eq_true q111
                      have p112 : 0 ≤ (x11_4 : Int) := of_decide_eq_true T6_
                      have q112 : x11_4 < (l3.length : Int) := of_decide_eq_true T6_
                      obtain ⟨ad112,e112,hx112_0⟩ := Kd.at_int HR3.out x11_4 p112 q112
                      have hw112_0 := hx112_0
                      obtain rfl : ad111 = ad112 := (by injection e112)
                      replace hx112_0 := (HB.out.cell (World.block_lt_of_cell? w _ hx112_0)).trans hx112_0
                      replace p112 := eq_true p112
                      replace q112 := eq_true q112
                      have p113 : 0 ≤ (x11_4 : Int) := of_decide_eq_true T6_
                      have q113 : x11_4 < (l3.length : Int) := of_decide_eq_true T6_
                      obtain ⟨ad113,e113,hx113_0⟩ := Kd.at_int HR3.out x11_4 p113 q113
                      have hw113_0 := hx113_0
                      obtain rfl : ad111 = ad113 := (by injection e113)
                      replace hx113_0 := (HB.out.cell (World.block_lt_of_cell? w _ hx113_0)).trans hx113_0
                      replace p113 := eq_true p113
                      replace q113 := eq_true q113
                      refine start_ (n := 19) (S := fun w' => w'.cell? (ad111.add (x10_2).toNat) = some (.int .i64 (rd l3 x10_2)) ∧ w'.cell? (ad111.add (x11_4).toNat) = some (.int .i64 (rd l3 x11_4)) ∧ w'.cell? (ad111.add (x11_4).toNat) = some (.int .i64 (rd l3 x11_4))) (ds := []) #[false,false,false,false,false,false,false,false,false,false,false,false,false,false,false,false,false,false,false] T15_ rfl rfl ⟨((HB.out.cell (World.block_lt_of_cell? w _ hw111_0)).trans hw111_0),((HB.out.cell (World.block_lt_of_cell? w _ hw112_0)).trans hw112_0),((HB.out.cell (World.block_lt_of_cell? w _ hw113_0)).trans hw113_0)⟩ (fun hHeld => ?_);refine with_tabW spec_IsFooling.tab12 spec_IsFooling.bits12 (fun HT_ HW_ => ?_)
                      generalize wr.drew = w57 at BK101 HB hx111_0 hx112_0 hx113_0 hHeld ⊢
                      refine pZ_ 0 (some 81) #[true,false,false,false,false,false,false,false,false,false,false,false,false,false,false,false,false,false,false] ?_
                      refine pZ_ 1 (some 82) #[true,true,false,false,false,false,false,false,false,false,false,false,false,false,false,false,false,false,false] ?_
                      refine pZ_ 2 (some 83) #[true,true,true,false,false,false,false,false,false,false,false,false,false,false,false,false,false,false,false] ?_
                      refine pZ_ 4 (some 85) #[true,true,true,false,true,false,false,false,false,false,false,false,false,false,false,false,false,false,false] ?_
                      refine pZ_ 6 (some 87) #[true,true,true,false,true,false,true,false,false,false,false,false,false,false,false,false,false,false,false] ?_
                      refine pZ_ 7 (some 88) #[true,true,true,false,true,false,true,true,false,false,false,false,false,false,false,false,false,false,false] ?_
                      refine pZ_ 8 (some 89) #[true,true,true,false,true,false,true,true,true,false,false,false,false,false,false,false,false,false,false] ?_
                      refine pZ_ 11 (some 92) #[true,true,true,false,true,false,true,true,true,false,false,true,false,false,false,false,false,false,false] ?_
                      refine pZ_ 12 (some 93) #[true,true,true,false,true,false,true,true,true,false,false,true,true,false,false,false,false,false,false] ?_
                      refine pZ_ 13 (some 94) #[true,true,true,false,true,false,true,true,true,false,false,true,true,true,false,false,false,false,false] ?_
                      refine pZ_ 15 (some 96) #[true,true,true,false,true,false,true,true,true,false,false,true,true,true,false,true,false,false,false] ?_
                      refine tZ3_ 3 (some 84) #[true,true,true,true,true,false,true,true,true,false,false,true,true,true,false,true,false,false,false] hHeld ?_
                      refine pZ_ 5 (some 86) #[true,true,true,true,true,true,true,true,true,false,false,true,true,true,false,true,false,false,false] ?_
                      refine tZ3_ 9 (some 90) #[true,true,true,true,true,true,true,true,true,true,false,true,true,true,false,true,false,false,false] hHeld ?_
                      refine pZ_ 10 (some 91) #[true,true,true,true,true,true,true,true,true,true,true,true,true,true,false,true,false,false,false] ?_
                      refine tZ3_ 14 (some 95) #[true,true,true,true,true,true,true,true,true,true,true,true,true,true,true,true,false,false,false] hHeld ?_
                      refine pZ_ 16 (some 97) #[true,true,true,true,true,true,true,true,true,true,true,true,true,true,true,true,true,false,false] ?_
                      refine pZ_ 17 (some 98) #[true,true,true,true,true,true,true,true,true,true,true,true,true,true,true,true,true,true,false] ?_
                      refine pZ_ 18 (some 12) #[true,true,true,true,true,true,true,true,true,true,true,true,true,true,true,true,true,true,true] ?_
                      refine done_ (done_of HT_.out T15_) ?_
                      try go_wp2
                      have n0_ := aZ_ (blk_drew BK101.out)
                      have n1_ := aZ_ (below_drew1 HB.out)
                      clear BK101
                      clear HB
                      have BK101 := n0_
                      have HB := n1_
                      clear n0_ n1_
                      have p114 : 0 ≤ (x11_4 : Int) := of_decide_eq_true T6_
                      have q114 : x11_4 < (l3.length : Int) := of_decide_eq_true T6_
                      obtain ⟨ad114,e114,hx114_0⟩ := Kd.at_int HR3.out x11_4 p114 q114
                      have hw114_0 := hx114_0
                      obtain rfl : ad111 = ad114 := (by injection e114)
                      replace hx114_0 := (HB.out.cell (World.block_lt_of_cell? w _ hx114_0)).trans hx114_0
                      replace p114 := eq_true p114
                      replace q114 := eq_true q114
                      have p115 : 0 ≤ (x10_2 : Int) := of_decide_eq_true T6_
                      have q115 : x10_2 < (l3.length : Int) := of_decide_eq_true T6_
                      obtain ⟨ad115,e115,hx115_0⟩ := Kd.at_int HR3.out x10_2 p115 q115
                      have hw115_0 := hx115_0
                      obtain rfl : ad111 = ad115 := (by injection e115)
                      replace hx115_0 := (HB.out.cell (World.block_lt_of_cell? w _ hx115_0)).trans hx115_0
                      replace p115 := eq_true p115
                      replace q115 := eq_true q115
                      have p116 : 0 ≤ (x10_2 : Int) := of_decide_eq_true T6_
                      have q116 : x10_2 < (l3.length : Int) := of_decide_eq_true T6_
                      obtain ⟨ad116,e116,hx116_0⟩ := Kd.at_int HR3.out x10_2 p116 q116
                      have hw116_0 := hx116_0
                      obtain rfl : ad111 = ad116 := (by injection e116)
                      replace hx116_0 := (HB.out.cell (World.block_lt_of_cell? w _ hx116_0)).trans hx116_0
                      replace p116 := eq_true p116
                      replace q116 := eq_true q116
                      refine start_ (n := 19) (S := fun w' => w'.cell? (ad111.add (x11_4).toNat) = some (.int .i64 (rd l3 x11_4)) ∧ w'.cell? (ad111.add (x10_2).toNat) = some (.int .i64 (rd l3 x10_2)) ∧ w'.cell? (ad111.add (x10_2).toNat) = some (.int .i64 (rd l3 x10_2))) (ds := []) #[false,false,false,false,false,false,false,false,false,false,false,false,false,false,false,false,false,false,false] T15_ rfl rfl ⟨((HB.out.cell (World.block_lt_of_cell? w _ hw114_0)).trans hw114_0),((HB.out.cell (World.block_lt_of_cell? w _ hw115_0)).trans hw115_0),((HB.out.cell (World.block_lt_of_cell? w _ hw116_0)).trans hw116_0)⟩ (fun hHeld => ?_);refine with_tabW spec_IsFooling.tab13 spec_IsFooling.bits13 (fun HT_ HW_ => ?_)
                      generalize w57.drew = w58 at BK101 HB hx114_0 hx115_0 hx116_0 hHeld ⊢
                      refine pZ_ 0 (some 99) #[true,false,false,false,false,false,false,false,false,false,false,false,false,false,false,false,false,false,false] ?_
                      refine pZ_ 1 (some 100) #[true,true,false,false,false,false,false,false,false,false,false,false,false,false,false,false,false,false,false] ?_
                      refine pZ_ 2 (some 101) #[true,true,true,false,false,false,false,false,false,false,false,false,false,false,false,false,false,false,false] ?_
                      refine pZ_ 4 (some 103) #[true,true,true,false,true,false,false,false,false,false,false,false,false,false,false,false,false,false,false] ?_
                      refine pZ_ 6 (some 105) #[true,true,true,false,true,false,true,false,false,false,false,false,false,false,false,false,false,false,false] ?_
                      refine pZ_ 7 (some 106) #[true,true,true,false,true,false,true,true,false,false,false,false,false,false,false,false,false,false,false] ?_
                      refine pZ_ 8 (some 107) #[true,true,true,false,true,false,true,true,true,false,false,false,false,false,false,false,false,false,false] ?_
                      refine pZ_ 11 (some 110) #[true,true,true,false,true,false,true,true,true,false,false,true,false,false,false,false,false,false,false] ?_
                      refine pZ_ 12 (some 111) #[true,true,true,false,true,false,true,true,true,false,false,true,true,false,false,false,false,false,false] ?_
                      refine pZ_ 13 (some 112) #[true,true,true,false,true,false,true,true,true,false,false,true,true,true,false,false,false,false,false] ?_
                      refine pZ_ 15 (some 114) #[true,true,true,false,true,false,true,true,true,false,false,true,true,true,false,true,false,false,false] ?_
                      refine tZ3_ 3 (some 102) #[true,true,true,true,true,false,true,true,true,false,false,true,true,true,false,true,false,false,false] hHeld ?_
                      refine pZ_ 5 (some 104) #[true,true,true,true,true,true,true,true,true,false,false,true,true,true,false,true,false,false,false] ?_
                      refine tZ3_ 9 (some 108) #[true,true,true,true,true,true,true,true,true,true,false,true,true,true,false,true,false,false,false] hHeld ?_
                      refine pZ_ 10 (some 109) #[true,true,true,true,true,true,true,true,true,true,true,true,true,true,false,true,false,false,false] ?_
                      refine tZ3_ 14 (some 113) #[true,true,true,true,true,true,true,true,true,true,true,true,true,true,true,true,false,false,false] hHeld ?_
                      refine pZ_ 16 (some 115) #[true,true,true,true,true,true,true,true,true,true,true,true,true,true,true,true,true,false,false] ?_
                      refine pZ_ 17 (some 116) #[true,true,true,true,true,true,true,true,true,true,true,true,true,true,true,true,true,true,false] ?_
                      refine pZ_ 18 (some 13) #[true,true,true,true,true,true,true,true,true,true,true,true,true,true,true,true,true,true,true] ?_
                      refine done_ (done_of HT_.out T15_) ?_
                      have hcz59_0 : w58.cell? ⟨gb101,0,none⟩ = some (.int .i64 a0_0) := (blk_cell BK101.out 0).trans rfl
                      have hcz59_1 : w58.cell? ⟨gb101,1,none⟩ = some (.int .i64 a0_1) := (blk_cell BK101.out 1).trans rfl
                      have hfz59_0 := blk_frozen BK101.out 0
                      have hfz59_1 := blk_frozen BK101.out 1
                      try go_wp2
                      go_ret
                      exact ⟨by first | rfl | (simp [errW_none,errW_some] <;> rfl) | (simp only [← hji22,← hji49,← hji51,← hji53,← hji55];first | rfl | (simp [errW_none,errW_some] <;> rfl)) | (simp [*,errW_none,errW_some] <;> rfl),by repeat (first | (with_reducible first | exact HB.out | apply below_alloc | apply pw_below_drewN | apply below_drew1 | refine below_set ?_ GE101.out) | exact HB.out)⟩
                     ·rw [if_neg c56] at H
                      have c56b0 : ((Go.bits .and .i64 (ji55) 1) == a2) = false := beq_eq_false_iff_ne.mpr c56
                      have c56b1 : ((Go.bits .and .i64 (ji55) 1) != a2) = true := bne_iff_ne.mpr c56
                      have H' := aZ_ H
                      clear H
                      try go_wp2
                      have n0_ := aZ_ (blk_drew BK101.out)
                      have n1_ := aZ_ (below_drew1 HB.out)
                      clear BK101
                      clear HB
                      have BK101 := n0_
                      have HB := n1_
                      clear n0_ n1_
                      have p111 : 0 ≤ (x10_2 : Int) := of_decide_eq_true T6_
                      have q111 : x10_2 < (l3.length : Int) := of_decide_eq_true T6_
                      obtain ⟨ad111,e111,hx111_0⟩ := Kd.at_int HR3.out x10_2 p111 q111
                      have hw111_0 := hx111_0
                      cases e111
                      replace hx111_0 := (HB.out.cell (World.block_lt_of_cell? w _ hx111_0)).trans hx111_0
                      replace p111 := eq_true p111
                      replace q111 := eq_true q111
                      have p112 : 0 ≤ (x11_4 : Int) := of_decide_eq_true T6_
                      have q112 : x11_4 < (l3.length : Int) := of_decide_eq_true T6_
                      obtain ⟨ad112,e112,hx112_0⟩ := Kd.at_int HR3.out x11_4 p112 q112
                      have hw112_0 := hx112_0
                      obtain rfl : ad111 = ad112 := (by injection e112)
                      replace hx112_0 := (HB.out.cell (World.block_lt_of_cell? w _ hx112_0)).trans hx112_0
                      replace p112 := eq_true p112
                      replace q112 := eq_true q112
                      have p113 : 0 ≤ (x11_4 : Int) := of_decide_eq_true T6_
                      have q113 : x11_4 < (l3.length : Int) := of_decide_eq_true T6_
                      obtain ⟨ad113,e113,hx113_0⟩ := Kd.at_int HR3.out x11_4 p113 q113
                      have hw113_0 := hx113_0
                      obtain rfl : ad111 = ad113 := (by injection e113)
                      replace hx113_0 := (HB.out.cell (World.block_lt_of_cell? w _ hx113_0)).trans hx113_0
                      replace p113 := eq_true p113
                      replace q113 := eq_true q113
                      refine start_ (n := 19) (S := fun w' => w'.cell? (ad111.add (x10_2).toNat) = some (.int .i64 (rd l3 x10_2)) ∧ w'.cell? (ad111.add (x11_4).toNat) = some (.int .i64 (rd l3 x11_4)) ∧ w'.cell? (ad111.add (x11_4).toNat) = some (.int .i64 (rd l3 x11_4))) (ds := []) #[false,false,false,false,false,false,false,false,false,false,false,false,false,false,false,false,false,false,false] T15_ rfl rfl ⟨((HB.out.cell (World.block_lt_of_cell? w _ hw111_0)).trans hw111_0),((HB.out.cell (World.block_lt_of_cell? w _ hw112_0)).trans hw112_0),((HB.out.cell (World.block_lt_of_cell? w _ hw113_0)).trans hw113_0)⟩ (fun hHeld => ?_);refine with_tabW spec_IsFooling.tab12 spec_IsFooling.bits12 (fun HT_ HW_ => ?_)
                      generalize wr.drew = w60 at BK101 HB hx111_0 hx112_0 hx113_0 hHeld ⊢
                      refine pZ_ 0 (some 81) #[true,false,false,false,false,false,false,false,false,false,false,false,false,false,false,false,false,false,false] ?_
                      refine pZ_ 1 (some 82) #[true,true,false,false,false,false,false,false,false,false,false,false,false,false,false,false,false,false,false] ?_
                      refine pZ_ 2 (some 83) #[true,true,true,false,false,false,false,false,false,false,false,false,false,false,false,false,false,false,false] ?_
                      refine pZ_ 4 (some 85) #[true,true,true,false,true,false,false,false,false,false,false,false,false,false,false,false,false,false,false] ?_
                      refine pZ_ 6 (some 87) #[true,true,true,false,true,false,true,false,false,false,false,false,false,false,false,false,false,false,false] ?_
                      refine pZ_ 7 (some 88) #[true,true,true,false,true,false,true,true,false,false,false,false,false,false,false,false,false,false,false] ?_
                      refine pZ_ 8 (some 89) #[true,true,true,false,true,false,true,true,true,false,false,false,false,false,false,false,false,false,false] ?_
                      refine pZ_ 11 (some 92) #[true,true,true,false,true,false,true,true,true,false,false,true,false,false,false,false,false,false,false] ?_
                      refine pZ_ 12 (some 93) #[true,true,true,false,true,false,true,true,true,false,false,true,true,false,false,false,false,false,false] ?_
                      refine pZ_ 13 (some 94) #[true,true,true,false,true,false,true,true,true,false,false,true,true,true,false,false,false,false,false] ?_
                      refine pZ_ 15 (some 96) #[true,true,true,false,true,false,true,true,true,false,false,true,true,true,false,true,false,false,false] ?_
                      refine tZ3_ 3 (some 84) #[true,true,true,true,true,false,true,true,true,false,false,true,true,true,false,true,false,false,false] hHeld ?_
                      refine pZ_ 5 (some 86) #[true,true,true,true,true,true,true,true,true,false,false,true,true,true,false,true,false,false,false] ?_
                      refine tZ3_ 9 (some 90) #[true,true,true,true,true,true,true,true,true,true,false,true,true,true,false,true,false,false,false] hHeld ?_
                      refine pZ_ 10 (some 91) #[true,true,true,true,true,true,true,true,true,true,true,true,true,true,false,true,false,false,false] ?_
                      refine tZ3_ 14 (some 95) #[true,true,true,true,true,true,true,true,true,true,true,true,true,true,true,true,false,false,false] hHeld ?_
                      refine pZ_ 16 (some 97) #[true,true,true,true,true,true,true,true,true,true,true,true,true,true,true,true,true,false,false] ?_
                      refine pZ_ 17 (some 98) #[true,true,true,true,true,true,true,true,true,true,true,true,true,true,true,true,true,true,false] ?_
                      refine pZ_ 18 (some 12) #[true,true,true,true,true,true,true,true,true,true,true,true,true,true,true,true,true,true,true] ?_
                      refine done_ (done_of HT_.out T15_) ?_
                      try go_wp2
                      have n0_ := aZ_ (blk_drew BK101.out)
                      have n1_ := aZ_ (below_drew1 HB.out)
                      clear BK101
                      clear HB
                      have BK101 := n0_
                      have HB := n1_
                      clear n0_ n1_
                      have p114 : 0 ≤ (x11_4 : Int) := of_decide_eq_true T6_
                      have q114 : x11_4 < (l3.length : Int) := of_decide_eq_true T6_
                      obtain ⟨ad114,e114,hx114_0⟩ := Kd.at_int HR3.out x11_4 p114 q114
                      have hw114_0 := hx114_0
                      obtain rfl : ad111 = ad114 := (by injection e114)
                      replace hx114_0 := (HB.out.cell (World.block_lt_of_cell? w _ hx114_0)).trans hx114_0
                      replace p114 := eq_true p114
                      replace q114 := eq_true q114
                      have p115 : 0 ≤ (x10_2 : Int) := of_decide_eq_true T6_
                      have q115 : x10_2 < (l3.length : Int) := of_decide_eq_true T6_
                      obtain ⟨ad115,e115,hx115_0⟩ := Kd.at_int HR3.out x10_2 p115 q115
                      have hw115_0 := hx115_0
                      obtain rfl : ad111 = ad115 := (by injection e115)
                      replace hx115_0 := (HB.out.cell (World.block_lt_of_cell? w _ hx115_0)).trans hx115_0
                      replace p115 := eq_true p115
                      replace q115 := eq_true q115
                      have p116 : 0 ≤ (x10_2 : Int) := of_decide_eq_true T6_
                      have q116 : x10_2 < (l3.length : Int) := of_decide_eq_true T6_
                      obtain ⟨ad116,e116,hx116_0⟩ := Kd.at_int HR3.out x10_2 p116 q116
                      have hw116_0 := hx116_0
                      obtain rfl : ad111 = ad116 := (by injection e116)
                      replace hx116_0 := (HB.out.cell (World.block_lt_of_cell? w _ hx116_0)).trans hx116_0
                      replace p116 := eq_true p116
                      replace q116 := eq_true q116
                      refine start_ (n := 19) (S := fun w' => w'.cell? (ad111.add (x11_4).toNat) = some (.int .i64 (rd l3 x11_4)) ∧ w'.cell? (ad111.add (x10_2).toNat) = some (.int .i64 (rd l3 x10_2)) ∧ w'.cell? (ad111.add (x10_2).toNat) = some (.int .i64 (rd l3 x10_2))) (ds := []) #[false,false,false,false,false,false,false,false,false,false,false,false,false,false,false,false,false,false,false] T15_ rfl rfl ⟨((HB.out.cell (World.block_lt_of_cell? w _ hw114_0)).trans hw114_0),((HB.out.cell (World.block_lt_of_cell? w _ hw115_0)).trans hw115_0),((HB.out.cell (World.block_lt_of_cell? w _ hw116_0)).trans hw116_0)⟩ (fun hHeld => ?_);refine with_tabW spec_IsFooling.tab13 spec_IsFooling.bits13 (fun HT_ HW_ => ?_)
                      generalize w60.drew = w61 at BK101 HB hx114_0 hx115_0 hx116_0 hHeld ⊢
                      refine pZ_ 0 (some 99) #[true,false,false,false,false,false,false,false,false,false,false,false,false,false,false,false,false,false,false] ?_
                      refine pZ_ 1 (some 100) #[true,true,false,false,false,false,false,false,false,false,false,false,false,false,false,false,false,false,false] ?_
                      refine pZ_ 2 (some 101) #[true,true,true,false,false,false,false,false,false,false,false,false,false,false,false,false,false,false,false] ?_
                      refine pZ_ 4 (some 103) #[true,true,true,false,true,false,false,false,false,false,false,false,false,false,false,false,false,false,false] ?_
                      refine pZ_ 6 (some 105) #[true,true,true,false,true,false,true,false,false,false,false,false,false,false,false,false,false,false,false] ?_
                      refine pZ_ 7 (some 106) #[true,true,true,false,true,false,true,true,false,false,false,false,false,false,false,false,false,false,false] ?_
                      refine pZ_ 8 (some 107) #[true,true,true,false,true,false,true,true,true,false,false,false,false,false,false,false,false,false,false] ?_
                      refine pZ_ 11 (some 110) #[true,true,true,false,true,false,true,true,true,false,false,true,false,false,false,false,false,false,false] ?_
                      refine pZ_ 12 (some 111) #[true,true,true,false,true,false,true,true,true,false,false,true,true,false,false,false,false,false,false] ?_
                      refine pZ_ 13 (some 112) #[true,true,true,false,true,false,true,true,true,false,false,true,true,true,false,false,false,false,false] ?_
                      refine pZ_ 15 (some 114) #[true,true,true,false,true,false,true,true,true,false,false,true,true,true,false,true,false,false,false] ?_
                      refine tZ3_ 3 (some 102) #[true,true,true,true,true,false,true,true,true,false,false,true,true,true,false,true,false,false,false] hHeld ?_
                      refine pZ_ 5 (some 104) #[true,true,true,true,true,true,true,true,true,false,false,true,true,true,false,true,false,false,false] ?_
                      refine tZ3_ 9 (some 108) #[true,true,true,true,true,true,true,true,true,true,false,true,true,true,false,true,false,false,false] hHeld ?_
                      refine pZ_ 10 (some 109) #[true,true,true,true,true,true,true,true,true,true,true,true,true,true,false,true,false,false,false] ?_
                      refine tZ3_ 14 (some 113) #[true,true,true,true,true,true,true,true,true,true,true,true,true,true,true,true,false,false,false] hHeld ?_
                      refine pZ_ 16 (some 115) #[true,true,true,true,true,true,true,true,true,true,true,true,true,true,true,true,true,false,false] ?_
                      refine pZ_ 17 (some 116) #[true,true,true,true,true,true,true,true,true,true,true,true,true,true,true,true,true,true,false] ?_
                      refine pZ_ 18 (some 13) #[true,true,true,true,true,true,true,true,true,true,true,true,true,true,true,true,true,true,true] ?_
                      refine done_ (done_of HT_.out T15_) ?_
                      have hcz62_0 : w61.cell? ⟨gb101,0,none⟩ = some (.int .i64 a0_0) := (blk_cell BK101.out 0).trans rfl
                      have hcz62_1 : w61.cell? ⟨gb101,1,none⟩ = some (.int .i64 a0_1) := (blk_cell BK101.out 1).trans rfl
                      have hfz62_0 := blk_frozen BK101.out 0
                      have hfz62_1 := blk_frozen BK101.out 1
                      try go_wp2
                      go_roundg k4
                      case measure => have := HJ4.out;have := HK2.out;have := HJ23.out;have := HK4.out;omega
                      case rel => exact ⟨(wrap64 (x11_4 + 1)),T10_,H',⟨by have := HJ4.out;have := HK2.out;have := HJ23.out;have := HK4.out;omega⟩,⟨by (with_reducible repeat (first | refine blk_drewN ?_ _ | refine blk_drew ?_ | refine blk_alloc ?_ _));exact BK101.out⟩,⟨by repeat (first | (with_reducible first | exact HB.out | apply below_alloc | apply pw_below_drewN | apply below_drew1 | refine below_set ?_ GE101.out) | exact HB.out)⟩⟩
                    ·rw [if_neg c54] at H
                     exact absurd H T49_
                   ·rw [if_neg c52] at H
                    have c52b0 : ((Go.bits .and .i64 (ji51) 1) == a2) = false := beq_eq_false_iff_ne.mpr c52
                    have c52b1 : ((Go.bits .and .i64 (ji51) 1) != a2) = true := bne_iff_ne.mpr c52
                    have H' := aZ_ H
                    clear H
                    try go_wp2
                    have n0_ := aZ_ (blk_drew BK101.out)
                    have n1_ := aZ_ (below_drew1 HB.out)
                    clear BK101
                    clear HB
                    have BK101 := n0_
                    have HB := n1_
                    clear n0_ n1_
                    have p111 : 0 ≤ (x10_2 : Int) := of_decide_eq_true T6_
                    have q111 : x10_2 < (l3.length : Int) := of_decide_eq_true T6_
                    obtain ⟨ad111,e111,hx111_0⟩ := Kd.at_int HR3.out x10_2 p111 q111
                    have hw111_0 := hx111_0
                    cases e111
                    replace hx111_0 := (HB.out.cell (World.block_lt_of_cell? w _ hx111_0)).trans hx111_0
                    replace p111 := eq_true p111
                    replace q111 := eq_true q111
                    have p112 : 0 ≤ (x11_4 : Int) := of_decide_eq_true T6_
                    have q112 : x11_4 < (l3.length : Int) := of_decide_eq_true T6_
                    obtain ⟨ad112,e112,hx112_0⟩ := Kd.at_int HR3.out x11_4 p112 q112
                    have hw112_0 := hx112_0
                    obtain rfl : ad111 = ad112 := (by injection e112)
                    replace hx112_0 := (HB.out.cell (World.block_lt_of_cell? w _ hx112_0)).trans hx112_0
                    replace p112 := eq_true p112
                    replace q112 := eq_true q112
                    have p113 : 0 ≤ (x11_4 : Int) := of_decide_eq_true T6_
                    have q113 : x11_4 < (l3.length : Int) := of_decide_eq_true T6_
                    obtain ⟨ad113,e113,hx113_0⟩ := Kd.at_int HR3.out x11_4 p113 q113
                    have hw113_0 := hx113_0
                    obtain rfl : ad111 = ad113 := (by injection e113)
                    replace hx113_0 := (HB.out.cell (World.block_lt_of_cell? w _ hx113_0)).trans hx113_0
                    replace p113 := eq_true p113
                    replace q113 := eq_true q113
                    refine start_ (n := 19) (S := fun w' => w'.cell? (ad111.add (x10_2).toNat) = some (.int .i64 (rd l3 x10_2)) ∧ w'.cell? (ad111.add (x11_4).toNat) = some (.int .i64 (rd l3 x11_4)) ∧ w'.cell? (ad111.add (x11_4).toNat) = some (.int .i64 (rd l3 x11_4))) (ds := []) #[false,false,false,false,false,false,false,false,false,false,false,false,false,false,false,false,false,false,false] T15_ rfl rfl ⟨((HB.out.cell (World.block_lt_of_cell? w _ hw111_0)).trans hw111_0),((HB.out.cell (World.block_lt_of_cell? w _ hw112_0)).trans hw112_0),((HB.out.cell (World.block_lt_of_cell? w _ hw113_0)).trans hw113_0)⟩ (fun hHeld => ?_);refine with_tabW spec_IsFooling.tab12 spec_IsFooling.bits12 (fun HT_ HW_ => ?_)
                    generalize wr.drew = w63 at BK101 HB hx111_0 hx112_0 hx113_0 hHeld ⊢
                    refine pZ_ 0 (some 81) #[true,false,false,false,false,false,false,false,false,false,false,false,false,false,false,false,false,false,false] ?_
                    refine pZ_ 1 (some 82) #[true,true,false,false,false,false,false,false,false,false,false,false,false,false,false,false,false,false,false] ?_
                    refine pZ_ 2 (some 83) #[true,true,true,false,false,false,false,false,false,false,false,false,false,false,false,false,false,false,false] ?_
                    refine pZ_ 4 (some 85) #[true,true,true,false,true,false,false,false,false,false,false,false,false,false,false,false,false,false,false] ?_
                    refine pZ_ 6 (some 87) #[true,true,true,false,true,false,true,false,false,false,false,false,false,false,false,false,false,false,false] ?_
                    refine pZ_ 7 (some 88) #[true,true,true,false,true,false,true,true,false,false,false,false,false,false,false,false,false,false,false] ?_
                    refine pZ_ 8 (some 89) #[true,true,true,false,true,false,true,true,true,false,false,false,false,false,false,false,false,false,false] ?_
                    refine pZ_ 11 (some 92) #[true,true,true,false,true,false,true,true,true,false,false,true,false,false,false,false,false,false,false] ?_
                    refine pZ_ 12 (some 93) #[true,true,true,false,true,false,true,true,true,false,false,true,true,false,false,false,false,false,false] ?_
                    refine pZ_ 13 (some 94) #[true,true,true,false,true,false,true,true,true,false,false,true,true,true,false,false,false,false,false] ?_
                    refine pZ_ 15 (some 96) #[true,true,true,false,true,false,true,true,true,false,false,true,true,true,false,true,false,false,false] ?_
                    refine tZ3_ 3 (some 84) #[true,true,true,true,true,false,true,true,true,false,false,true,true,true,false,true,false,false,false] hHeld ?_
                    refine pZ_ 5 (some 86) #[true,true,true,true,true,true,true,true,true,false,false,true,true,true,false,true,false,false,false] ?_
                    refine tZ3_ 9 (some 90) #[true,true,true,true,true,true,true,true,true,true,false,true,true,true,false,true,false,false,false] hHeld ?_
                    refine pZ_ 10 (some 91) #[true,true,true,true,true,true,true,true,true,true,true,true,true,true,false,true,false,false,false] ?_
                    refine tZ3_ 14 (some 95) #[true,true,true,true,true,true,true,true,true,true,true,true,true,true,true,true,false,false,false] hHeld ?_
                    refine pZ_ 16 (some 97) #[true,true,true,true,true,true,true,true,true,true,true,true,true,true,true,true,true,false,false] ?_
                    refine pZ_ 17 (some 98) #[true,true,true,true,true,true,true,true,true,true,true,true,true,true,true,true,true,true,false] ?_
                    refine pZ_ 18 (some 12) #[true,true,true,true,true,true,true,true,true,true,true,true,true,true,true,true,true,true,true] ?_
                    refine done_ (done_of HT_.out T15_) ?_
                    try go_wp2
                    have n0_ := aZ_ (blk_drew BK101.out)
                    have n1_ := aZ_ (below_drew1 HB.out)
                    clear BK101
                    clear HB
                    have BK101 := n0_
                    have HB := n1_
                    clear n0_ n1_
                    have p114 : 0 ≤ (x11_4 : Int) := of_decide_eq_true T6_
                    have q114 : x11_4 < (l3.length : Int) := of_decide_eq_true T6_
                    obtain ⟨ad114,e114,hx114_0⟩ := Kd.at_int HR3.out x11_4 p114 q114
                    have hw114_0 := hx114_0
                    obtain rfl : ad111 = ad114 := (by injection e114)
                    replace hx114_0 := (HB.out.cell (World.block_lt_of_cell? w _ hx114_0)).trans hx114_0
                    replace p114 := eq_true p114
                    replace q114 := eq_true q114
                    have p115 : 0 ≤ (x10_2 : Int) := of_decide_eq_true T6_
                    have q115 : x10_2 < (l3.length : Int) := of_decide_eq_true T6_
                    obtain ⟨ad115,e115,hx115_0⟩ := Kd.at_int HR3.out x10_2 p115 q115
                    have hw115_0 := hx115_0
                    obtain rfl : ad111 = ad115 := (by injection e115)
                    replace hx115_0 := (HB.out.cell (World.block_lt_of_cell? w _ hx115_0)).trans hx115_0
                    replace p115 := eq_true p115
                    replace q115 := eq_true q115
                    have p116 : 0 ≤ (x10_2 : Int) := of_decide_eq_true T6_
                    have q116 : x10_2 < (l3.length : Int) := of_decide_eq_true T6_
                    obtain ⟨ad116,e116,hx116_0⟩ := Kd.at_int HR3.out x10_2 p116 q116
                    have hw116_0 := hx116_0
                    obtain rfl : ad111 = ad116 := (by injection e116)
                    replace hx116_0 := (HB.out.cell (World.block_lt_of_cell? w _ hx116_0)).trans hx116_0
                    replace p116 := eq_true p116
                    replace q116 := eq_true q116
                    refine start_ (n := 19) (S := fun w' => w'.cell? (ad111.add (x11_4).toNat) = some (.int .i64 (rd l3 x11_4)) ∧ w'.cell? (ad111.add (x10_2).toNat) = some (.int .i64 (rd l3 x10_2)) ∧ w'.cell? (ad111.add (x10_2).toNat) = some (.int .i64 (rd l3 x10_2))) (ds := []) #[false,false,false,false,false,false,false,false,false,false,false,false,false,false,false,false,false,false,false] T15_ rfl rfl ⟨((HB.out.cell (World.block_lt_of_cell? w _ hw114_0)).trans hw114_0),((HB.out.cell (World.block_lt_of_cell? w _ hw115_0)).trans hw115_0),((HB.out.cell (World.block_lt_of_cell? w _ hw116_0)).trans hw116_0)⟩ (fun hHeld => ?_);refine with_tabW spec_IsFooling.tab13 spec_IsFooling.bits13 (fun HT_ HW_ => ?_)
                    generalize w63.drew = w64 at BK101 HB hx114_0 hx115_0 hx116_0 hHeld ⊢
                    refine pZ_ 0 (some 99) #[true,false,false,false,false,false,false,false,false,false,false,false,false,false,false,false,false,false,false] ?_
                    refine pZ_ 1 (some 100) #[true,true,false,false,false,false,false,false,false,false,false,false,false,false,false,false,false,false,false] ?_
                    refine pZ_ 2 (some 101) #[true,true,true,false,false,false,false,false,false,false,false,false,false,false,false,false,false,false,false] ?_
                    refine pZ_ 4 (some 103) #[true,true,true,false,true,false,false,false,false,false,false,false,false,false,false,false,false,false,false] ?_
                    refine pZ_ 6 (some 105) #[true,true,true,false,true,false,true,false,false,false,false,false,false,false,false,false,false,false,false] ?_
                    refine pZ_ 7 (some 106) #[true,true,true,false,true,false,true,true,false,false,false,false,false,false,false,false,false,false,false] ?_
                    refine pZ_ 8 (some 107) #[true,true,true,false,true,false,true,true,true,false,false,false,false,false,false,false,false,false,false] ?_
                    refine pZ_ 11 (some 110) #[true,true,true,false,true,false,true,true,true,false,false,true,false,false,false,false,false,false,false] ?_
                    refine pZ_ 12 (some 111) #[true,true,true,false,true,false,true,true,true,false,false,true,true,false,false,false,false,false,false] ?_
                    refine pZ_ 13 (some 112) #[true,true,true,false,true,false,true,true,true,false,false,true,true,true,false,false,false,false,false] ?_
                    refine pZ_ 15 (some 114) #[true,true,true,false,true,false,true,true,true,false,false,true,true,true,false,true,false,false,false] ?_
                    refine tZ3_ 3 (some 102) #[true,true,true,true,true,false,true,true,true,false,false,true,true,true,false,true,false,false,false] hHeld ?_
                    refine pZ_ 5 (some 104) #[true,true,true,true,true,true,true,true,true,false,false,true,true,true,false,true,false,false,false] ?_
                    refine tZ3_ 9 (some 108) #[true,true,true,true,true,true,true,true,true,true,false,true,true,true,false,true,false,false,false] hHeld ?_
                    refine pZ_ 10 (some 109) #[true,true,true,true,true,true,true,true,true,true,true,true,true,true,false,true,false,false,false] ?_
                    refine tZ3_ 14 (some 113) #[true,true,true,true,true,true,true,true,true,true,true,true,true,true,true,true,false,false,false] hHeld ?_
                    refine pZ_ 16 (some 115) #[true,true,true,true,true,true,true,true,true,true,true,true,true,true,true,true,true,false,false] ?_
                    refine pZ_ 17 (some 116) #[true,true,true,true,true,true,true,true,true,true,true,true,true,true,true,true,true,true,false] ?_
                    refine pZ_ 18 (some 13) #[true,true,true,true,true,true,true,true,true,true,true,true,true,true,true,true,true,true,true] ?_
                    refine done_ (done_of HT_.out T15_) ?_
                    have hcz65_0 : w64.cell? ⟨gb101,0,none⟩ = some (.int .i64 a0_0) := (blk_cell BK101.out 0).trans rfl
                    have hcz65_1 : w64.cell? ⟨gb101,1,none⟩ = some (.int .i64 a0_1) := (blk_cell BK101.out 1).trans rfl
                    have hfz65_0 := blk_frozen BK101.out 0
                    have hfz65_1 := blk_frozen BK101.out 1
                    try go_wp2
                    go_roundg k4
                    case measure => have := HJ4.out;have := HK2.out;have := HJ23.out;have := HK4.out;omega
                    case rel => exact ⟨(wrap64 (x11_4 + 1)),T10_,H',⟨by have := HJ4.out;have := HK2.out;have := HJ23.out;have := HK4.out;omega⟩,⟨by (with_reducible repeat (first | refine blk_drewN ?_ _ | refine blk_drew ?_ | refine blk_alloc ?_ _));exact BK101.out⟩,⟨by repeat (first | (with_reducible first | exact HB.out | apply below_alloc | apply pw_below_drewN | apply below_drew1 | refine below_set ?_ GE101.out) | exact HB.out)⟩⟩
                  ·rw [if_neg c50] at H
                   exact absurd H T49_
                 ·rw [if_neg c48] at H
                  exact absurd H T49_
                ·rw [if_neg c47] at H
                 exact absurd H T49_
               ·rw [if_neg c46] at H
                exact absurd H T49_
              ·rw [if_neg c45] at H
               exact absurd H T49_
             ·rw [if_neg c44] at H
              have c44b0 : decide (x11_4 < x10_2) = false := decide_eq_false c44
              clear c44
              have H' := aZ_ H
              clear H
              go_wp2
              go_roundg k4
              case measure => have := HJ4.out;have := HK2.out;have := HJ23.out;have := HK4.out;omega
              case rel => exact ⟨(wrap64 (x10_2 + 1)),T10_,H',⟨by have := HJ4.out;have := HK2.out;have := HJ23.out;have := HK4.out;omega⟩,⟨by (with_reducible repeat (first | refine blk_drewN ?_ _ | refine blk_drew ?_ | refine blk_alloc ?_ _));exact BK101.out⟩,⟨by repeat (first | (with_reducible first | exact HB.out | apply below_alloc | apply pw_below_drewN | apply below_drew1 | refine below_set ?_ GE101.out) | exact HB.out)⟩⟩
       ·rw [if_neg c23] at H
        have c23b0 : decide (x10_2 < (l3.length : Int)) = false := decide_eq_false c23
        clear c23
        obtain rfl := Option.some.inj H
        go_wp2
        go_ret
        exact ⟨by first | rfl | (simp [errW_none,errW_some] <;> rfl) | (simp only [← hji22];first | rfl | (simp [errW_none,errW_some] <;> rfl)) | (simp [*,errW_none,errW_some] <;> rfl),by repeat (first | (with_reducible first | exact HB.out | apply below_alloc | apply pw_below_drewN | apply below_drew1 | refine below_set ?_ GE101.out) | exact HB.out)⟩
    ·rw [if_neg c21] at H
     exact absurd H T49_
end Go.Proofs.Ythlajlhjofjmcaa.F
