/- Walks of Go functions and lemmas on what they compute, for the row of FnSpectra (a part of several): each call ends as the Lean function of its name tells; the conditions are those of each theorem. -/
import Derived.Test.YtflacbjpeecjcaaM1FnSpectra
import Derived.Test.YtflacbjpeecjcaaM2FnSpectra
import Derived.Test.YtflacbjpeecjcaaM3FnSpectra
import Derived.Test.YtflacbjpeecjcaaM4FnSpectra
import Derived.Test.YtflacbjpeecjcaaM6FnSpectra
namespace Go.Proofs.Ytflacbjpeecjcaa.F
open Go.RowKit Go.Proofs.YtflacbjpeecjcaaW.PrintWords Go.Proofs.YtflacbjpeecjcaaW.PrintLast Go.Proofs.YtflacbjpeecjcaaW.PrintMore
attribute [local go_sem] max2_int min2_int max_two min_two max_three min_three max_four min_four 
set_option linter.unusedVariables false
set_option linter.unusedSimpArgs false
def spec_IsBent.l0 : Nat → List Int → Int → Int → Int → Option (Bool)
 | 0,_,_,_,_ => none
 | k + 1,x3,x4,x102000,x102001 => if x4 < (x3.length : Int) then (if 0 ≤ x4 then (if 0 < (x3.length : Int) then (if (wrap64 ((rd x3 x4) * (rd x3 x4))) = (wrap64 ((rd x3 0) * (rd x3 0))) then (spec_IsBent.l0 k x3 (wrap64 (x4 + 1)) x102000 x102001) else (some false)) else (none)) else (none)) else ((spec_IsTable.f x102000 x102001).bind fun t109 => (if t109 = true then (if x102000 = 2 then (some true) else (some (x102000 == 4))) else (some false)))
def spec_IsBent.f (k : Nat) (a0_0 : Int) (a0_1 : Int) : Option (Bool) := (spec_SpectrumOf.f k a0_0 a0_1).bind fun t102 => (spec_IsBent.l0 k t102 1 a0_0 a0_1)
set_option maxHeartbeats 8000000 in
set_option maxRecDepth 100000 in
theorem spec_IsBent.calls (k : Nat) (a0_0 : Int) (a0_1 : Int) (r : Bool) (w : World) (h : spec_IsBent.f k a0_0 a0_1 = some r) :
  Calls Try.prog 52 #[.agg #[.int .i64 a0_0,.int .i64 a0_1]] w fun e w' => e = .returned (.bool r) ∧ Below w.heap.size w w' := by
 have hu25 := Try.underlying25
 have HB := aZ_ (Below.refl w.heap.size w)
 have H : ((spec_SpectrumOf.f k a0_0 a0_1).bind fun t102 => (spec_IsBent.l0 k t102 1 a0_0 a0_1)) = some r := h
 clear h
 replace H := Option.bind_eq_some_iff.mp H
 obtain ⟨t102,A20,H⟩ := H
 replace H : (spec_IsBent.l0 k t102 1 a0_0 a0_1) = some r := H
 have A2 := aZ_ A20
 clear A20
 have H' := aZ_ H
 clear H
 go_enter Try.func52,Try.ntmps52
 go_wp2_with (first | ((with_reducible refine gate_dst (N := 1) rfl ?_);refine box_event ?hg (N := 1) ?hd (cs := #[.int .i64 a0_0,.int .i64 a0_1]) (t := 25) ?hr ?_;(case hd => rfl);(case hg => rfl);(case hr => first | (go_simp;done) | (go_simp;rfl));intro gb101 hg w3 hbox hb;have n0_ := aZ_ (below_step T7_ hb);have n1_ := aZ_ (hbox);have n2_ := aZ_ ((T4_ : w.heap.size ≤ gb101));have n3_ := aZ_ ((T4_ : w.heap.size ≤ gb101));clear HB;have HB := n0_;have BK101 := n1_;have GW101 := n2_;have GE101 := n3_;clear n0_ n1_ n2_ n3_;clear hb hbox hg;have hcz4_0 : w3.cell? ⟨gb101,0,none⟩ = some (.int .i64 a0_0) := (blk_cell BK101.out 0).trans rfl;have hcz4_1 : w3.cell? ⟨gb101,1,none⟩ = some (.int .i64 a0_1) := (blk_cell BK101.out 1).trans rfl;have hfz4_0 := blk_frozen BK101.out 0;have hfz4_1 := blk_frozen BK101.out 1) | (go_at_call 8;(with_reducible refine (spec_SpectrumOf.calls k a0_0 a0_1 t102 _ A2.out).mono ?_);rintro e w5 ⟨v103,rfl,ho0,hb⟩;have n0_ := aZ_ (Kd.R_lower ho0 (below_size T1_));have n1_ := aZ_ (blk_below (g := gb101) (o := .cells #[.int .i64 a0_0,.int .i64 a0_1] 25 (0,0)) T2_ hb);have n2_ := aZ_ (below_step T1_ hb);clear BK101;clear HB;have HO104 := n0_;have BK101 := n1_;have HB := n2_;clear n0_ n1_ n2_;(try clear hb);(try clear hb2);(try clear hk);(try clear hi);(try clear ho0)))
 repeat (go_quiet (first | ((with_reducible refine gate_dst (N := 1) rfl ?_);refine box_event ?hg (N := 1) ?hd (cs := #[.int .i64 a0_0,.int .i64 a0_1]) (t := 25) ?hr ?_;(case hd => rfl);(case hg => rfl);(case hr => first | (go_simp;done) | (go_simp;rfl));intro gb101 hg w3 hbox hb;have n0_ := aZ_ (below_step T7_ hb);have n1_ := aZ_ (hbox);have n2_ := aZ_ ((T4_ : w.heap.size ≤ gb101));have n3_ := aZ_ ((T4_ : w.heap.size ≤ gb101));clear HB;have HB := n0_;have BK101 := n1_;have GW101 := n2_;have GE101 := n3_;clear n0_ n1_ n2_ n3_;clear hb hbox hg;have hcz4_0 : w3.cell? ⟨gb101,0,none⟩ = some (.int .i64 a0_0) := (blk_cell BK101.out 0).trans rfl;have hcz4_1 : w3.cell? ⟨gb101,1,none⟩ = some (.int .i64 a0_1) := (blk_cell BK101.out 1).trans rfl;have hfz4_0 := blk_frozen BK101.out 0;have hfz4_1 := blk_frozen BK101.out 1) | (go_at_call 8;(with_reducible refine (spec_SpectrumOf.calls k a0_0 a0_1 t102 _ A2.out).mono ?_);rintro e w5 ⟨v103,rfl,ho0,hb⟩;have n0_ := aZ_ (Kd.R_lower ho0 (below_size T1_));have n1_ := aZ_ (blk_below (g := gb101) (o := .cells #[.int .i64 a0_0,.int .i64 a0_1] 25 (0,0)) T2_ hb);have n2_ := aZ_ (below_step T1_ hb);clear BK101;clear HB;have HO104 := n0_;have BK101 := n1_;have HB := n2_;clear n0_ n1_ n2_;(try clear hb);(try clear hb2);(try clear hk);(try clear hi);(try clear ho0)));try go_wp2_with (first | ((with_reducible refine gate_dst (N := 1) rfl ?_);refine box_event ?hg (N := 1) ?hd (cs := #[.int .i64 a0_0,.int .i64 a0_1]) (t := 25) ?hr ?_;(case hd => rfl);(case hg => rfl);(case hr => first | (go_simp;done) | (go_simp;rfl));intro gb101 hg w3 hbox hb;have n0_ := aZ_ (below_step T7_ hb);have n1_ := aZ_ (hbox);have n2_ := aZ_ ((T4_ : w.heap.size ≤ gb101));have n3_ := aZ_ ((T4_ : w.heap.size ≤ gb101));clear HB;have HB := n0_;have BK101 := n1_;have GW101 := n2_;have GE101 := n3_;clear n0_ n1_ n2_ n3_;clear hb hbox hg;have hcz4_0 : w3.cell? ⟨gb101,0,none⟩ = some (.int .i64 a0_0) := (blk_cell BK101.out 0).trans rfl;have hcz4_1 : w3.cell? ⟨gb101,1,none⟩ = some (.int .i64 a0_1) := (blk_cell BK101.out 1).trans rfl;have hfz4_0 := blk_frozen BK101.out 0;have hfz4_1 := blk_frozen BK101.out 1) | (go_at_call 8;(with_reducible refine (spec_SpectrumOf.calls k a0_0 a0_1 t102 _ A2.out).mono ?_);rintro e w5 ⟨v103,rfl,ho0,hb⟩;have n0_ := aZ_ (Kd.R_lower ho0 (below_size T1_));have n1_ := aZ_ (blk_below (g := gb101) (o := .cells #[.int .i64 a0_0,.int .i64 a0_1] 25 (0,0)) T2_ hb);have n2_ := aZ_ (below_step T1_ hb);clear BK101;clear HB;have HO104 := n0_;have BK101 := n1_;have HB := n2_;clear n0_ n1_ n2_;(try clear hb);(try clear hb2);(try clear hk);(try clear hi);(try clear ho0))))
 go_loopg [4] k (fun kq v4 w' => ∃ (x4_1 : Int),v4 = .int .i64 x4_1 ∧ Aside0 (spec_IsBent.l0 kq t102 x4_1 a0_0 a0_1 = some r) ∧ Aside0 (kq ≤ k) ∧ Aside0 (Kd.R (Kd.int .i64) 3 w' w.heap.size (fun _ => True) v103 t102) ∧ Aside0 (w'.heap[gb101]? = some (.cells #[.int .i64 a0_0,.int .i64 a0_1] 25 (0,0))) ∧ Aside0 (Below w.heap.size w w'))
 case atStart => exact ⟨(1),T6_,H',⟨Nat.le_refl _⟩,⟨by (with_reducible repeat (first | apply Kd.R_alloc | apply Kd.R_drewN | apply Kd.R_drew));exact HO104.out⟩,⟨by (with_reducible repeat (first | refine blk_drewN ?_ _ | refine blk_drew ?_ | refine blk_alloc ?_ _));exact BK101.out⟩,⟨by repeat (first | (with_reducible first | exact HB.out | apply below_alloc | apply pw_below_drewN | apply below_drew1 | refine below_set ?_ GE101.out) | exact HB.out)⟩⟩
 case round =>
  clear H'
  try clear p2
  try clear c5
  try clear hcz4_0
  try clear hcz4_1
  try clear hfz4_0
  try clear hfz4_1
  obtain ⟨x4_1,rfl,HA,HK1,HO_3,BK101,HB⟩ := hrel
  cases gk with
  | zero => exact absurd HA.out (by simp [spec_IsBent.l0])
  | succ k1 =>
   have H := HA.out
   clear HA
   simp only [spec_IsBent.l0] at H
   by_cases c6 : x4_1 < (t102.length : Int)
   ·rw [if_pos c6] at H
    have c6b0 : decide (x4_1 < (t102.length : Int)) = true := decide_eq_true c6
    clear c6
    by_cases c7 : 0 ≤ x4_1
    ·rw [if_pos c7] at H
     have c7b0 : decide (0 ≤ x4_1) = true := decide_eq_true c7
     clear c7
     by_cases c8 : 0 < (t102.length : Int)
     ·rw [if_pos c8] at H
      have c8b0 : decide (0 < (t102.length : Int)) = true := decide_eq_true c8
      have c8b1 : decide (0 < t102.length) = true := decide_eq_true T48_
      clear c8
      by_cases c9 : (wrap64 ((rd t102 x4_1) * (rd t102 x4_1))) = (wrap64 ((rd t102 0) * (rd t102 0)))
      ·rw [if_pos c9] at H
       have c9b0 : ((wrap64 ((rd t102 x4_1) * (rd t102 x4_1))) == (wrap64 ((rd t102 0) * (rd t102 0)))) = true := beq_iff_eq.mpr c9
       have c9b1 : ((wrap64 ((rd t102 x4_1) * (rd t102 x4_1))) != (wrap64 ((rd t102 0) * (rd t102 0)))) = false := bne_eq_false_iff_eq.mpr c9
       clear c9
       have H' := aZ_ H
       clear H
       obtain ⟨Ao10,co10,eo10⟩ := Kd.R_slice HO_3.out
       subst eo10
       have p105 : 0 ≤ (x4_1 : Int) := of_decide_eq_true T10_
       have q105 : x4_1 < (t102.length : Int) := of_decide_eq_true T10_
       obtain ⟨ad105,e105,hx105_0⟩ := Kd.at_int (Kd.R_reads' HO_3.out).2.2 x4_1 p105 q105
       cases e105
       replace p105 := eq_true p105
       replace q105 := eq_true q105
       have p106 : 0 ≤ (x4_1 : Int) := of_decide_eq_true T10_
       have q106 : x4_1 < (t102.length : Int) := of_decide_eq_true T10_
       obtain ⟨ad106,e106,hx106_0⟩ := Kd.at_int (Kd.R_reads' HO_3.out).2.2 x4_1 p106 q106
       obtain rfl : ad105 = ad106 := (by injection e106)
       replace p106 := eq_true p106
       replace q106 := eq_true q106
       have p107 : 0 ≤ (0 : Int) := T48_
       have q107 : 0 < (t102.length : Int) := of_decide_eq_true T10_
       obtain ⟨ad107,e107,hx107_0⟩ := Kd.at_int (Kd.R_reads' HO_3.out).2.2 0 p107 q107
       obtain rfl : ad105 = ad107 := (by injection e107)
       have qi107 : (0 < t102.length) = True := eq_true T48_
       (try rw [show ((0 : Int)).toNat = 0 from rfl] at hx107_0)
       (try rw [Addr.add_zero'] at hx107_0)
       replace p107 := eq_true p107
       replace q107 := eq_true q107
       have p108 : 0 ≤ (0 : Int) := T48_
       have q108 : 0 < (t102.length : Int) := of_decide_eq_true T10_
       obtain ⟨ad108,e108,hx108_0⟩ := Kd.at_int (Kd.R_reads' HO_3.out).2.2 0 p108 q108
       obtain rfl : ad105 = ad108 := (by injection e108)
       have qi108 : (0 < t102.length) = True := eq_true T48_
       (try rw [show ((0 : Int)).toNat = 0 from rfl] at hx108_0)
       (try rw [Addr.add_zero'] at hx108_0)
       replace p108 := eq_true p108
       replace q108 := eq_true q108
       go_wp2
       repeat (go_quiet (fail);try go_wp2)
       go_roundg k1
       case measure => have := HK1.out;omega
       case rel => exact ⟨(wrap64 (x4_1 + 1)),T6_,H',⟨by have := HK1.out;omega⟩,⟨by (with_reducible repeat (first | apply Kd.R_alloc | apply Kd.R_drewN | apply Kd.R_drew));exact HO_3.out⟩,⟨by (with_reducible repeat (first | refine blk_drewN ?_ _ | refine blk_drew ?_ | refine blk_alloc ?_ _));exact BK101.out⟩,⟨by repeat (first | (with_reducible first | exact HB.out | apply below_alloc | apply pw_below_drewN | apply below_drew1 | refine below_set ?_ GE101.out) | exact HB.out)⟩⟩
      ·rw [if_neg c9] at H
       have c9b0 : ((wrap64 ((rd t102 x4_1) * (rd t102 x4_1))) == (wrap64 ((rd t102 0) * (rd t102 0)))) = false := beq_eq_false_iff_ne.mpr c9
       have c9b1 : ((wrap64 ((rd t102 x4_1) * (rd t102 x4_1))) != (wrap64 ((rd t102 0) * (rd t102 0)))) = true := bne_iff_ne.mpr c9
       obtain rfl := Option.some.inj H
       obtain ⟨Ao11,co11,eo11⟩ := Kd.R_slice HO_3.out
       subst eo11
       have p105 : 0 ≤ (x4_1 : Int) := of_decide_eq_true T10_
       have q105 : x4_1 < (t102.length : Int) := of_decide_eq_true T10_
       obtain ⟨ad105,e105,hx105_0⟩ := Kd.at_int (Kd.R_reads' HO_3.out).2.2 x4_1 p105 q105
       cases e105
       replace p105 := eq_true p105
       replace q105 := eq_true q105
       have p106 : 0 ≤ (x4_1 : Int) := of_decide_eq_true T10_
       have q106 : x4_1 < (t102.length : Int) := of_decide_eq_true T10_
       obtain ⟨ad106,e106,hx106_0⟩ := Kd.at_int (Kd.R_reads' HO_3.out).2.2 x4_1 p106 q106
       obtain rfl : ad105 = ad106 := (by injection e106)
       replace p106 := eq_true p106
       replace q106 := eq_true q106
       have p107 : 0 ≤ (0 : Int) := T48_
       have q107 : 0 < (t102.length : Int) := of_decide_eq_true T10_
       obtain ⟨ad107,e107,hx107_0⟩ := Kd.at_int (Kd.R_reads' HO_3.out).2.2 0 p107 q107
       obtain rfl : ad105 = ad107 := (by injection e107)
       have qi107 : (0 < t102.length) = True := eq_true T48_
       (try rw [show ((0 : Int)).toNat = 0 from rfl] at hx107_0)
       (try rw [Addr.add_zero'] at hx107_0)
       replace p107 := eq_true p107
       replace q107 := eq_true q107
       have p108 : 0 ≤ (0 : Int) := T48_
       have q108 : 0 < (t102.length : Int) := of_decide_eq_true T10_
       obtain ⟨ad108,e108,hx108_0⟩ := Kd.at_int (Kd.R_reads' HO_3.out).2.2 0 p108 q108
       obtain rfl : ad105 = ad108 := (by injection e108)
       have qi108 : (0 < t102.length) = True := eq_true T48_
       (try rw [show ((0 : Int)).toNat = 0 from rfl] at hx108_0)
       (try rw [Addr.add_zero'] at hx108_0)
       replace p108 := eq_true p108
       replace q108 := eq_true q108
       go_wp2
       repeat (go_quiet (fail);try go_wp2)
       go_ret
       exact ⟨by first | rfl | (simp [errW_none,errW_some] <;> rfl) | (simp [*,errW_none,errW_some] <;> rfl),by repeat (first | (with_reducible first | exact HB.out | apply below_alloc | apply pw_below_drewN | apply below_drew1 | refine below_set ?_ GE101.out) | exact HB.out)⟩
     ·rw [if_neg c8] at H
      exact absurd H T42_
    ·rw [if_neg c7] at H
     exact absurd H T42_
   ·rw [if_neg c6] at H
    have c6b0 : decide (x4_1 < (t102.length : Int)) = false := decide_eq_false c6
    clear c6
    replace H := Option.bind_eq_some_iff.mp H
    obtain ⟨t109,A120,H⟩ := H
    replace H : (if t109 = true then (if a0_0 = 2 then (some true) else (some (a0_0 == 4))) else (some false)) = some r := H
    have A12 := aZ_ A120
    clear A120
    by_cases c13 : t109 = true
    ·subst c13
     have H1 : (if a0_0 = 2 then (some true) else (some (a0_0 == 4))) = some r := by rw [if_pos rfl] at H;exact H
     clear H
     have H := H1
     clear H1
     by_cases c14 : a0_0 = 2
     ·rw [if_pos c14] at H
      have c14b0 : (a0_0 == 2) = true := beq_iff_eq.mpr c14
      have c14b1 : (a0_0 != 2) = false := bne_eq_false_iff_eq.mpr c14
      clear c14
      obtain rfl := Option.some.inj H
      obtain ⟨Ao15,co15,eo15⟩ := Kd.R_slice HO_3.out
      subst eo15
      have hcz16_0 : wr.cell? ⟨gb101,0,none⟩ = some (.int .i64 a0_0) := (blk_cell BK101.out 0).trans rfl
      have hcz16_1 : wr.cell? ⟨gb101,1,none⟩ = some (.int .i64 a0_1) := (blk_cell BK101.out 1).trans rfl
      have hfz16_0 := blk_frozen BK101.out 0
      have hfz16_1 := blk_frozen BK101.out 1
      go_wp2_with (first | (go_at_call 34;(with_reducible refine (spec_IsTable.calls a0_0 a0_1 true _ A12.out).mono ?_);rintro e w17 ⟨rfl,hb⟩;have n0_ := aZ_ (Kd.R_below T17_ hb);have n1_ := aZ_ (blk_below (g := gb101) (o := .cells #[.int .i64 a0_0,.int .i64 a0_1] 25 (0,0)) T2_ hb);have n2_ := aZ_ (below_step T1_ hb);clear HO_3;clear BK101;clear HB;have HO_3 := n0_;have BK101 := n1_;have HB := n2_;clear n0_ n1_ n2_;(try clear hb);(try clear hb2);(try clear hk);(try clear hi);have hcz18_0 : w17.cell? ⟨gb101,0,none⟩ = some (.int .i64 a0_0) := (blk_cell BK101.out 0).trans rfl;have hcz18_1 : w17.cell? ⟨gb101,1,none⟩ = some (.int .i64 a0_1) := (blk_cell BK101.out 1).trans rfl;have hfz18_0 := blk_frozen BK101.out 0;have hfz18_1 := blk_frozen BK101.out 1))
      repeat (go_quiet (first | (go_at_call 34;(with_reducible refine (spec_IsTable.calls a0_0 a0_1 true _ A12.out).mono ?_);rintro e w17 ⟨rfl,hb⟩;have n0_ := aZ_ (Kd.R_below T17_ hb);have n1_ := aZ_ (blk_below (g := gb101) (o := .cells #[.int .i64 a0_0,.int .i64 a0_1] 25 (0,0)) T2_ hb);have n2_ := aZ_ (below_step T1_ hb);clear HO_3;clear BK101;clear HB;have HO_3 := n0_;have BK101 := n1_;have HB := n2_;clear n0_ n1_ n2_;(try clear hb);(try clear hb2);(try clear hk);(try clear hi);have hcz18_0 : w17.cell? ⟨gb101,0,none⟩ = some (.int .i64 a0_0) := (blk_cell BK101.out 0).trans rfl;have hcz18_1 : w17.cell? ⟨gb101,1,none⟩ = some (.int .i64 a0_1) := (blk_cell BK101.out 1).trans rfl;have hfz18_0 := blk_frozen BK101.out 0;have hfz18_1 := blk_frozen BK101.out 1));try go_wp2_with (first | (go_at_call 34;(with_reducible refine (spec_IsTable.calls a0_0 a0_1 true _ A12.out).mono ?_);rintro e w17 ⟨rfl,hb⟩;have n0_ := aZ_ (Kd.R_below T17_ hb);have n1_ := aZ_ (blk_below (g := gb101) (o := .cells #[.int .i64 a0_0,.int .i64 a0_1] 25 (0,0)) T2_ hb);have n2_ := aZ_ (below_step T1_ hb);clear HO_3;clear BK101;clear HB;have HO_3 := n0_;have BK101 := n1_;have HB := n2_;clear n0_ n1_ n2_;(try clear hb);(try clear hb2);(try clear hk);(try clear hi);have hcz18_0 : w17.cell? ⟨gb101,0,none⟩ = some (.int .i64 a0_0) := (blk_cell BK101.out 0).trans rfl;have hcz18_1 : w17.cell? ⟨gb101,1,none⟩ = some (.int .i64 a0_1) := (blk_cell BK101.out 1).trans rfl;have hfz18_0 := blk_frozen BK101.out 0;have hfz18_1 := blk_frozen BK101.out 1)))
      go_ret
      exact ⟨by first | rfl | (simp [errW_none,errW_some] <;> rfl) | (simp [*,errW_none,errW_some] <;> rfl),by repeat (first | (with_reducible first | exact HB.out | apply below_alloc | apply pw_below_drewN | apply below_drew1 | refine below_set ?_ GE101.out) | exact HB.out)⟩
     ·rw [if_neg c14] at H
      have c14b0 : (a0_0 == 2) = false := beq_eq_false_iff_ne.mpr c14
      have c14b1 : (a0_0 != 2) = true := bne_iff_ne.mpr c14
      obtain rfl := Option.some.inj H
      obtain ⟨Ao19,co19,eo19⟩ := Kd.R_slice HO_3.out
      subst eo19
      have hcz20_0 : wr.cell? ⟨gb101,0,none⟩ = some (.int .i64 a0_0) := (blk_cell BK101.out 0).trans rfl
      have hcz20_1 : wr.cell? ⟨gb101,1,none⟩ = some (.int .i64 a0_1) := (blk_cell BK101.out 1).trans rfl
      have hfz20_0 := blk_frozen BK101.out 0
      have hfz20_1 := blk_frozen BK101.out 1
      go_wp2_with (first | (go_at_call 34;(with_reducible refine (spec_IsTable.calls a0_0 a0_1 true _ A12.out).mono ?_);rintro e w21 ⟨rfl,hb⟩;have n0_ := aZ_ (Kd.R_below T17_ hb);have n1_ := aZ_ (blk_below (g := gb101) (o := .cells #[.int .i64 a0_0,.int .i64 a0_1] 25 (0,0)) T2_ hb);have n2_ := aZ_ (below_step T1_ hb);clear HO_3;clear BK101;clear HB;have HO_3 := n0_;have BK101 := n1_;have HB := n2_;clear n0_ n1_ n2_;(try clear hb);(try clear hb2);(try clear hk);(try clear hi);have hcz22_0 : w21.cell? ⟨gb101,0,none⟩ = some (.int .i64 a0_0) := (blk_cell BK101.out 0).trans rfl;have hcz22_1 : w21.cell? ⟨gb101,1,none⟩ = some (.int .i64 a0_1) := (blk_cell BK101.out 1).trans rfl;have hfz22_0 := blk_frozen BK101.out 0;have hfz22_1 := blk_frozen BK101.out 1))
      repeat (go_quiet (first | (go_at_call 34;(with_reducible refine (spec_IsTable.calls a0_0 a0_1 true _ A12.out).mono ?_);rintro e w21 ⟨rfl,hb⟩;have n0_ := aZ_ (Kd.R_below T17_ hb);have n1_ := aZ_ (blk_below (g := gb101) (o := .cells #[.int .i64 a0_0,.int .i64 a0_1] 25 (0,0)) T2_ hb);have n2_ := aZ_ (below_step T1_ hb);clear HO_3;clear BK101;clear HB;have HO_3 := n0_;have BK101 := n1_;have HB := n2_;clear n0_ n1_ n2_;(try clear hb);(try clear hb2);(try clear hk);(try clear hi);have hcz22_0 : w21.cell? ⟨gb101,0,none⟩ = some (.int .i64 a0_0) := (blk_cell BK101.out 0).trans rfl;have hcz22_1 : w21.cell? ⟨gb101,1,none⟩ = some (.int .i64 a0_1) := (blk_cell BK101.out 1).trans rfl;have hfz22_0 := blk_frozen BK101.out 0;have hfz22_1 := blk_frozen BK101.out 1));try go_wp2_with (first | (go_at_call 34;(with_reducible refine (spec_IsTable.calls a0_0 a0_1 true _ A12.out).mono ?_);rintro e w21 ⟨rfl,hb⟩;have n0_ := aZ_ (Kd.R_below T17_ hb);have n1_ := aZ_ (blk_below (g := gb101) (o := .cells #[.int .i64 a0_0,.int .i64 a0_1] 25 (0,0)) T2_ hb);have n2_ := aZ_ (below_step T1_ hb);clear HO_3;clear BK101;clear HB;have HO_3 := n0_;have BK101 := n1_;have HB := n2_;clear n0_ n1_ n2_;(try clear hb);(try clear hb2);(try clear hk);(try clear hi);have hcz22_0 : w21.cell? ⟨gb101,0,none⟩ = some (.int .i64 a0_0) := (blk_cell BK101.out 0).trans rfl;have hcz22_1 : w21.cell? ⟨gb101,1,none⟩ = some (.int .i64 a0_1) := (blk_cell BK101.out 1).trans rfl;have hfz22_0 := blk_frozen BK101.out 0;have hfz22_1 := blk_frozen BK101.out 1)))
      go_ret
      exact ⟨by first | rfl | (simp [errW_none,errW_some] <;> rfl) | (simp [*,errW_none,errW_some] <;> rfl),by repeat (first | (with_reducible first | exact HB.out | apply below_alloc | apply pw_below_drewN | apply below_drew1 | refine below_set ?_ GE101.out) | exact HB.out)⟩
    ·replace c13 := Bool.eq_false_iff.mpr c13
     subst c13
     have H1 : (some false) = some r := by rw [if_neg (show ¬ (false = true) by decide)] at H;exact H
     clear H
     have H := H1
     clear H1
     obtain rfl := Option.some.inj H
     obtain ⟨Ao23,co23,eo23⟩ := Kd.R_slice HO_3.out
     subst eo23
     have hcz24_0 : wr.cell? ⟨gb101,0,none⟩ = some (.int .i64 a0_0) := (blk_cell BK101.out 0).trans rfl
     have hcz24_1 : wr.cell? ⟨gb101,1,none⟩ = some (.int .i64 a0_1) := (blk_cell BK101.out 1).trans rfl
     have hfz24_0 := blk_frozen BK101.out 0
     have hfz24_1 := blk_frozen BK101.out 1
     go_wp2_with (first | (go_at_call 34;(with_reducible refine (spec_IsTable.calls a0_0 a0_1 false _ A12.out).mono ?_);rintro e w25 ⟨rfl,hb⟩;have n0_ := aZ_ (Kd.R_below T17_ hb);have n1_ := aZ_ (blk_below (g := gb101) (o := .cells #[.int .i64 a0_0,.int .i64 a0_1] 25 (0,0)) T2_ hb);have n2_ := aZ_ (below_step T1_ hb);clear HO_3;clear BK101;clear HB;have HO_3 := n0_;have BK101 := n1_;have HB := n2_;clear n0_ n1_ n2_;(try clear hb);(try clear hb2);(try clear hk);(try clear hi)))
     repeat (go_quiet (first | (go_at_call 34;(with_reducible refine (spec_IsTable.calls a0_0 a0_1 false _ A12.out).mono ?_);rintro e w25 ⟨rfl,hb⟩;have n0_ := aZ_ (Kd.R_below T17_ hb);have n1_ := aZ_ (blk_below (g := gb101) (o := .cells #[.int .i64 a0_0,.int .i64 a0_1] 25 (0,0)) T2_ hb);have n2_ := aZ_ (below_step T1_ hb);clear HO_3;clear BK101;clear HB;have HO_3 := n0_;have BK101 := n1_;have HB := n2_;clear n0_ n1_ n2_;(try clear hb);(try clear hb2);(try clear hk);(try clear hi)));try go_wp2_with (first | (go_at_call 34;(with_reducible refine (spec_IsTable.calls a0_0 a0_1 false _ A12.out).mono ?_);rintro e w25 ⟨rfl,hb⟩;have n0_ := aZ_ (Kd.R_below T17_ hb);have n1_ := aZ_ (blk_below (g := gb101) (o := .cells #[.int .i64 a0_0,.int .i64 a0_1] 25 (0,0)) T2_ hb);have n2_ := aZ_ (below_step T1_ hb);clear HO_3;clear BK101;clear HB;have HO_3 := n0_;have BK101 := n1_;have HB := n2_;clear n0_ n1_ n2_;(try clear hb);(try clear hb2);(try clear hk);(try clear hi))))
     go_ret
     exact ⟨by first | rfl | (simp [errW_none,errW_some] <;> rfl) | (simp [*,errW_none,errW_some] <;> rfl),by repeat (first | (with_reducible first | exact HB.out | apply below_alloc | apply pw_below_drewN | apply below_drew1 | refine below_set ?_ GE101.out) | exact HB.out)⟩
def spec_DualOfBent.l0 : Nat → List Int → Int → Int → Int → Int → Option (Int × Int × Bool)
 | 0,_,_,_,_,_ => none
 | k + 1,x4,x5,x6,x102000,x102001 => if x6 < (x4.length : Int) then (if 0 ≤ x6 then (if (rd x4 x6) < 0 then (spec_DualOfBent.l0 k x4 (Go.bits .or .i64 x5 (shl .i64 1 x6)) (wrap64 (x6 + 1)) x102000 x102001) else (spec_DualOfBent.l0 k x4 x5 (wrap64 (x6 + 1)) x102000 x102001)) else (none)) else (some (x102000,x5,true))
def spec_DualOfBent.f (k : Nat) (a0_0 : Int) (a0_1 : Int) : Option (Int × Int × Bool) := (spec_IsBent.f k a0_0 a0_1).bind fun t103 => (if t103 = true then ((spec_SpectrumOf.f k a0_0 a0_1).bind fun t104 => (spec_DualOfBent.l0 k t104 0 0 a0_0 a0_1)) else (some (0,0,false)))
set_option maxHeartbeats 8000000 in
set_option maxRecDepth 100000 in
theorem spec_DualOfBent.calls (k : Nat) (a0_0 : Int) (a0_1 : Int) (r1 : Int) (r2 : Int) (r3 : Bool) (w : World) (h : spec_DualOfBent.f k a0_0 a0_1 = some (r1,r2,r3)) :
  Calls Try.prog 26 #[.agg #[.int .i64 a0_0,.int .i64 a0_1]] w fun e w' => e = .returned (.tuple #[.agg #[.int .i64 r1,.int .i64 r2],.bool r3]) ∧ Below w.heap.size w w' := by
 have hu25 := Try.underlying25
 have HB := aZ_ (Below.refl w.heap.size w)
 have H : ((spec_IsBent.f k a0_0 a0_1).bind fun t103 => (if t103 = true then ((spec_SpectrumOf.f k a0_0 a0_1).bind fun t104 => (spec_DualOfBent.l0 k t104 0 0 a0_0 a0_1)) else (some (0,0,false)))) = some (r1,r2,r3) := h
 clear h
 replace H := Option.bind_eq_some_iff.mp H
 obtain ⟨t103,A20,H⟩ := H
 replace H : (if t103 = true then ((spec_SpectrumOf.f k a0_0 a0_1).bind fun t104 => (spec_DualOfBent.l0 k t104 0 0 a0_0 a0_1)) else (some (0,0,false))) = some (r1,r2,r3) := H
 have A2 := aZ_ A20
 clear A20
 by_cases c3 : t103 = true
 ·subst c3
  have H1 : ((spec_SpectrumOf.f k a0_0 a0_1).bind fun t104 => (spec_DualOfBent.l0 k t104 0 0 a0_0 a0_1)) = some (r1,r2,r3) := by rw [if_pos rfl] at H;exact H
  clear H
  have H := H1
  clear H1
  replace H := Option.bind_eq_some_iff.mp H
  obtain ⟨t104,A40,H⟩ := H
  replace H : (spec_DualOfBent.l0 k t104 0 0 a0_0 a0_1) = some (r1,r2,r3) := H
  have A4 := aZ_ A40
  clear A40
  have H' := aZ_ H
  clear H
  go_enter Try.func26,Try.ntmps26
  go_wp2_with (first | ((with_reducible refine gate_dst (N := 1) rfl ?_);refine box_event ?hg (N := 1) ?hd (cs := #[.int .i64 a0_0,.int .i64 a0_1]) (t := 25) ?hr ?_;(case hd => rfl);(case hg => rfl);(case hr => first | (go_simp;done) | (go_simp;rfl));intro gb101 hg w5 hbox hb;have n0_ := aZ_ (below_step T7_ hb);have n1_ := aZ_ (hbox);have n2_ := aZ_ ((T4_ : w.heap.size ≤ gb101));have n3_ := aZ_ ((T4_ : w.heap.size ≤ gb101));clear HB;have HB := n0_;have BK101 := n1_;have GW101 := n2_;have GE101 := n3_;clear n0_ n1_ n2_ n3_;clear hb hbox hg) | ((with_reducible refine gate_dst (N := 2) rfl ?_);refine box_event ?hg (N := 2) ?hd (cs := #[.int .i64 0,.int .i64 0]) (t := 25) ?hr ?_;(case hd => rfl);(case hg => rfl);(case hr => first | (go_simp;done) | (go_simp;rfl));intro gb102 hg w6 hbox hb;have n0_ := aZ_ (blk_below (g := gb101) (o := .cells #[.int .i64 a0_0,.int .i64 a0_1] 25 (0,0)) T2_ hb);have n1_ := aZ_ (below_step T1_ hb);have n2_ := aZ_ (hbox);have n3_ := aZ_ ((T21_ : w.heap.size ≤ gb102));have n4_ := aZ_ ((T21_ : w.heap.size ≤ gb102));have n5_ := aZ_ ((T35_ : gb101 ≠ gb102));have n6_ := aZ_ ((T36_ : gb102 ≠ gb101));clear BK101;clear HB;have BK101 := n0_;have HB := n1_;have BK102 := n2_;have GW102 := n3_;have GE102 := n4_;have NB101_102 := n5_;have NB102_101 := n6_;clear n0_ n1_ n2_ n3_ n4_ n5_ n6_;clear hb hbox hg;have hnb7 := NB101_102.out;have hnc7 := NB102_101.out;have hcz8_0 : w6.cell? ⟨gb101,0,none⟩ = some (.int .i64 a0_0) := (blk_cell BK101.out 0).trans rfl;have hcz8_1 : w6.cell? ⟨gb101,1,none⟩ = some (.int .i64 a0_1) := (blk_cell BK101.out 1).trans rfl;have hfz8_0 := blk_frozen BK101.out 0;have hfz8_1 := blk_frozen BK101.out 1) | ((with_reducible refine gate_callee (f := 52) rfl ?_);refine goesL_ (some 8) rfl rfl Try.func52 T16_ rfl #[.agg #[.int .i64 a0_0,.int .i64 a0_1]] rfl T3_ ?_;(with_reducible refine (spec_IsBent.calls k a0_0 a0_1 true _ A2.out).mono ?_);rintro e w9 ⟨rfl,hb⟩;refine ⟨_,rfl,?_⟩;have n0_ := aZ_ (blk_below (g := gb101) (o := .cells #[.int .i64 a0_0,.int .i64 a0_1] 25 (0,0)) T2_ hb);have n1_ := aZ_ (blk_below (g := gb102) (o := .cells #[.int .i64 0,.int .i64 0] 25 (0,0)) T45_ hb);have n2_ := aZ_ (below_step T33_ hb);clear BK101;clear BK102;clear HB;have BK101 := n0_;have BK102 := n1_;have HB := n2_;clear n0_ n1_ n2_;(try clear hb);(try clear hb2);(try clear hk);(try clear hi);have hcz10_0 : w9.cell? ⟨gb101,0,none⟩ = some (.int .i64 a0_0) := (blk_cell BK101.out 0).trans rfl;have hcz10_1 : w9.cell? ⟨gb101,1,none⟩ = some (.int .i64 a0_1) := (blk_cell BK101.out 1).trans rfl;have hfz10_0 := blk_frozen BK101.out 0;have hfz10_1 := blk_frozen BK101.out 1) | ((with_reducible refine gate_callee (f := 8) rfl ?_);refine goesL_ (some 12) rfl rfl Try.func8 T16_ rfl #[.agg #[.int .i64 a0_0,.int .i64 a0_1]] rfl T3_ ?_;(with_reducible refine (spec_SpectrumOf.calls k a0_0 a0_1 t104 _ A4.out).mono ?_);rintro e w11 ⟨v105,rfl,ho0,hb⟩;refine ⟨_,rfl,?_⟩;have n0_ := aZ_ (Kd.R_lower ho0 (below_size T33_));have n1_ := aZ_ (blk_below (g := gb101) (o := .cells #[.int .i64 a0_0,.int .i64 a0_1] 25 (0,0)) T2_ hb);have n2_ := aZ_ (blk_below (g := gb102) (o := .cells #[.int .i64 0,.int .i64 0] 25 (0,0)) T45_ hb);have n3_ := aZ_ (below_step T33_ hb);clear BK101;clear BK102;clear HB;have HO106 := n0_;have BK101 := n1_;have BK102 := n2_;have HB := n3_;clear n0_ n1_ n2_ n3_;(try clear hb);(try clear hb2);(try clear hk);(try clear hi);(try clear ho0)))
  go_loopg [5,6] k (fun kq v5 v6 w' => ∃ (x5_1 : Int) (x6_1 : Int),v5 = .int .i64 x5_1 ∧ v6 = .int .i64 x6_1 ∧ Aside0 (spec_DualOfBent.l0 kq t104 x5_1 x6_1 a0_0 a0_1 = some (r1,r2,r3)) ∧ Aside0 (kq ≤ k) ∧ Aside0 (Kd.R (Kd.int .i64) 3 w' w.heap.size (fun _ => True) v105 t104) ∧ Aside0 (w'.heap[gb101]? = some (.cells #[.int .i64 a0_0,.int .i64 a0_1] 25 (0,0))) ∧ Aside0 (w'.heap[gb102]? = some (.cells #[.int .i64 0,.int .i64 0] 25 (0,0))) ∧ Aside0 (Below w.heap.size w w'))
  case atStart => exact ⟨(0),(0),T6_,T6_,H',⟨Nat.le_refl _⟩,⟨by (with_reducible repeat (first | apply Kd.R_alloc | apply Kd.R_drewN | apply Kd.R_drew));exact HO106.out⟩,⟨by (with_reducible repeat (first | refine blk_drewN ?_ _ | refine blk_drew ?_ | refine blk_alloc ?_ _));exact BK101.out⟩,⟨by (with_reducible repeat (first | refine blk_drewN ?_ _ | refine blk_drew ?_ | refine blk_alloc ?_ _));exact BK102.out⟩,⟨by repeat (first | (with_reducible first | exact HB.out | apply below_alloc | apply pw_below_drewN | apply below_drew1 | refine below_set ?_ GE101.out | refine below_set ?_ GE102.out) | exact HB.out)⟩⟩
  case round =>
   clear H'
   try clear c2
   try clear p2
   try clear c3
   try clear c5
   try clear c7
   try clear c8
   try clear hcz10_0
   try clear hcz10_1
   try clear hcz8_0
   try clear hcz8_1
   try clear hfz10_0
   try clear hfz10_1
   try clear hfz8_0
   try clear hfz8_1
   obtain ⟨x5_1,x6_1,rfl,rfl,HA,HK1,HO_4,BK101,BK102,HB⟩ := hrel
   cases gk with
   | zero => exact absurd HA.out (by simp [spec_DualOfBent.l0])
   | succ k1 =>
    have H := HA.out
    clear HA
    simp only [spec_DualOfBent.l0] at H
    by_cases c12 : x6_1 < (t104.length : Int)
    ·rw [if_pos c12] at H
     have c12b0 : decide (x6_1 < (t104.length : Int)) = true := decide_eq_true c12
     clear c12
     by_cases c13 : 0 ≤ x6_1
     ·rw [if_pos c13] at H
      have c13b0 : decide (0 ≤ x6_1) = true := decide_eq_true c13
      clear c13
      by_cases c14 : (rd t104 x6_1) < 0
      ·rw [if_pos c14] at H
       have c14b0 : decide ((rd t104 x6_1) < 0) = true := decide_eq_true c14
       clear c14
       have c15b0 := eq_true (of_decide_eq_true T10_ : 0 ≤ x6_1)
       obtain ⟨ji16,hji16⟩ : ∃ j_ : Int,(shl .i64 1 x6_1) = j_ := ⟨_,rfl⟩
       replace H : (spec_DualOfBent.l0 k1 t104 (Go.bits .or .i64 x5_1 (ji16)) (wrap64 (x6_1 + 1)) a0_0 a0_1) = some (r1,r2,r3) := by first | (rw [hji16] at H;exact H) | (simp only [hji16] at H ⊢;exact H)
       have hji16_ : (IntKind.i64.wrap (1 * 2 ^ min x6_1.toNat 64)) = ji16 := hji16
       have hji16z : x6_1 ≤ 64 → (IntKind.i64.wrap (1 * 2 ^ x6_1.toNat)) = ji16 := shl_small hji16
       have hji16u : (IntKind.i64.wrap (2 ^ min x6_1.toNat 64)) = ji16 := by have h_ := hji16_;rw [Int.one_mul] at h_;exact h_
       have hji16v : x6_1 ≤ 64 → (IntKind.i64.wrap (2 ^ x6_1.toNat)) = ji16 := fun hle_ => by have h_ := hji16z hle_;rw [Int.one_mul] at h_;exact h_
       have hji16y : (wrap64 (1 * 2 ^ min x6_1.toNat 64)) = ji16 := (i64_w _).symm.trans hji16_
       have hji16x : x6_1 ≤ 64 → (wrap64 (1 * 2 ^ x6_1.toNat)) = ji16 := fun h_ => (i64_w _).symm.trans (hji16z h_)
       have H' := aZ_ H
       clear H
       obtain ⟨Ao17,co17,eo17⟩ := Kd.R_slice HO_4.out
       subst eo17
       have p107 : 0 ≤ (x6_1 : Int) := of_decide_eq_true T10_
       have q107 : x6_1 < (t104.length : Int) := of_decide_eq_true T10_
       obtain ⟨ad107,e107,hx107_0⟩ := Kd.at_int (Kd.R_reads' HO_4.out).2.2 x6_1 p107 q107
       cases e107
       replace p107 := eq_true p107
       replace q107 := eq_true q107
       go_wp2
       go_roundg k1
       case measure => have := HK1.out;omega
       case rel => exact ⟨(Go.bits .or .i64 x5_1 (ji16)),(wrap64 (x6_1 + 1)),(by first | rfl | (simp;done) | (simp only [← hji16] <;> (first | rfl | simp)) | (simp [*];done)),T6_,H',⟨by have := HK1.out;omega⟩,⟨by (with_reducible repeat (first | apply Kd.R_alloc | apply Kd.R_drewN | apply Kd.R_drew));exact HO_4.out⟩,⟨by (with_reducible repeat (first | refine blk_drewN ?_ _ | refine blk_drew ?_ | refine blk_alloc ?_ _));exact BK101.out⟩,⟨by (with_reducible repeat (first | refine blk_drewN ?_ _ | refine blk_drew ?_ | refine blk_alloc ?_ _));exact BK102.out⟩,⟨by repeat (first | (with_reducible first | exact HB.out | apply below_alloc | apply pw_below_drewN | apply below_drew1 | refine below_set ?_ GE101.out | refine below_set ?_ GE102.out) | exact HB.out)⟩⟩
      ·rw [if_neg c14] at H
       have c14b0 : decide ((rd t104 x6_1) < 0) = false := decide_eq_false c14
       clear c14
       have H' := aZ_ H
       clear H
       obtain ⟨Ao18,co18,eo18⟩ := Kd.R_slice HO_4.out
       subst eo18
       have p107 : 0 ≤ (x6_1 : Int) := of_decide_eq_true T10_
       have q107 : x6_1 < (t104.length : Int) := of_decide_eq_true T10_
       obtain ⟨ad107,e107,hx107_0⟩ := Kd.at_int (Kd.R_reads' HO_4.out).2.2 x6_1 p107 q107
       cases e107
       replace p107 := eq_true p107
       replace q107 := eq_true q107
       go_wp2
       go_roundg k1
       case measure => have := HK1.out;omega
       case rel => exact ⟨(x5_1),(wrap64 (x6_1 + 1)),T6_,T6_,H',⟨by have := HK1.out;omega⟩,⟨by (with_reducible repeat (first | apply Kd.R_alloc | apply Kd.R_drewN | apply Kd.R_drew));exact HO_4.out⟩,⟨by (with_reducible repeat (first | refine blk_drewN ?_ _ | refine blk_drew ?_ | refine blk_alloc ?_ _));exact BK101.out⟩,⟨by (with_reducible repeat (first | refine blk_drewN ?_ _ | refine blk_drew ?_ | refine blk_alloc ?_ _));exact BK102.out⟩,⟨by repeat (first | (with_reducible first | exact HB.out | apply below_alloc | apply pw_below_drewN | apply below_drew1 | refine below_set ?_ GE101.out | refine below_set ?_ GE102.out) | exact HB.out)⟩⟩
     ·rw [if_neg c13] at H
      exact absurd H T42_
    ·rw [if_neg c12] at H
     have c12b0 : decide (x6_1 < (t104.length : Int)) = false := decide_eq_false c12
     clear c12
     simp only [Option.some.injEq,Prod.mk.injEq] at H
     obtain ⟨rfl,rfl,rfl⟩ := H
     obtain ⟨Ao19,co19,eo19⟩ := Kd.R_slice HO_4.out
     subst eo19
     have hnb20 := NB101_102.out
     have hnc20 := NB102_101.out
     have hcz21_0 : wr.cell? ⟨gb101,0,none⟩ = some (.int .i64 a0_0) := (blk_cell BK101.out 0).trans rfl
     have hcz21_1 : wr.cell? ⟨gb101,1,none⟩ = some (.int .i64 a0_1) := (blk_cell BK101.out 1).trans rfl
     have hfz21_0 := blk_frozen BK101.out 0
     have hfz21_1 := blk_frozen BK101.out 1
     have hcz22_0 : wr.cell? ⟨gb102,0,none⟩ = some (.int .i64 0) := (blk_cell BK102.out 0).trans rfl
     have hcz22_1 : wr.cell? ⟨gb102,1,none⟩ = some (.int .i64 0) := (blk_cell BK102.out 1).trans rfl
     have hfz22_0 := blk_frozen BK102.out 0
     have hfz22_1 := blk_frozen BK102.out 1
     go_wp2
     refine bodyPost_ret (results_ct rfl _ _ gb102 25 #[.int .i64 a0_0,.int .i64 x5_1] (0,0) _ rfl T27_ Try.underlying25 rfl T16_) rfl ?_
     exact ⟨by first | rfl | (simp [errW_none,errW_some] <;> rfl) | (simp [*,errW_none,errW_some] <;> rfl),by repeat (first | (with_reducible first | exact HB.out | apply below_alloc | apply pw_below_drewN | apply below_drew1 | refine below_set ?_ GE101.out | refine below_set ?_ GE102.out) | exact HB.out)⟩
 ·replace c3 := Bool.eq_false_iff.mpr c3
  subst c3
  have H1 : (some (0,0,false)) = some (r1,r2,r3) := by rw [if_neg (show ¬ (false = true) by decide)] at H;exact H
  clear H
  have H := H1
  clear H1
  simp only [Option.some.injEq,Prod.mk.injEq] at H
  obtain ⟨rfl,rfl,rfl⟩ := H
  go_enter Try.func26,Try.ntmps26
  go_wp2_with (first | ((with_reducible refine gate_dst (N := 1) rfl ?_);refine box_event ?hg (N := 1) ?hd (cs := #[.int .i64 a0_0,.int .i64 a0_1]) (t := 25) ?hr ?_;(case hd => rfl);(case hg => rfl);(case hr => first | (go_simp;done) | (go_simp;rfl));intro gb101 hg w23 hbox hb;have n0_ := aZ_ (below_step T7_ hb);have n1_ := aZ_ (hbox);have n2_ := aZ_ ((T4_ : w.heap.size ≤ gb101));have n3_ := aZ_ ((T4_ : w.heap.size ≤ gb101));clear HB;have HB := n0_;have BK101 := n1_;have GW101 := n2_;have GE101 := n3_;clear n0_ n1_ n2_ n3_;clear hb hbox hg) | ((with_reducible refine gate_dst (N := 2) rfl ?_);refine box_event ?hg (N := 2) ?hd (cs := #[.int .i64 0,.int .i64 0]) (t := 25) ?hr ?_;(case hd => rfl);(case hg => rfl);(case hr => first | (go_simp;done) | (go_simp;rfl));intro gb102 hg w24 hbox hb;have n0_ := aZ_ (blk_below (g := gb101) (o := .cells #[.int .i64 a0_0,.int .i64 a0_1] 25 (0,0)) T2_ hb);have n1_ := aZ_ (below_step T1_ hb);have n2_ := aZ_ (hbox);have n3_ := aZ_ ((T21_ : w.heap.size ≤ gb102));have n4_ := aZ_ ((T21_ : w.heap.size ≤ gb102));have n5_ := aZ_ ((T35_ : gb101 ≠ gb102));have n6_ := aZ_ ((T36_ : gb102 ≠ gb101));clear BK101;clear HB;have BK101 := n0_;have HB := n1_;have BK102 := n2_;have GW102 := n3_;have GE102 := n4_;have NB101_102 := n5_;have NB102_101 := n6_;clear n0_ n1_ n2_ n3_ n4_ n5_ n6_;clear hb hbox hg;have hnb25 := NB101_102.out;have hnc25 := NB102_101.out;have hcz26_0 : w24.cell? ⟨gb101,0,none⟩ = some (.int .i64 a0_0) := (blk_cell BK101.out 0).trans rfl;have hcz26_1 : w24.cell? ⟨gb101,1,none⟩ = some (.int .i64 a0_1) := (blk_cell BK101.out 1).trans rfl;have hfz26_0 := blk_frozen BK101.out 0;have hfz26_1 := blk_frozen BK101.out 1) | ((with_reducible refine gate_callee (f := 52) rfl ?_);refine goesL_ (some 8) rfl rfl Try.func52 T16_ rfl #[.agg #[.int .i64 a0_0,.int .i64 a0_1]] rfl T3_ ?_;(with_reducible refine (spec_IsBent.calls k a0_0 a0_1 false _ A2.out).mono ?_);rintro e w27 ⟨rfl,hb⟩;refine ⟨_,rfl,?_⟩;have n0_ := aZ_ (blk_below (g := gb101) (o := .cells #[.int .i64 a0_0,.int .i64 a0_1] 25 (0,0)) T2_ hb);have n1_ := aZ_ (blk_below (g := gb102) (o := .cells #[.int .i64 0,.int .i64 0] 25 (0,0)) T45_ hb);have n2_ := aZ_ (below_step T33_ hb);clear BK101;clear BK102;clear HB;have BK101 := n0_;have BK102 := n1_;have HB := n2_;clear n0_ n1_ n2_;(try clear hb);(try clear hb2);(try clear hk);(try clear hi);have hcz28_0 : w27.cell? ⟨gb102,0,none⟩ = some (.int .i64 0) := (blk_cell BK102.out 0).trans rfl;have hcz28_1 : w27.cell? ⟨gb102,1,none⟩ = some (.int .i64 0) := (blk_cell BK102.out 1).trans rfl;have hfz28_0 := blk_frozen BK102.out 0;have hfz28_1 := blk_frozen BK102.out 1))
  refine bodyPost_ret (results_ct rfl _ _ gb102 25 #[.int .i64 0,.int .i64 0] (0,0) _ rfl (by (with_reducible repeat (first | refine blk_drewN ?_ _ | refine blk_drew ?_ | refine blk_alloc ?_ _));refine blk_put (cs := #[.int .i64 0,.int .i64 0]) ?_ 1 _ rfl;(with_reducible repeat (first | refine blk_drewN ?_ _ | refine blk_drew ?_ | refine blk_alloc ?_ _));refine blk_put (cs := #[.int .i64 0,.int .i64 0]) ?_ 0 _ rfl;(with_reducible repeat (first | refine blk_drewN ?_ _ | refine blk_drew ?_ | refine blk_alloc ?_ _));exact BK102.out) Try.underlying25 rfl T16_) rfl ?_
  exact ⟨by first | rfl | (simp [errW_none,errW_some] <;> rfl) | (simp [*,errW_none,errW_some] <;> rfl),by repeat (first | (with_reducible first | exact HB.out | apply below_alloc | apply pw_below_drewN | apply below_drew1 | refine below_set ?_ GE101.out | refine below_set ?_ GE102.out) | exact HB.out)⟩
def spec_DrawAutocorrelationOf.f (k : Nat) (l0 : List Int) : Option (Int × Int) := (spec_l1New.f k l0).bind fun bt102 => ((spec_l2Any.f k bt102.1 bt102.2.1 bt102.2.2).bind fun bt106 => (some (bt106.1,bt106.2.1)))
set_option maxHeartbeats 8000000 in
set_option maxRecDepth 100000 in
theorem spec_DrawAutocorrelationOf.calls (k : Nat) (A0 : Option Addr) (c0 : Nat) (l0 : List Int) (r1 : Int) (r2 : Int) (w : World) (hr0 : Kd.C (Kd.int .u8) w A0 l0.length l0) (hc0 : l0.length ≤ c0) (h : spec_DrawAutocorrelationOf.f k l0 = some (r1,r2)) :
  Calls Try.prog 28 #[.slice A0 l0.length c0] w fun e w' => e = .returned (.agg #[.int .i64 r1,.int .i64 r2]) ∧ Below w.heap.size w w' := by
 have hu25 := Try.underlying25
 have HR0 := aZ_ hr0
 have HC0 := aZ_ hc0
 clear hr0 hc0
 have HB := aZ_ (Below.refl w.heap.size w)
 have H : ((spec_l1New.f k l0).bind fun bt102 => ((spec_l2Any.f k bt102.1 bt102.2.1 bt102.2.2).bind fun bt106 => (some (bt106.1,bt106.2.1)))) = some (r1,r2) := h
 clear h
 replace H := Option.bind_eq_some_iff.mp H
 obtain ⟨⟨t102,t103,t104⟩,A20,H⟩ := H
 replace H : ((spec_l2Any.f k t102 t103 t104).bind fun bt106 => (some (bt106.1,bt106.2.1))) = some (r1,r2) := H
 have A2 := aZ_ A20
 clear A20
 replace H := Option.bind_eq_some_iff.mp H
 obtain ⟨⟨t106,t107,t108,t109⟩,A30,H⟩ := H
 replace H : (some (t106,t107)) = some (r1,r2) := H
 have A3 := aZ_ A30
 clear A30
 simp only [Option.some.injEq,Prod.mk.injEq] at H
 obtain ⟨rfl,rfl⟩ := H
 go_enter Try.func28,Try.ntmps28
 go_wp2_with (first | ((with_reducible refine gate_dst (N := 2) rfl ?_);refine box_event ?hg (N := 2) ?hd (cs := #[.int .i64 0,.int .i64 0]) (t := 25) ?hr ?_;(case hd => rfl);(case hg => rfl);(case hr => first | (go_simp;done) | (go_simp;rfl));intro gb101 hg w4 hbox hb;have n0_ := aZ_ (below_step T7_ hb);have n1_ := aZ_ (hbox);have n2_ := aZ_ ((T4_ : w.heap.size ≤ gb101));have n3_ := aZ_ ((T4_ : w.heap.size ≤ gb101));clear HB;have HB := n0_;have BK101 := n1_;have GW101 := n2_;have GE101 := n3_;clear n0_ n1_ n2_ n3_;clear hb hbox hg) | ((with_reducible refine gate_callee (f := 31) rfl ?_);refine goesL_ (some 4) rfl rfl Try.func31 T16_ rfl #[.slice A0 l0.length c0] rfl T3_ ?_;(with_reducible refine (spec_l1New.calls k _ _ l0 t102 t103 t104 w _ ?side1 ?side2 ?side3 A2.out).mono ?_);(case side1 => repeat (first | (with_reducible first | exact HB.out | apply below_alloc | apply pw_below_drewN | apply below_drew1 | refine below_set ?_ GE101.out) | exact HB.out));(case side2 => exact HR0.out);(case side3 => exact HC0.out);rintro e w5 ⟨g105,rfl,hi,hb,hb2⟩;refine ⟨_,rfl,?_⟩;have n0_ := aZ_ (blk_below (g := gb101) (o := .cells #[.int .i64 0,.int .i64 0] 25 (0,0)) T2_ hb2);have n1_ := aZ_ (hb);have n2_ := aZ_ (hi);have n3_ := aZ_ (IsS58.ne_blk hi (blk_below (g := gb101) (o := .cells #[.int .i64 0,.int .i64 0] 25 (0,0)) T2_ hb2) T43_);have n4_ := aZ_ (Ne.symm (IsS58.ne_blk hi (blk_below (g := gb101) (o := .cells #[.int .i64 0,.int .i64 0] 25 (0,0)) T2_ hb2) T43_));clear BK101;clear HB;have BK101 := n0_;have HB := n1_;have HI105 := n2_;have NB105_101 := n3_;have NB101_105 := n4_;clear n0_ n1_ n2_ n3_ n4_;(try clear hb);(try clear hb2);(try clear hk);(try clear hi)) | ((with_reducible refine gate_callee (f := 30) rfl ?_);refine goesL_ (some 5) rfl rfl Try.func30 T16_ rfl #[.pointer (some ⟨g105,0,none⟩)] rfl T3_ ?_;(with_reducible refine (spec_l2Any.calls k g105 t102 t103 t104 t106 t107 t108 t109 w _ ?side1 ?side2 A3.out).mono ?_);(case side1 => repeat (first | (with_reducible first | exact HI105.out | apply IsS58.alloc | apply IsS58.drewN | apply IsS58.drew | apply IsS58.set_1 | apply IsS58.set_2 | refine IsS58.far ?_ NB105_101.out _) | exact HI105.out));(case side2 => repeat (first | (with_reducible first | exact HB.out | apply below_alloc | apply pw_below_drewN | apply below_drew1 | refine below_set ?_ (IsS58.ge HI105.out) | refine below_set ?_ GE101.out) | exact HB.out));rintro e w6 ⟨rfl,hi,hb,hk⟩;refine ⟨_,rfl,?_⟩;have n0_ := aZ_ (KeepBut.blk hk (g' := gb101) (o := .cells #[.int .i64 0,.int .i64 0] 25 (0,0)) T2_ NB101_105.out T42_);have n1_ := aZ_ (hb);have n2_ := aZ_ (hi);clear BK101;clear HB;clear HI105;have BK101 := n0_;have HB := n1_;have HI105 := n2_;clear n0_ n1_ n2_;(try clear hb);(try clear hb2);(try clear hk);(try clear hi);have hnb7 := NB101_105.out;have hnc7 := NB105_101.out;have hcz8_0 : w6.cell? ⟨gb101,0,none⟩ = some (.int .i64 0) := (blk_cell BK101.out 0).trans rfl;have hcz8_1 : w6.cell? ⟨gb101,1,none⟩ = some (.int .i64 0) := (blk_cell BK101.out 1).trans rfl;have hfz8_0 := blk_frozen BK101.out 0;have hfz8_1 := blk_frozen BK101.out 1))
 refine bodyPost_ret (results_cell_row rfl _ _ gb101 25 #[.int .i64 t106,.int .i64 t107] (0,0) _ rfl T25_ Try.underlying25 rfl T16_) rfl ?_
 exact ⟨by first | rfl | (simp [errW_none,errW_some] <;> rfl) | (simp [*,errW_none,errW_some] <;> rfl),by repeat (first | (with_reducible first | exact HB.out | apply below_alloc | apply pw_below_drewN | apply below_drew1 | refine below_set ?_ (IsS58.ge HI105.out) | refine below_set ?_ GE101.out) | exact HB.out)⟩
mutual
def spec_AutocorrelationOf.l0 : Nat → List Int → Int → Int → Int → Option (List Int)
 | 0,_,_,_,_ => none
 | k + 1,x3,x4,x102000,x102001 => (spec_IsTable.f x102000 x102001).bind fun t105 => (if t105 = true then (if 0 ≤ x102000 then (spec_AutocorrelationOf.j1 k x3 x4 (decide (x4 < (shl .i64 1 x102000))) x102000 x102001) else (none)) else (spec_AutocorrelationOf.j1 k x3 x4 false x102000 x102001))
def spec_AutocorrelationOf.j1 : Nat → List Int → Int → Bool → Int → Int → Option (List Int)
 | 0,_,_,_,_,_ => none
 | k + 1,x3,x4,x16,x102000,x102001 => if x16 = true then (spec_AutocorrelationOf.l1 k x3 x4 0 0 x102000 x102001) else (some x3)
def spec_AutocorrelationOf.l1 : Nat → List Int → Int → Int → Int → Int → Int → Option (List Int)
 | 0,_,_,_,_,_,_ => none
 | k + 1,x3,x4,x5,x6,x102000,x102001 => if 0 ≤ x102000 then (if x6 < (shl .i64 1 x102000) then (if 0 ≤ x6 then ((spec_l12Sign.f k (Go.bits .and .i64 (shr .i64 x102001 x6) 1)).bind fun t106 => (if 0 ≤ (Go.bits .xor .i64 x6 x4) then ((spec_l12Sign.f k (Go.bits .and .i64 (shr .i64 x102001 (Go.bits .xor .i64 x6 x4)) 1)).bind fun t107 => (spec_AutocorrelationOf.l1 k x3 x4 (wrap64 (x5 + (wrap64 (t106 * t107)))) (wrap64 (x6 + 1)) x102000 x102001)) else (none))) else (none)) else (if x3.length < 17592186044416 then (spec_AutocorrelationOf.l0 k (x3 ++ [x5]) (wrap64 (x4 + 1)) x102000 x102001) else (none))) else (none)
end
def spec_AutocorrelationOf.f (k : Nat) (a0_0 : Int) (a0_1 : Int) : Option (List Int) := spec_AutocorrelationOf.l0 k (([] : List Int)) 0 a0_0 a0_1
def spec_AutocorrelationOf.T9 : Bool × List (List Nat × List Nat) := (true,[([],[]),([],[]),([1],[1]),([],[]),([2,3],[2,3]),([4],[4]),([5],[5]),([],[]),([7],[7]),([],[]),([],[]),([9,10],[9,10]),([8,11],[8,11]),([12],[12]),([13,6],[13]),([6,14],[6,14]),([0,15],[0,15]),([16,14,0,1,2,3,4,5,6,7,8,9,10,11,12,13,14,15,16],[0,16])])
def spec_AutocorrelationOf.B9 : List Nat := [0,0,2,0,14,30,62,0,128,0,0,1536,3968,8064,16382,32766,65535,131071]
theorem spec_AutocorrelationOf.tab9 : rtab .any (opsOf Try.f29 9) = spec_AutocorrelationOf.T9 := by kernel_rfl
theorem spec_AutocorrelationOf.bits9 : waitsOk spec_AutocorrelationOf.T9.2 spec_AutocorrelationOf.B9 = true := by kernel_rfl
set_option maxHeartbeats 8000000 in
set_option maxRecDepth 100000 in
theorem spec_AutocorrelationOf.calls (k : Nat) (a0_0 : Int) (a0_1 : Int) (r : List Int) (w : World) (h : spec_AutocorrelationOf.f k a0_0 a0_1 = some r) :
  Calls Try.prog 29 #[.agg #[.int .i64 a0_0,.int .i64 a0_1]] w fun e w' => ∃ v0_ : Value,e = .returned (v0_) ∧ Kd.R (Kd.int .i64) 3 w' w.heap.size (fun _ => True) v0_ r ∧ Below w.heap.size w w' := by
 have hu25 := Try.underlying25
 have HB := aZ_ (Below.refl w.heap.size w)
 have H : (spec_AutocorrelationOf.l0 k (([] : List Int)) 0 a0_0 a0_1) = some r := h
 clear h
 obtain ⟨y102,hy102⟩ : ∃ y_ : List Int,y_ = (([] : List Int)) := ⟨_,rfl⟩
 replace H : (spec_AutocorrelationOf.l0 k y102 0 a0_0 a0_1) = some r := by first | (rw [hy102];with_reducible exact H) | (have H2_ := (Option.bind_some _ _).symm.trans H;rw [hy102];with_reducible exact H2_) | (have H2_ := (Option.bind_some _ _).symm.trans H;with_reducible exact H2_) | with_reducible exact H | (rw [hy102];exact H) | exact H
 have Ny102 := aZ_ hy102
 clear hy102
 have H' := aZ_ H
 clear H
 go_enter Try.func29,Try.ntmps29
 go_wp2_with (first | ((with_reducible refine gate_dst (N := 1) rfl ?_);refine box_event ?hg (N := 1) ?hd (cs := #[.int .i64 a0_0,.int .i64 a0_1]) (t := 25) ?hr ?_;(case hd => rfl);(case hg => rfl);(case hr => first | (go_simp;done) | (go_simp;rfl));intro gb101 hg w2 hbox hb;have n0_ := aZ_ (below_step T7_ hb);have n1_ := aZ_ (hbox);have n2_ := aZ_ ((T4_ : w.heap.size ≤ gb101));have n3_ := aZ_ ((T4_ : w.heap.size ≤ gb101));clear HB;have HB := n0_;have BK101 := n1_;have GW101 := n2_;have GE101 := n3_;clear n0_ n1_ n2_ n3_;clear hb hbox hg) | ((with_reducible refine gate_dst (N := 7) rfl ?_);refine Kd.R_lit (Kd.int .i64) _ 3 ?hg (N := 7) ?hd (xs := ([] : List Int)) (inner := []) (ok := fun _ => True) (okp := fun _ => True) ?hr ?hp (fun _ hk => hk) trivial (Below.refl _ _) (Nat.le_refl _) T42_ ?_;(case hd => rfl);(case hg => rfl);(case hr => first | (go_simp;done) | (go_simp;rfl));(case hp => exact (Reps.none _ _));intro v103 w3 ho4 hb hg_ hnew_;clear hg_ hnew_;(first | rw [← Ny102.out] at ho4 | (simp only [Int.reduceToNat] at ho4;rw [← Ny102.out] at ho4));have n0_ := aZ_ (Kd.R_lower ho4 (below_size T1_));have n1_ := aZ_ (blk_below (g := gb101) (o := .cells #[.int .i64 a0_0,.int .i64 a0_1] 25 (0,0)) T2_ hb);have n2_ := aZ_ (below_step T1_ hb);clear BK101;clear HB;have HO104 := n0_;have BK101 := n1_;have HB := n2_;clear n0_ n1_ n2_;clear hb ho4))
 go_loopg [3,4] k (fun kq v3 v4 w' => ∃ (x3_1 : List Int) (x4_1 : Int),v4 = .int .i64 x4_1 ∧ Aside0 (spec_AutocorrelationOf.l0 kq x3_1 x4_1 a0_0 a0_1 = some r) ∧ Aside0 (kq ≤ k) ∧ Aside0 (Kd.R (Kd.int .i64) 3 w' w.heap.size (fun _ => True) v3 x3_1) ∧ Aside0 (w'.heap[gb101]? = some (.cells #[.int .i64 a0_0,.int .i64 a0_1] 25 (0,0))) ∧ Aside0 (Below w.heap.size w w'))
 case atStart => exact ⟨(y102),(0),T6_,H',⟨Nat.le_refl _⟩,⟨by (with_reducible repeat (first | apply Kd.R_alloc | apply Kd.R_drewN | apply Kd.R_drew));exact HO104.out⟩,⟨by (with_reducible repeat (first | refine blk_drewN ?_ _ | refine blk_drew ?_ | refine blk_alloc ?_ _));exact BK101.out⟩,⟨by repeat (first | (with_reducible first | exact HB.out | apply below_alloc | apply pw_below_drewN | apply below_drew1 | refine below_set ?_ GE101.out) | exact HB.out)⟩⟩
 case round =>
  clear H'
  try clear c2
  try clear p2
  obtain ⟨x3_1,x4_1,rfl,HA,HK1,HO_3,BK101,HB⟩ := hrel
  cases gk with
  | zero => exact absurd HA.out (by simp [spec_AutocorrelationOf.l0])
  | succ k1 =>
   have H := HA.out
   clear HA
   simp only [spec_AutocorrelationOf.l0] at H
   have HC5 := aZ_ H
   clear H
   go_upto_region 3 with (fail)
   go_cut [16] (fun v16 wc => ∃ (kq : Nat) (x16_4 : Bool),v16 = .bool x16_4 ∧ Aside0 (spec_AutocorrelationOf.j1 kq x3_1 x4_1 x16_4 a0_0 a0_1 = some r) ∧ Aside0 (kq ≤ k1) ∧ Aside0 (Kd.R (Kd.int .i64) 3 wc w.heap.size (fun _ => True) u3 x3_1) ∧ Aside0 (wc.heap[gb101]? = some (.cells #[.int .i64 a0_0,.int .i64 a0_1] 25 (0,0))) ∧ Aside0 (Below w.heap.size w wc))
   case first =>
    have H := HC5.out
    clear HC5
    replace H := Option.bind_eq_some_iff.mp H
    obtain ⟨t105,A60,H⟩ := H
    replace H : (if t105 = true then (if 0 ≤ a0_0 then (spec_AutocorrelationOf.j1 k1 x3_1 x4_1 (decide (x4_1 < (shl .i64 1 a0_0))) a0_0 a0_1) else (none)) else (spec_AutocorrelationOf.j1 k1 x3_1 x4_1 false a0_0 a0_1)) = some r := H
    have A6 := aZ_ A60
    clear A60
    by_cases c7 : t105 = true
    ·subst c7
     have H1 : (if 0 ≤ a0_0 then (spec_AutocorrelationOf.j1 k1 x3_1 x4_1 (decide (x4_1 < (shl .i64 1 a0_0))) a0_0 a0_1) else (none)) = some r := by rw [if_pos rfl] at H;exact H
     clear H
     have H := H1
     clear H1
     by_cases c8 : 0 ≤ a0_0
     ·rw [if_pos c8] at H
      have c8b0 := eq_true c8
      have c8b1 : decide (0 ≤ a0_0) = true := decide_eq_true c8
      clear c8
      obtain ⟨ji9,hji9⟩ : ∃ j_ : Int,(shl .i64 1 a0_0) = j_ := ⟨_,rfl⟩
      replace H : (spec_AutocorrelationOf.j1 k1 x3_1 x4_1 (decide (x4_1 < (ji9))) a0_0 a0_1) = some r := by first | (rw [hji9] at H;exact H) | (simp only [hji9] at H ⊢;exact H)
      (try rw [hji9] at A6)
      have hji9_ : (IntKind.i64.wrap (1 * 2 ^ min a0_0.toNat 64)) = ji9 := hji9
      have hji9z : a0_0 ≤ 64 → (IntKind.i64.wrap (1 * 2 ^ a0_0.toNat)) = ji9 := shl_small hji9
      have hji9u : (IntKind.i64.wrap (2 ^ min a0_0.toNat 64)) = ji9 := by have h_ := hji9_;rw [Int.one_mul] at h_;exact h_
      have hji9v : a0_0 ≤ 64 → (IntKind.i64.wrap (2 ^ a0_0.toNat)) = ji9 := fun hle_ => by have h_ := hji9z hle_;rw [Int.one_mul] at h_;exact h_
      have hji9y : (wrap64 (1 * 2 ^ min a0_0.toNat 64)) = ji9 := (i64_w _).symm.trans hji9_
      have hji9x : a0_0 ≤ 64 → (wrap64 (1 * 2 ^ a0_0.toNat)) = ji9 := fun h_ => (i64_w _).symm.trans (hji9z h_)
      have H' := aZ_ H
      clear H
      have hcz10_0 : wr.cell? ⟨gb101,0,none⟩ = some (.int .i64 a0_0) := (blk_cell BK101.out 0).trans rfl
      have hcz10_1 : wr.cell? ⟨gb101,1,none⟩ = some (.int .i64 a0_1) := (blk_cell BK101.out 1).trans rfl
      have hfz10_0 := blk_frozen BK101.out 0
      have hfz10_1 := blk_frozen BK101.out 1
      go_wp2_with (first | ((with_reducible refine gate_callee (f := 34) rfl ?_);refine goesL_ (some 9) rfl rfl Try.func34 T16_ rfl #[.agg #[.int .i64 a0_0,.int .i64 a0_1]] rfl T3_ ?_;(with_reducible refine (spec_IsTable.calls a0_0 a0_1 true _ A6.out).mono ?_);rintro e w11 ⟨rfl,hb⟩;refine ⟨_,rfl,?_⟩;have n0_ := aZ_ (Kd.R_below T17_ hb);have n1_ := aZ_ (blk_below (g := gb101) (o := .cells #[.int .i64 a0_0,.int .i64 a0_1] 25 (0,0)) T2_ hb);have n2_ := aZ_ (below_step T1_ hb);clear HO_3;clear BK101;clear HB;have HO_3 := n0_;have BK101 := n1_;have HB := n2_;clear n0_ n1_ n2_;(try clear hb);(try clear hb2);(try clear hk);(try clear hi);have hcz12_0 : w11.cell? ⟨gb101,0,none⟩ = some (.int .i64 a0_0) := (blk_cell BK101.out 0).trans rfl;have hcz12_1 : w11.cell? ⟨gb101,1,none⟩ = some (.int .i64 a0_1) := (blk_cell BK101.out 1).trans rfl;have hfz12_0 := blk_frozen BK101.out 0;have hfz12_1 := blk_frozen BK101.out 1))
      go_meet
      case rel => exact ⟨_,(decide (x4_1 < (ji9))),(by first | rfl | (simp;done) | (simp only [← hji9] <;> (first | rfl | simp)) | (simp [*];done)),H',⟨by have := HK1.out;first | omega | exact Nat.le_refl _⟩,⟨by (with_reducible repeat (first | apply Kd.R_alloc | apply Kd.R_drewN | apply Kd.R_drew));exact HO_3.out⟩,⟨by (with_reducible repeat (first | refine blk_drewN ?_ _ | refine blk_drew ?_ | refine blk_alloc ?_ _));exact BK101.out⟩,⟨by repeat (first | (with_reducible first | exact HB.out | apply below_alloc | apply pw_below_drewN | apply below_drew1 | refine below_set ?_ GE101.out) | exact HB.out)⟩⟩
     ·rw [if_neg c8] at H
      exact absurd H T42_
    ·replace c7 := Bool.eq_false_iff.mpr c7
     subst c7
     have H1 : (spec_AutocorrelationOf.j1 k1 x3_1 x4_1 false a0_0 a0_1) = some r := by rw [if_neg (show ¬ (false = true) by decide)] at H;exact H
     clear H
     have H := H1
     clear H1
     have H' := aZ_ H
     clear H
     have hcz13_0 : wr.cell? ⟨gb101,0,none⟩ = some (.int .i64 a0_0) := (blk_cell BK101.out 0).trans rfl
     have hcz13_1 : wr.cell? ⟨gb101,1,none⟩ = some (.int .i64 a0_1) := (blk_cell BK101.out 1).trans rfl
     have hfz13_0 := blk_frozen BK101.out 0
     have hfz13_1 := blk_frozen BK101.out 1
     go_wp2_with (first | ((with_reducible refine gate_callee (f := 34) rfl ?_);refine goesL_ (some 9) rfl rfl Try.func34 T16_ rfl #[.agg #[.int .i64 a0_0,.int .i64 a0_1]] rfl T3_ ?_;(with_reducible refine (spec_IsTable.calls a0_0 a0_1 false _ A6.out).mono ?_);rintro e w14 ⟨rfl,hb⟩;refine ⟨_,rfl,?_⟩;have n0_ := aZ_ (Kd.R_below T17_ hb);have n1_ := aZ_ (blk_below (g := gb101) (o := .cells #[.int .i64 a0_0,.int .i64 a0_1] 25 (0,0)) T2_ hb);have n2_ := aZ_ (below_step T1_ hb);clear HO_3;clear BK101;clear HB;have HO_3 := n0_;have BK101 := n1_;have HB := n2_;clear n0_ n1_ n2_;(try clear hb);(try clear hb2);(try clear hk);(try clear hi)))
     go_meet
     case rel => exact ⟨_,(false),T6_,H',⟨by have := HK1.out;first | omega | exact Nat.le_refl _⟩,⟨by (with_reducible repeat (first | apply Kd.R_alloc | apply Kd.R_drewN | apply Kd.R_drew));exact HO_3.out⟩,⟨by (with_reducible repeat (first | refine blk_drewN ?_ _ | refine blk_drew ?_ | refine blk_alloc ?_ _));exact BK101.out⟩,⟨by repeat (first | (with_reducible first | exact HB.out | apply below_alloc | apply pw_below_drewN | apply below_drew1 | refine below_set ?_ GE101.out) | exact HB.out)⟩⟩
   case rest =>
    clear HC5
    try clear c2
    try clear p2
    try clear c3
    try clear p6
    try clear c7
    try clear c8
    try clear c8b0
    try clear c8b1
    try clear hcz10_0
    try clear hcz10_1
    try clear hcz12_0
    try clear hcz12_1
    try clear hcz13_0
    try clear hcz13_1
    try clear hfz10_0
    try clear hfz10_1
    try clear hfz12_0
    try clear hfz12_1
    try clear hfz13_0
    try clear hfz13_1
    try clear p2
    obtain ⟨kq,x16_4,rfl,HA,HJ4,HO_3,BK101,HB⟩ := hcut
    cases kq with
    | zero => exact absurd HA.out (by simp [spec_AutocorrelationOf.j1])
    | succ kj4 =>
     have H := HA.out
     clear HA
     simp only [spec_AutocorrelationOf.j1] at H
     by_cases c15 : x16_4 = true
     ·subst c15
      have H1 : (spec_AutocorrelationOf.l1 kj4 x3_1 x4_1 0 0 a0_0 a0_1) = some r := by rw [if_pos rfl] at H;exact H
      clear H
      have H := H1
      clear H1
      have H' := aZ_ H
      clear H
      go_wp2
      go_loopg [5,6] kj4 (fun kq v5 v6 w' => ∃ (x5_3 : Int) (x6_3 : Int),v5 = .int .i64 x5_3 ∧ v6 = .int .i64 x6_3 ∧ Aside0 (spec_AutocorrelationOf.l1 kq x3_1 x4_1 x5_3 x6_3 a0_0 a0_1 = some r) ∧ Aside0 (kq ≤ kj4) ∧ Aside0 (Kd.R (Kd.int .i64) 3 w' w.heap.size (fun _ => True) u3 x3_1) ∧ Aside0 (w'.heap[gb101]? = some (.cells #[.int .i64 a0_0,.int .i64 a0_1] 25 (0,0))) ∧ Aside0 (Below w.heap.size w w'))
      case atStart => exact ⟨(0),(0),T6_,T6_,H',⟨Nat.le_refl _⟩,⟨by (with_reducible repeat (first | apply Kd.R_alloc | apply Kd.R_drewN | apply Kd.R_drew));exact HO_3.out⟩,⟨by (with_reducible repeat (first | refine blk_drewN ?_ _ | refine blk_drew ?_ | refine blk_alloc ?_ _));exact BK101.out⟩,⟨by repeat (first | (with_reducible first | exact HB.out | apply below_alloc | apply pw_below_drewN | apply below_drew1 | refine below_set ?_ GE101.out) | exact HB.out)⟩⟩
      case round =>
       clear H'
       try clear c1
       try clear c2
       try clear p2
       try clear c3
       try clear p6
       try clear c7
       try clear c8
       try clear c8b0
       try clear c8b1
       try clear c15
       try clear hcz10_0
       try clear hcz10_1
       try clear hcz12_0
       try clear hcz12_1
       try clear hcz13_0
       try clear hcz13_1
       try clear hfz10_0
       try clear hfz10_1
       try clear hfz12_0
       try clear hfz12_1
       try clear hfz13_0
       try clear hfz13_1
       try clear p2
       try clear p6
       obtain ⟨x5_3,x6_3,rfl,rfl,HA,HK3,HO_3,BK101,HB⟩ := hrel
       cases gk with
       | zero => exact absurd HA.out (by simp [spec_AutocorrelationOf.l1])
       | succ k3 =>
        have H := HA.out
        clear HA
        simp only [spec_AutocorrelationOf.l1] at H
        by_cases c16 : 0 ≤ a0_0
        ·rw [if_pos c16] at H
         have c16b0 := eq_true c16
         have c16b1 : decide (0 ≤ a0_0) = true := decide_eq_true c16
         clear c16
         obtain ⟨ji17,hji17⟩ : ∃ j_ : Int,(shl .i64 1 a0_0) = j_ := ⟨_,rfl⟩
         replace H : (if x6_3 < (ji17) then (if 0 ≤ x6_3 then ((spec_l12Sign.f k3 (Go.bits .and .i64 (shr .i64 a0_1 x6_3) 1)).bind fun t106 => (if 0 ≤ (Go.bits .xor .i64 x6_3 x4_1) then ((spec_l12Sign.f k3 (Go.bits .and .i64 (shr .i64 a0_1 (Go.bits .xor .i64 x6_3 x4_1)) 1)).bind fun t107 => (spec_AutocorrelationOf.l1 k3 x3_1 x4_1 (wrap64 (x5_3 + (wrap64 (t106 * t107)))) (wrap64 (x6_3 + 1)) a0_0 a0_1)) else (none))) else (none)) else (if x3_1.length < 17592186044416 then (spec_AutocorrelationOf.l0 k3 (x3_1 ++ [x5_3]) (wrap64 (x4_1 + 1)) a0_0 a0_1) else (none))) = some r := by first | (rw [hji17] at H;exact H) | (simp only [hji17] at H ⊢;exact H)
         have hji17_ : (IntKind.i64.wrap (1 * 2 ^ min a0_0.toNat 64)) = ji17 := hji17
         have hji17z : a0_0 ≤ 64 → (IntKind.i64.wrap (1 * 2 ^ a0_0.toNat)) = ji17 := shl_small hji17
         have hji17u : (IntKind.i64.wrap (2 ^ min a0_0.toNat 64)) = ji17 := by have h_ := hji17_;rw [Int.one_mul] at h_;exact h_
         have hji17v : a0_0 ≤ 64 → (IntKind.i64.wrap (2 ^ a0_0.toNat)) = ji17 := fun hle_ => by have h_ := hji17z hle_;rw [Int.one_mul] at h_;exact h_
         have hji17y : (wrap64 (1 * 2 ^ min a0_0.toNat 64)) = ji17 := (i64_w _).symm.trans hji17_
         have hji17x : a0_0 ≤ 64 → (wrap64 (1 * 2 ^ a0_0.toNat)) = ji17 := fun h_ => (i64_w _).symm.trans (hji17z h_)
         by_cases c18 : x6_3 < (ji17)
         ·rw [if_pos c18] at H
          have c18b0 : decide (x6_3 < (ji17)) = true := decide_eq_true c18
          clear c18
          by_cases c19 : 0 ≤ x6_3
          ·rw [if_pos c19] at H
           have c19b0 := eq_true c19
           have c19b1 : decide (0 ≤ x6_3) = true := decide_eq_true c19
           clear c19
           obtain ⟨ji20,hji20⟩ : ∃ j_ : Int,(shr .i64 a0_1 x6_3) = j_ := ⟨_,rfl⟩
           replace H : ((spec_l12Sign.f k3 (Go.bits .and .i64 (ji20) 1)).bind fun t106 => (if 0 ≤ (Go.bits .xor .i64 x6_3 x4_1) then ((spec_l12Sign.f k3 (Go.bits .and .i64 (shr .i64 a0_1 (Go.bits .xor .i64 x6_3 x4_1)) 1)).bind fun t107 => (spec_AutocorrelationOf.l1 k3 x3_1 x4_1 (wrap64 (x5_3 + (wrap64 (t106 * t107)))) (wrap64 (x6_3 + 1)) a0_0 a0_1)) else (none))) = some r := by first | (rw [hji20] at H;exact H) | (simp only [hji20] at H ⊢;exact H)
           have hji20_ : (a0_1 / 2 ^ min x6_3.toNat 64) = ji20 := hji20
           have hji20z : x6_3 ≤ 64 → (a0_1 / 2 ^ x6_3.toNat) = ji20 := shr_small hji20
           replace H := Option.bind_eq_some_iff.mp H
           obtain ⟨t106,A210,H⟩ := H
           replace H : (if 0 ≤ (Go.bits .xor .i64 x6_3 x4_1) then ((spec_l12Sign.f k3 (Go.bits .and .i64 (shr .i64 a0_1 (Go.bits .xor .i64 x6_3 x4_1)) 1)).bind fun t107 => (spec_AutocorrelationOf.l1 k3 x3_1 x4_1 (wrap64 (x5_3 + (wrap64 (t106 * t107)))) (wrap64 (x6_3 + 1)) a0_0 a0_1)) else (none)) = some r := H
           have A21 := aZ_ A210
           clear A210
           by_cases c22 : 0 ≤ (Go.bits .xor .i64 x6_3 x4_1)
           ·rw [if_pos c22] at H
            have c22b0 := eq_true c22
            have c22b1 : decide (0 ≤ (Go.bits .xor .i64 x6_3 x4_1)) = true := decide_eq_true c22
            clear c22
            obtain ⟨ji23,hji23⟩ : ∃ j_ : Int,(shr .i64 a0_1 (Go.bits .xor .i64 x6_3 x4_1)) = j_ := ⟨_,rfl⟩
            replace H : ((spec_l12Sign.f k3 (Go.bits .and .i64 (ji23) 1)).bind fun t107 => (spec_AutocorrelationOf.l1 k3 x3_1 x4_1 (wrap64 (x5_3 + (wrap64 (t106 * t107)))) (wrap64 (x6_3 + 1)) a0_0 a0_1)) = some r := by first | (rw [hji23] at H;exact H) | (simp only [hji23] at H ⊢;exact H)
            (try rw [hji23] at A21)
            have hji23_ : (a0_1 / 2 ^ min (Go.bits .xor .i64 x6_3 x4_1).toNat 64) = ji23 := hji23
            have hji23z : (Go.bits .xor .i64 x6_3 x4_1) ≤ 64 → (a0_1 / 2 ^ (Go.bits .xor .i64 x6_3 x4_1).toNat) = ji23 := shr_small hji23
            replace H := Option.bind_eq_some_iff.mp H
            obtain ⟨t107,A240,H⟩ := H
            replace H : (spec_AutocorrelationOf.l1 k3 x3_1 x4_1 (wrap64 (x5_3 + (wrap64 (t106 * t107)))) (wrap64 (x6_3 + 1)) a0_0 a0_1) = some r := H
            have A24 := aZ_ A240
            clear A240
            have H' := aZ_ H
            clear H
            have hcz25_0 : wr.cell? ⟨gb101,0,none⟩ = some (.int .i64 a0_0) := (blk_cell BK101.out 0).trans rfl
            have hcz25_1 : wr.cell? ⟨gb101,1,none⟩ = some (.int .i64 a0_1) := (blk_cell BK101.out 1).trans rfl
            have hfz25_0 := blk_frozen BK101.out 0
            have hfz25_1 := blk_frozen BK101.out 1
            try go_wp2
            have n0_ := aZ_ (Kd.R_drew HO_3.out)
            have n1_ := aZ_ (blk_drew BK101.out)
            have n2_ := aZ_ (below_drew1 HB.out)
            clear HO_3
            clear BK101
            clear HB
            have HO_3 := n0_
            have BK101 := n1_
            have HB := n2_
            clear n0_ n1_ n2_
            refine start_ (n := 18) (S := fun w' => w'.cell? ⟨gb101,0,none⟩ = some (.int .i64 a0_0) ∧ w'.cell? ⟨gb101,1,none⟩ = some (.int .i64 a0_1)) (ds := []) #[false,false,false,false,false,false,false,false,false,false,false,false,false,false,false,false,false,false] T16_ rfl rfl ⟨(blk_cell BK101.out 0).trans rfl,(blk_cell BK101.out 1).trans rfl⟩ (fun hHeld => ?_);refine with_tabW spec_AutocorrelationOf.tab9 spec_AutocorrelationOf.bits9 (fun HT_ HW_ => ?_)
            generalize wr.drew = w26 at HO_3 BK101 HB hHeld ⊢
            refine pZ_ 0 (some 26) #[true,false,false,false,false,false,false,false,false,false,false,false,false,false,false,false,false,false] ?_
            refine pZ_ 1 (some 27) #[true,true,false,false,false,false,false,false,false,false,false,false,false,false,false,false,false,false] ?_
            refine pZ_ 3 (some 29) #[true,true,false,true,false,false,false,false,false,false,false,false,false,false,false,false,false,false] ?_
            refine pZ_ 7 (some 33) #[true,true,false,true,false,false,false,true,false,false,false,false,false,false,false,false,false,false] ?_
            refine pZ_ 9 (some 35) #[true,true,false,true,false,false,false,true,false,true,false,false,false,false,false,false,false,false] ?_
            refine pZ_ 10 (some 36) #[true,true,false,true,false,false,false,true,false,true,true,false,false,false,false,false,false,false] ?_
            refine pZ_ 11 (some 37) #[true,true,false,true,false,false,false,true,false,true,true,true,false,false,false,false,false,false] ?_
            refine tZ2_ 2 (some 28) #[true,true,true,true,false,false,false,true,false,true,true,true,false,false,false,false,false,false] hHeld ?_
            refine pZ_ 4 (some 30) #[true,true,true,true,true,false,false,true,false,true,true,true,false,false,false,false,false,false] ?_
            refine pZ_ 5 (some 31) #[true,true,true,true,true,true,false,true,false,true,true,true,false,false,false,false,false,false] ?_
            refine tZ2_ 8 (some 34) #[true,true,true,true,true,true,false,true,true,true,true,true,false,false,false,false,false,false] hHeld ?_
            refine pZ_ 12 (some 38) #[true,true,true,true,true,true,false,true,true,true,true,true,true,false,false,false,false,false] ?_
            refine pZ_ 13 (some 39) #[true,true,true,true,true,true,false,true,true,true,true,true,true,true,false,false,false,false] ?_
            refine one_ (i := 6) (N := some 32) #[true,true,true,true,true,true,true,true,true,true,true,true,true,true,false,false,false,false] rfl rfl (one_of HT_.out T16_) T43_ (fun K hK => ?_)
            refine goes_ Try.func35 T16_ rfl #[.int .i64 (Go.bits .and .i64 (ji20) 1)] (by rfl) rfl rfl T46_ ?_
            with_reducible refine (spec_l12Sign.calls k3 (Go.bits .and .i64 (ji20) 1) t106 _ A21.out).mono ?_
            rintro e w' ⟨rfl,⟨nd,rfl⟩⟩
            refine ⟨_,rfl,?_⟩
            refine hK.out _ _ ⟨(blk_cell BK101.out 0).trans rfl,(blk_cell BK101.out 1).trans rfl⟩ (fun hHeld => ?_)
            clear hK K
            refine norm_ (a' := ?_) ?_ ?_
            rotate_left
            ·show Act.put _ (some 32) _ = _
             simp only [Act.put,List.setIfInBounds_toArray,List.set_cons_zero,List.set_cons_succ,i64_w,i32_w]
             rfl
            refine one_ (i := 14) (N := some 40) #[true,true,true,true,true,true,true,true,true,true,true,true,true,true,true,false,false,false] rfl rfl (one_of HT_.out T16_) T43_ (fun K hK => ?_)
            refine goes_ Try.func35 T16_ rfl #[.int .i64 (Go.bits .and .i64 (ji23) 1)] (by rfl) rfl rfl (by (try simp only [List.map_toArray,List.map_cons,List.map_nil]);first | done | (simp only [hji23];rfl) | rfl | (simp only [List.length_drop,List.length_take];rfl)) ?_
            with_reducible refine (spec_l12Sign.calls k3 (Go.bits .and .i64 (ji23) 1) t107 _ A24.out).mono ?_
            rintro e w' ⟨rfl,⟨nd,rfl⟩⟩
            refine ⟨_,rfl,?_⟩
            refine hK.out _ _ ⟨(blk_cell BK101.out 0).trans rfl,(blk_cell BK101.out 1).trans rfl⟩ (fun hHeld => ?_)
            clear hK K
            refine norm_ (a' := ?_) ?_ ?_
            rotate_left
            ·show Act.put _ (some 40) _ = _
             simp only [Act.put,List.setIfInBounds_toArray,List.set_cons_zero,List.set_cons_succ,i64_w,i32_w]
             rfl
            refine pZ_ 15 (some 41) #[true,true,true,true,true,true,true,true,true,true,true,true,true,true,true,true,false,false] ?_
            refine pZ_ 16 (some 42) #[true,true,true,true,true,true,true,true,true,true,true,true,true,true,true,true,true,false] ?_
            refine pZ_ 17 (some 5) #[true,true,true,true,true,true,true,true,true,true,true,true,true,true,true,true,true,true] ?_
            refine done_ (done_of HT_.out T16_) ?_
            try go_wp2
            go_roundg k3
            case measure => have := HK1.out;have := HJ4.out;have := HK3.out;omega
            case rel => exact ⟨(wrap64 (x5_3 + (wrap64 (t106 * t107)))),(wrap64 (x6_3 + 1)),T6_,T6_,H',⟨by have := HK1.out;have := HJ4.out;have := HK3.out;omega⟩,⟨by (with_reducible repeat (first | apply Kd.R_alloc | apply Kd.R_drewN | apply Kd.R_drew));exact HO_3.out⟩,⟨by (with_reducible repeat (first | refine blk_drewN ?_ _ | refine blk_drew ?_ | refine blk_alloc ?_ _));exact BK101.out⟩,⟨by repeat (first | (with_reducible first | exact HB.out | apply below_alloc | apply pw_below_drewN | apply below_drew1 | refine below_set ?_ GE101.out) | exact HB.out)⟩⟩
           ·rw [if_neg c22] at H
            exact absurd H T42_
          ·rw [if_neg c19] at H
           exact absurd H T42_
         ·rw [if_neg c18] at H
          have c18b0 : decide (x6_3 < (ji17)) = false := decide_eq_false c18
          clear c18
          by_cases c27 : x3_1.length < 17592186044416
          ·rw [if_pos c27] at H
           have LMc27 := aZ_ c27
           clear c27
           obtain ⟨y108,hy108⟩ : ∃ y_ : List Int,y_ = (x3_1 ++ [x5_3]) := ⟨_,rfl⟩
           replace H : (spec_AutocorrelationOf.l0 k3 y108 (wrap64 (x4_1 + 1)) a0_0 a0_1) = some r := by first | (rw [hy108];with_reducible exact H) | (have H2_ := (Option.bind_some _ _).symm.trans H;rw [hy108];with_reducible exact H2_) | (have H2_ := (Option.bind_some _ _).symm.trans H;with_reducible exact H2_) | with_reducible exact H | (rw [hy108];exact H) | exact H
           have Ny108 := aZ_ hy108
           clear hy108
           have H' := aZ_ H
           clear H
           have hcz28_0 : wr.cell? ⟨gb101,0,none⟩ = some (.int .i64 a0_0) := (blk_cell BK101.out 0).trans rfl
           have hcz28_1 : wr.cell? ⟨gb101,1,none⟩ = some (.int .i64 a0_1) := (blk_cell BK101.out 1).trans rfl
           have hfz28_0 := blk_frozen BK101.out 0
           have hfz28_1 := blk_frozen BK101.out 1
           go_wp2_with (first | ((with_reducible refine gate_builtin (b := .append) (xs := #[.tmp 43,.tmp 45]) rfl ?_);at_builtin;refine Kd.R_append (Kd.int .i64) (w0 := w) w.heap.size rfl (.tmp 43) (.tmp 45) 27 3 (.int .i64 0) 8 rfl Try.underlying27 info3 rfl T43_ T48_ u3 x3_1 x5_3 [.int .i64 x5_3] (fun _ => True) (fun _ => False) rfl rfl ?aP (fun _ hk => hk.elim) ?aF ?aO ?aB ?aS ?aL ?_;(case aP => exact rfl);(case aB => exact T1_);(case aF => exact (fun _ _ => trivial));(case aO => exact T17_);(case aS => exact (below_size T1_));(case aL => have := LMc27.out;omega);intro v109 w29 ho hb hg hat;rw [← Ny108.out] at ho;have n0_ := aZ_ (blk_grown (g := gb101) (o := .cells #[.int .i64 a0_0,.int .i64 a0_1] 25 (0,0)) T2_ hg (Kd.R_ne HO_3.out BK101.out T43_));have n1_ := aZ_ (hb);have n2_ := aZ_ (ho);clear BK101;clear HB;clear HO_3;have BK101 := n0_;have HB := n1_;have HO110 := n2_;clear n0_ n1_ n2_;clear ho hb hg hat))
           go_roundg k3
           case measure => have := HK1.out;have := HJ4.out;have := HK3.out;omega
           case rel => exact ⟨(y108),(wrap64 (x4_1 + 1)),T6_,H',⟨by have := HK1.out;have := HJ4.out;have := HK3.out;omega⟩,⟨by (with_reducible repeat (first | apply Kd.R_alloc | apply Kd.R_drewN | apply Kd.R_drew));exact HO110.out⟩,⟨by (with_reducible repeat (first | refine blk_drewN ?_ _ | refine blk_drew ?_ | refine blk_alloc ?_ _));exact BK101.out⟩,⟨by repeat (first | (with_reducible first | exact HB.out | apply below_alloc | apply pw_below_drewN | apply below_drew1 | refine below_set ?_ GE101.out) | exact HB.out)⟩⟩
          ·rw [if_neg c27] at H
           exact absurd H T42_
        ·rw [if_neg c16] at H
         exact absurd H T42_
     ·replace c15 := Bool.eq_false_iff.mpr c15
      subst c15
      have H1 : (some x3_1) = some r := by rw [if_neg (show ¬ (false = true) by decide)] at H;exact H
      clear H
      have H := H1
      clear H1
      obtain rfl := Option.some.inj H
      go_wp2
      go_ret
      exact ⟨_,by first | rfl | (simp [errW_none,errW_some] <;> rfl) | (simp [*,errW_none,errW_some] <;> rfl),by (with_reducible repeat (first | apply Kd.R_alloc | apply Kd.R_drewN | apply Kd.R_drew));exact HO_3.out,by repeat (first | (with_reducible first | exact HB.out | apply below_alloc | apply pw_below_drewN | apply below_drew1 | refine below_set ?_ GE101.out) | exact HB.out)⟩
end Go.Proofs.Ytflacbjpeecjcaa.F
