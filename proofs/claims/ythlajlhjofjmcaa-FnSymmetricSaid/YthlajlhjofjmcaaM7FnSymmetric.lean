/- Walks of Go functions and lemmas on what they compute, for the row of FnSymmetric (a part of several): each call ends as the Lean function of its name tells; the conditions are those of each theorem. -/
import Derived.Test.YthlajlhjofjmcaaM1FnSymmetric
import Derived.Test.YthlajlhjofjmcaaM2FnSymmetric
import Derived.Test.YthlajlhjofjmcaaM3FnSymmetric
import Derived.Test.YthlajlhjofjmcaaM6FnSymmetric
namespace Go.Proofs.Ythlajlhjofjmcaa.F
open Go.RowKit Go.Proofs.YthlajlhjofjmcaaW.PrintWords Go.Proofs.YthlajlhjofjmcaaW.PrintLast Go.Proofs.YthlajlhjofjmcaaW.PrintMore
attribute [local go_sem] max2_int min2_int max_two min_two max_three min_three max_four min_four 
set_option linter.unusedVariables false
set_option linter.unusedSimpArgs false
attribute [local go_sem high] eqA25
mutual
def impl_AreExchangeable.j0 : Nat → Int → Int → Bool → Int → Int → Option (Bool)
 | 0,_,_,_,_,_ => none
 | k + 1,x1,x2,x18,x102000,x102001 => if x18 = true then (some false) else (if 0 ≤ x102000 then (if (x102000 : Int).toNat ≤ 35184372088832 then ((some (List.replicate (x102000 : Int).toNat 0 : List Int)).bind fun y104 => (impl_AreExchangeable.l0 k x1 x2 y104 (y104.length : Int) 0 x102000 x102001)) else (none)) else (none))
def impl_AreExchangeable.l0 : Nat → Int → Int → List Int → Int → Int → Int → Int → Option (Bool)
 | 0,_,_,_,_,_,_,_ => none
 | k + 1,x1,x2,x7,x23,x24,x102000,x102001 => if x24 < x23 then (if 0 ≤ x24 then (if x24 < (x7.length : Int) then (impl_AreExchangeable.l0 k x1 x2 (x7.set (x24 : Int).toNat x24) x23 (wrap64 (x24 + 1)) x102000 x102001) else (none)) else (none)) else (if 0 ≤ x1 then (if x1 < (x7.length : Int) then (if 0 ≤ x2 then (if x2 < (x7.length : Int) then ((impl_Table_permute.f k x102000 x102001 ((x7.set (x1 : Int).toNat x2).set (x2 : Int).toNat x1)).bind fun bt110 => (some (bt110.1 == x102000 && (bt110.2 == x102001)))) else (none)) else (none)) else (none)) else (none))
end
def impl_AreExchangeable.f (k : Nat) (a0_0 : Int) (a0_1 : Int) (a1 : Int) (a2 : Int) : Option (Bool) := (impl_hasVariable.f a0_0 a0_1 a1).bind fun t102 => (if t102 = true then ((impl_hasVariable.f a0_0 a0_1 a2).bind fun t103 => (impl_AreExchangeable.j0 k a1 a2 (!t103) a0_0 a0_1)) else (impl_AreExchangeable.j0 k a1 a2 true a0_0 a0_1))
set_option maxHeartbeats 8000000 in
set_option maxRecDepth 100000 in
theorem impl_AreExchangeable.calls (k : Nat) (a0_0 : Int) (a0_1 : Int) (a1 : Int) (a2 : Int) (r : Bool) (w : World) (h : impl_AreExchangeable.f k a0_0 a0_1 a1 a2 = some r) :
  Calls Try.prog 16 #[.agg #[.int .i64 a0_0,.int .i64 a0_1],.int .i64 a1,.int .i64 a2] w fun e w' => e = .returned (.bool r) ∧ Below w.heap.size w w' := by
 have hu25 := Try.underlying25
 have HB := Aside0.mk (Below.refl w.heap.size w)
 have H : ((impl_hasVariable.f a0_0 a0_1 a1).bind fun t102 => (if t102 = true then ((impl_hasVariable.f a0_0 a0_1 a2).bind fun t103 => (impl_AreExchangeable.j0 k a1 a2 (!t103) a0_0 a0_1)) else (impl_AreExchangeable.j0 k a1 a2 true a0_0 a0_1))) = some r := h
 clear h
 have HC4 := Aside0.mk H
 clear H
 go_enter Try.func16,Try.ntmps16
 go_upto_region 1 with (first | ((with_reducible refine gate_dst (N := 3) rfl ?_);refine box_event ?hg (N := 3) ?hd (cs := #[.int .i64 a0_0,.int .i64 a0_1]) (t := 25) ?hr ?_;(case hd => rfl);(case hg => rfl);(case hr => first | (go_simp;done) | (go_simp;rfl));intro gb101 hg w5 hbox hb;have n0_ := Aside0.mk (below_step (by repeat (first | (with_reducible first | exact HB.out | apply below_alloc | apply pw_below_drewN | apply below_drew1) | exact HB.out)) hb);have n1_ := Aside0.mk (hbox);have n2_ := Aside0.mk ((by rw [hg];exact (below_size (by repeat (first | (with_reducible first | exact HB.out | apply below_alloc | apply pw_below_drewN | apply below_drew1) | exact HB.out))) : w.heap.size ≤ gb101));have n3_ := Aside0.mk ((by rw [hg];exact (below_size (by repeat (first | (with_reducible first | exact HB.out | apply below_alloc | apply pw_below_drewN | apply below_drew1) | exact HB.out))) : w.heap.size ≤ gb101));clear HB;have HB := n0_;have BK101 := n1_;have GW101 := n2_;have GE101 := n3_;clear n0_ n1_ n2_ n3_;clear hb hbox hg))
 (try simp only [Act.put,List.setIfInBounds_toArray,List.set_cons_zero,List.set_cons_succ])
 go_cut [18] (fun v18 wc => ∃ (kq : Nat) (x18_3 : Bool),v18 = .bool x18_3 ∧ Aside0 (impl_AreExchangeable.j0 kq a1 a2 x18_3 a0_0 a0_1 = some r) ∧ Aside0 (kq ≤ k) ∧ Aside0 (wc.heap[gb101]? = some (.cells #[.int .i64 a0_0,.int .i64 a0_1] 25 (0,0))) ∧ Aside0 (Below w.heap.size w wc))
 case first =>
  have H := HC4.out
  clear HC4
  replace H := Option.bind_eq_some_iff.mp H
  obtain ⟨t102,A60,H⟩ := H
  replace H : (if t102 = true then ((impl_hasVariable.f a0_0 a0_1 a2).bind fun t103 => (impl_AreExchangeable.j0 k a1 a2 (!t103) a0_0 a0_1)) else (impl_AreExchangeable.j0 k a1 a2 true a0_0 a0_1)) = some r := H
  have A6 := Aside0.mk A60
  clear A60
  by_cases c7 : t102 = true
  ·subst c7
   have H1 : ((impl_hasVariable.f a0_0 a0_1 a2).bind fun t103 => (impl_AreExchangeable.j0 k a1 a2 (!t103) a0_0 a0_1)) = some r := by rw [if_pos rfl] at H;exact H
   clear H
   have H := H1
   clear H1
   replace H := Option.bind_eq_some_iff.mp H
   obtain ⟨t103,A80,H⟩ := H
   replace H : (impl_AreExchangeable.j0 k a1 a2 (!t103) a0_0 a0_1) = some r := H
   have A8 := Aside0.mk A80
   clear A80
   have H' := Aside0.mk H
   clear H
   have hcz9_0 : w5.cell? ⟨gb101,0,none⟩ = some (.int .i64 a0_0) := (blk_cell BK101.out 0).trans rfl
   have hcz9_1 : w5.cell? ⟨gb101,1,none⟩ = some (.int .i64 a0_1) := (blk_cell BK101.out 1).trans rfl
   have hfz9_0 := blk_frozen BK101.out 0
   have hfz9_1 := blk_frozen BK101.out 1
   go_wp2_with (first | ((with_reducible refine gate_callee (f := 59) rfl ?_);refine goesL_ (some 11) rfl rfl Try.func59 (by kernel_rfl) rfl #[.agg #[.int .i64 a0_0,.int .i64 a0_1],.int .i64 a1] rfl (by (try simp only [List.map_toArray,List.map_cons,List.map_nil]);first | done | rfl | (simp only [List.length_drop,List.length_take];rfl)) ?_;(with_reducible refine (impl_hasVariable.calls a0_0 a0_1 a1 true _ A6.out).mono ?_);rintro e w10 ⟨rfl,hb⟩;refine ⟨_,rfl,?_⟩;have n0_ := Aside0.mk (blk_below (g := gb101) (o := .cells #[.int .i64 a0_0,.int .i64 a0_1] 25 (0,0)) (by (with_reducible repeat (first | refine blk_drewN ?_ _ | refine blk_drew ?_ | refine blk_alloc ?_ _));exact BK101.out) hb);have n1_ := Aside0.mk (below_step (by repeat (first | (with_reducible first | exact HB.out | apply below_alloc | apply pw_below_drewN | apply below_drew1 | refine below_set ?_ GE101.out) | exact HB.out)) hb);clear BK101;clear HB;have BK101 := n0_;have HB := n1_;clear n0_ n1_;(try clear hb);(try clear hb2);(try clear hk);(try clear hi);have hcz11_0 : w10.cell? ⟨gb101,0,none⟩ = some (.int .i64 a0_0) := (blk_cell BK101.out 0).trans rfl;have hcz11_1 : w10.cell? ⟨gb101,1,none⟩ = some (.int .i64 a0_1) := (blk_cell BK101.out 1).trans rfl;have hfz11_0 := blk_frozen BK101.out 0;have hfz11_1 := blk_frozen BK101.out 1) | (go_at_call 59;(with_reducible refine (impl_hasVariable.calls a0_0 a0_1 a2 t103 _ A8.out).mono ?_);rintro e w12 ⟨rfl,hb⟩;have n0_ := Aside0.mk (blk_below (g := gb101) (o := .cells #[.int .i64 a0_0,.int .i64 a0_1] 25 (0,0)) (by (with_reducible repeat (first | refine blk_drewN ?_ _ | refine blk_drew ?_ | refine blk_alloc ?_ _));exact BK101.out) hb);have n1_ := Aside0.mk (below_step (by repeat (first | (with_reducible first | exact HB.out | apply below_alloc | apply pw_below_drewN | apply below_drew1 | refine below_set ?_ GE101.out) | exact HB.out)) hb);clear BK101;clear HB;have BK101 := n0_;have HB := n1_;clear n0_ n1_;(try clear hb);(try clear hb2);(try clear hk);(try clear hi)))
   go_meet
   case rel => exact ⟨_,(!t103),(by first | rfl | (simp;done) | (simp [*];done)),H',⟨by first | omega | exact Nat.le_refl _⟩,⟨by (with_reducible repeat (first | refine blk_drewN ?_ _ | refine blk_drew ?_ | refine blk_alloc ?_ _));exact BK101.out⟩,⟨by repeat (first | (with_reducible first | exact HB.out | apply below_alloc | apply pw_below_drewN | apply below_drew1 | refine below_set ?_ GE101.out) | exact HB.out)⟩⟩
  ·replace c7 := Bool.eq_false_iff.mpr c7
   subst c7
   have H1 : (impl_AreExchangeable.j0 k a1 a2 true a0_0 a0_1) = some r := by rw [if_neg (show ¬ (false = true) by decide)] at H;exact H
   clear H
   have H := H1
   clear H1
   have H' := Aside0.mk H
   clear H
   have hcz13_0 : w5.cell? ⟨gb101,0,none⟩ = some (.int .i64 a0_0) := (blk_cell BK101.out 0).trans rfl
   have hcz13_1 : w5.cell? ⟨gb101,1,none⟩ = some (.int .i64 a0_1) := (blk_cell BK101.out 1).trans rfl
   have hfz13_0 := blk_frozen BK101.out 0
   have hfz13_1 := blk_frozen BK101.out 1
   go_wp2_with (first | ((with_reducible refine gate_callee (f := 59) rfl ?_);refine goesL_ (some 11) rfl rfl Try.func59 (by kernel_rfl) rfl #[.agg #[.int .i64 a0_0,.int .i64 a0_1],.int .i64 a1] rfl (by (try simp only [List.map_toArray,List.map_cons,List.map_nil]);first | done | rfl | (simp only [List.length_drop,List.length_take];rfl)) ?_;(with_reducible refine (impl_hasVariable.calls a0_0 a0_1 a1 false _ A6.out).mono ?_);rintro e w14 ⟨rfl,hb⟩;refine ⟨_,rfl,?_⟩;have n0_ := Aside0.mk (blk_below (g := gb101) (o := .cells #[.int .i64 a0_0,.int .i64 a0_1] 25 (0,0)) (by (with_reducible repeat (first | refine blk_drewN ?_ _ | refine blk_drew ?_ | refine blk_alloc ?_ _));exact BK101.out) hb);have n1_ := Aside0.mk (below_step (by repeat (first | (with_reducible first | exact HB.out | apply below_alloc | apply pw_below_drewN | apply below_drew1 | refine below_set ?_ GE101.out) | exact HB.out)) hb);clear BK101;clear HB;have BK101 := n0_;have HB := n1_;clear n0_ n1_;(try clear hb);(try clear hb2);(try clear hk);(try clear hi)))
   go_meet
   case rel => exact ⟨_,(true),(by first | rfl | (simp;done) | (simp [*];done)),H',⟨by first | omega | exact Nat.le_refl _⟩,⟨by (with_reducible repeat (first | refine blk_drewN ?_ _ | refine blk_drew ?_ | refine blk_alloc ?_ _));exact BK101.out⟩,⟨by repeat (first | (with_reducible first | exact HB.out | apply below_alloc | apply pw_below_drewN | apply below_drew1 | refine below_set ?_ GE101.out) | exact HB.out)⟩⟩
 case rest =>
  clear HC4
  try clear c1
  try clear p2
  try clear c5
  try clear c7
  try clear hcz11_0
  try clear hcz11_1
  try clear hcz13_0
  try clear hcz13_1
  try clear hcz9_0
  try clear hcz9_1
  try clear hfz11_0
  try clear hfz11_1
  try clear hfz13_0
  try clear hfz13_1
  try clear hfz9_0
  try clear hfz9_1
  obtain ⟨kq,x18_3,rfl,HA,HJ3,BK101,HB⟩ := hcut
  cases kq with
  | zero => exact absurd HA.out (by simp [impl_AreExchangeable.j0])
  | succ kj3 =>
   have H := HA.out
   clear HA
   simp only [impl_AreExchangeable.j0] at H
   by_cases c15 : x18_3 = true
   ·subst c15
    have H1 : (some false) = some r := by rw [if_pos rfl] at H;exact H
    clear H
    have H := H1
    clear H1
    obtain rfl := Option.some.inj H
    go_wp2
    go_ret
    exact ⟨by first | rfl | (simp [errW_none,errW_some] <;> rfl) | (simp [*,errW_none,errW_some] <;> rfl),by repeat (first | (with_reducible first | exact HB.out | apply below_alloc | apply pw_below_drewN | apply below_drew1 | refine below_set ?_ GE101.out) | exact HB.out)⟩
   ·replace c15 := Bool.eq_false_iff.mpr c15
    subst c15
    have H1 : (if 0 ≤ a0_0 then (if (a0_0 : Int).toNat ≤ 35184372088832 then ((some (List.replicate (a0_0 : Int).toNat 0 : List Int)).bind fun y104 => (impl_AreExchangeable.l0 kj3 a1 a2 y104 (y104.length : Int) 0 a0_0 a0_1)) else (none)) else (none)) = some r := by rw [if_neg (show ¬ (false = true) by decide)] at H;exact H
    clear H
    have H := H1
    clear H1
    by_cases c16 : 0 ≤ a0_0
    ·rw [if_pos c16] at H
     have c16b0 := eq_true c16
     have c16b1 : decide (0 ≤ a0_0) = true := decide_eq_true c16
     clear c16
     by_cases c17 : (a0_0 : Int).toNat ≤ 35184372088832
     ·rw [if_pos c17] at H
      have c17b0 := eq_true c17
      have c17b1 : decide ((a0_0 : Int).toNat ≤ 35184372088832) = true := decide_eq_true c17
      clear c17
      obtain ⟨y104,hy104⟩ : ∃ y_ : List Int,y_ = (List.replicate (a0_0 : Int).toNat 0) := ⟨_,rfl⟩
      replace H : (impl_AreExchangeable.l0 kj3 a1 a2 y104 (y104.length : Int) 0 a0_0 a0_1) = some r := by first | (rw [hy104];with_reducible exact H) | (have H2_ := (Option.bind_some _ _).symm.trans H;rw [hy104];with_reducible exact H2_) | (have H2_ := (Option.bind_some _ _).symm.trans H;with_reducible exact H2_) | with_reducible exact H | (rw [hy104];exact H) | exact H
      have Ny104 := Aside0.mk hy104
      clear hy104
      have H' := Aside0.mk H
      clear H
      have hcz18_0 : wc.cell? ⟨gb101,0,none⟩ = some (.int .i64 a0_0) := (blk_cell BK101.out 0).trans rfl
      have hcz18_1 : wc.cell? ⟨gb101,1,none⟩ = some (.int .i64 a0_1) := (blk_cell BK101.out 1).trans rfl
      have hfz18_0 := blk_frozen BK101.out 0
      have hfz18_1 := blk_frozen BK101.out 1
      go_wp2_with (first | ((with_reducible refine gate_dst (N := 21) rfl ?_);refine Kd.R_make (Kd.int .i64) _ 3 rfl (N := 21) rfl 27 _ _ rfl a0_0 rfl rfl Try.underlying27 (.int .i64 0) 8 info3 rfl (by decide) (by omega) 0 (ok := fun _ => True) (okp := fun _ => True) rfl (fun _ hk => hk) trivial (of_decide_eq_true (by first | (with_reducible assumption) | assumption)) (Nat.le_trans (Nat.mul_le_mul_right _ (of_decide_eq_true (by first | (with_reducible assumption) | assumption) : a0_0.toNat ≤ 35184372088832)) (by omega)) (Below.refl _ _) (Nat.le_refl _) ?_;intro v105 w19 ho20 hb hg_ hnew_;clear hg_ hnew_;(first | rw [← Ny104.out] at ho20 | (simp only [Int.reduceToNat] at ho20;rw [← Ny104.out] at ho20));have n0_ := Aside0.mk (Kd.R_lower ho20 (below_size (by repeat (first | (with_reducible first | exact HB.out | apply below_alloc | apply pw_below_drewN | apply below_drew1 | refine below_set ?_ GE101.out) | exact HB.out))));have n1_ := Aside0.mk (blk_below (g := gb101) (o := .cells #[.int .i64 a0_0,.int .i64 a0_1] 25 (0,0)) (by (with_reducible repeat (first | refine blk_drewN ?_ _ | refine blk_drew ?_ | refine blk_alloc ?_ _));exact BK101.out) hb);have n2_ := Aside0.mk (below_step (by repeat (first | (with_reducible first | exact HB.out | apply below_alloc | apply pw_below_drewN | apply below_drew1 | refine below_set ?_ GE101.out) | exact HB.out)) hb);clear BK101;clear HB;have HO106 := n0_;have BK101 := n1_;have HB := n2_;clear n0_ n1_ n2_;clear hb ho20;obtain ⟨Ao21,co21,eo21⟩ := Kd.R_slice HO106.out;subst eo21))
      go_loopg [24] kj3 (fun kq v24 w' => ∃ (x7_2 : List Int) (x24_2 : Int),v24 = .int .i64 x24_2 ∧ Aside0 (impl_AreExchangeable.l0 kq a1 a2 x7_2 (y104.length : Int) x24_2 a0_0 a0_1 = some r) ∧ Aside0 (kq ≤ kj3) ∧ Aside0 (Kd.R (Kd.int .i64) 3 w' w.heap.size (fun _ => True) (.slice Ao21 y104.length co21) x7_2) ∧ Aside0 (w'.heap[gb101]? = some (.cells #[.int .i64 a0_0,.int .i64 a0_1] 25 (0,0))) ∧ Aside0 (Below w.heap.size w w'))
      case atStart => exact ⟨(y104),(0),(by first | rfl | (simp;done) | (simp [*];done)),H',⟨Nat.le_refl _⟩,⟨by (with_reducible repeat (first | apply Kd.R_alloc | apply Kd.R_drewN | apply Kd.R_drew));exact HO106.out⟩,⟨by (with_reducible repeat (first | refine blk_drewN ?_ _ | refine blk_drew ?_ | refine blk_alloc ?_ _));exact BK101.out⟩,⟨by repeat (first | (with_reducible first | exact HB.out | apply below_alloc | apply pw_below_drewN | apply below_drew1 | refine below_set ?_ GE101.out) | exact HB.out)⟩⟩
      case round =>
       clear H'
       try clear c1
       try clear p2
       try clear c5
       try clear c7
       try clear c15
       try clear c16
       try clear c16b0
       try clear c16b1
       try clear c17
       try clear c17b0
       try clear c17b1
       try clear hcz11_0
       try clear hcz11_1
       try clear hcz13_0
       try clear hcz13_1
       try clear hcz18_0
       try clear hcz18_1
       try clear hcz9_0
       try clear hcz9_1
       try clear hfz11_0
       try clear hfz11_1
       try clear hfz13_0
       try clear hfz13_1
       try clear hfz18_0
       try clear hfz18_1
       try clear hfz9_0
       try clear hfz9_1
       try clear p2
       obtain ⟨x7_2,x24_2,rfl,HA,HK2,HO_7,BK101,HB⟩ := hrel
       have hl7_2 := (Kd.R_reads' HO_7.out).1
       rw [hl7_2] at HO_7
       (try simp only [hl7_2])
       (try simp only [hl7_2] at BK101)
       cases gk with
       | zero => exact absurd HA.out (by simp [impl_AreExchangeable.l0])
       | succ k2 =>
        have H := HA.out
        clear HA
        simp only [impl_AreExchangeable.l0] at H
        by_cases c22 : x24_2 < (y104.length : Int)
        ·rw [if_pos c22] at H
         have c22b0 : decide (x24_2 < (y104.length : Int)) = true := decide_eq_true c22
         (try rw [hl7_2] at c22b0)
         clear c22
         by_cases c23 : 0 ≤ x24_2
         ·rw [if_pos c23] at H
          have c23b0 : decide (0 ≤ x24_2) = true := decide_eq_true c23
          clear c23
          by_cases c24 : x24_2 < (x7_2.length : Int)
          ·rw [if_pos c24] at H
           have c24b0 : decide (x24_2 < (x7_2.length : Int)) = true := decide_eq_true c24
           (try rw [hl7_2] at c24b0)
           clear c24
           obtain ⟨y107,hy107⟩ : ∃ y_ : List Int,y_ = (x7_2.set (x24_2 : Int).toNat x24_2) := ⟨_,rfl⟩
           replace H : (impl_AreExchangeable.l0 k2 a1 a2 y107 (y104.length : Int) (wrap64 (x24_2 + 1)) a0_0 a0_1) = some r := by first | (rw [hy107];with_reducible exact H) | (have H2_ := (Option.bind_some _ _).symm.trans H;rw [hy107];with_reducible exact H2_) | (have H2_ := (Option.bind_some _ _).symm.trans H;with_reducible exact H2_) | with_reducible exact H | (rw [hy107];exact H) | exact H
           have Ny107 := Aside0.mk hy107
           clear hy107
           have H' := Aside0.mk H
           clear H
           have p25 : 0 ≤ (x24_2 : Int) := of_decide_eq_true (by first | (with_reducible assumption) | assumption)
           have q25 : (x24_2 : Int) < ((x7_2.length : Int) : Int) := of_decide_eq_true (by first | (with_reducible assumption) | assumption)
           obtain ⟨go25,co25,eo25,gb25,gl25,cl25,HG25⟩ := Kd.R_form HO_7.out (by omega)
           (first | cases eo25 | (injection eo25 with ea_ en_ ec_;(first | subst ea_ | (injection ea_ with ea_;subst ea_));subst ec_;clear en_))
           have GB25 := Aside0.mk gb25
           have GG25 := Aside0.mk HG25
           clear gb25 gl25 HG25
           obtain ⟨hx25_0,hf25_0⟩ := Kd.R_celln 0 HO_7.out (x24_2 : Int) p25 q25
           replace p25 := eq_true p25
           replace q25 := eq_true q25
           have HP26 := Kd.R_putg HO_7.out (x24_2 : Int) x24_2
           go_wp2_with (first | ((with_reducible refine gate_store (t := 3) (p := 30) rfl ?_);refine store_event (t := 3) (p := 30) (v := ?vo_w27) (w1 := (wr.setCell ⟨go25,(x24_2 : Int).toNat,none⟩ (.int .i64 x24_2))) ?hg ?ho ?hn ?hr ?_;(case ho => rfl);(case hg => rfl);(case hn => rfl);(case hr => first | (go_simp;done) | (go_simp;rfl));intro w27 hw;have hg : wr.grownBy w27 (some go25) := (by rw [hw];exact HP26.2);have hp_ : Kd.R (Kd.int .i64) 3 w27 w.heap.size (fun _ => True) (.slice (some ⟨go25,0,none⟩) x7_2.length co21) y107 := (by rw [hw,Ny107.out];exact HP26.1);clear HP26;have n0_ := Aside0.mk (hp_);have n1_ := Aside0.mk (blk_grown (g := gb101) (o := .cells #[.int .i64 a0_0,.int .i64 a0_1] 25 (0,0)) (by (with_reducible repeat (first | refine blk_drewN ?_ _ | refine blk_drew ?_ | refine blk_alloc ?_ _));exact BK101.out) hg (Kd.R_ne HO_7.out BK101.out (by decide)));have n2_ := Aside0.mk ((by rw [hw];exact below_set (HB.out) GB25.out : Below w.heap.size w w27));clear HO_7;clear BK101;clear HB;have HO_7 := n0_;have BK101 := n1_;have HB := n2_;clear n0_ n1_ n2_;clear hg hw hp_))
           (try simp only [← hl7_2])
           go_roundg k2
           case measure => have := HJ3.out;have := HK2.out;omega
           case rel => exact ⟨(y107),(wrap64 (x24_2 + 1)),(by first | rfl | (simp;done) | (simp [*];done)),H',⟨by have := HJ3.out;have := HK2.out;omega⟩,⟨by (try simp only [hl7_2]);(with_reducible repeat (first | apply Kd.R_alloc | apply Kd.R_drewN | apply Kd.R_drew));exact HO_7.out⟩,⟨by (try simp only [hl7_2]);(with_reducible repeat (first | refine blk_drewN ?_ _ | refine blk_drew ?_ | refine blk_alloc ?_ _));exact BK101.out⟩,⟨by repeat (first | (with_reducible first | exact HB.out | apply below_alloc | apply pw_below_drewN | apply below_drew1 | refine below_set ?_ GE101.out) | exact HB.out)⟩⟩
          ·rw [if_neg c24] at H
           exact absurd H (by simp)
         ·rw [if_neg c23] at H
          exact absurd H (by simp)
        ·rw [if_neg c22] at H
         have c22b0 : decide (x24_2 < (y104.length : Int)) = false := decide_eq_false c22
         (try rw [hl7_2] at c22b0)
         clear c22
         by_cases c28 : 0 ≤ a1
         ·rw [if_pos c28] at H
          have c28b0 : decide (0 ≤ a1) = true := decide_eq_true c28
          clear c28
          by_cases c29 : a1 < (x7_2.length : Int)
          ·rw [if_pos c29] at H
           have c29b0 : decide (a1 < (x7_2.length : Int)) = true := decide_eq_true c29
           (try rw [hl7_2] at c29b0)
           clear c29
           obtain ⟨y108,hy108⟩ : ∃ y_ : List Int,y_ = (x7_2.set (a1 : Int).toNat a2) := ⟨_,rfl⟩
           replace H : (if 0 ≤ a2 then (if a2 < (x7_2.length : Int) then ((impl_Table_permute.f k2 a0_0 a0_1 (y108.set (a2 : Int).toNat a1)).bind fun bt110 => (some (bt110.1 == a0_0 && (bt110.2 == a0_1)))) else (none)) else (none)) = some r := by first | (rw [hy108];with_reducible exact H) | (have H2_ := (Option.bind_some _ _).symm.trans H;rw [hy108];with_reducible exact H2_) | (have H2_ := (Option.bind_some _ _).symm.trans H;with_reducible exact H2_) | with_reducible exact H | (rw [hy108];exact H) | exact H
           have Ny108 := Aside0.mk hy108
           clear hy108
           by_cases c31 : 0 ≤ a2
           ·rw [if_pos c31] at H
            have c31b0 : decide (0 ≤ a2) = true := decide_eq_true c31
            clear c31
            by_cases c32 : a2 < (x7_2.length : Int)
            ·rw [if_pos c32] at H
             have c32b0 : decide (a2 < (x7_2.length : Int)) = true := decide_eq_true c32
             (try rw [hl7_2] at c32b0)
             clear c32
             obtain ⟨y109,hy109⟩ : ∃ y_ : List Int,y_ = (y108.set (a2 : Int).toNat a1) := ⟨_,rfl⟩
             replace H : ((impl_Table_permute.f k2 a0_0 a0_1 y109).bind fun bt110 => (some (bt110.1 == a0_0 && (bt110.2 == a0_1)))) = some r := by first | (rw [hy109];with_reducible exact H) | (have H2_ := (Option.bind_some _ _).symm.trans H;rw [hy109];with_reducible exact H2_) | (have H2_ := (Option.bind_some _ _).symm.trans H;with_reducible exact H2_) | with_reducible exact H | (rw [hy109];exact H) | exact H
             have Ny109 := Aside0.mk hy109
             clear hy109
             replace H := Option.bind_eq_some_iff.mp H
             obtain ⟨⟨t110,t111⟩,A340,H⟩ := H
             replace H : (some (t110 == a0_0 && (t111 == a0_1))) = some r := H
             have A34 := Aside0.mk A340
             clear A340
             obtain rfl := Option.some.inj H
             have p30 : 0 ≤ (a1 : Int) := of_decide_eq_true (by first | (with_reducible assumption) | assumption)
             have q30 : (a1 : Int) < ((x7_2.length : Int) : Int) := of_decide_eq_true (by first | (with_reducible assumption) | assumption)
             obtain ⟨go30,co30,eo30,gb30,gl30,cl30,HG30⟩ := Kd.R_form HO_7.out (by omega)
             (first | cases eo30 | (injection eo30 with ea_ en_ ec_;(first | subst ea_ | (injection ea_ with ea_;subst ea_));subst ec_;clear en_))
             have GB30 := Aside0.mk gb30
             have GG30 := Aside0.mk HG30
             clear gb30 gl30 HG30
             obtain ⟨hx30_0,hf30_0⟩ := Kd.R_celln 0 HO_7.out (a1 : Int) p30 q30
             replace p30 := eq_true p30
             replace q30 := eq_true q30
             have HP35 := Kd.R_putg HO_7.out (a1 : Int) a2
             try go_wp2_with (first | ((with_reducible refine gate_store (t := 3) (p := 38) rfl ?_);refine store_event (t := 3) (p := 38) (v := ?vo_w36) (w1 := (wr.setCell ⟨go30,(a1 : Int).toNat,none⟩ (.int .i64 a2))) ?hg ?ho ?hn ?hr ?_;(case ho => rfl);(case hg => rfl);(case hn => rfl);(case hr => first | (go_simp;done) | (go_simp;rfl));intro w36 hw;have hg : wr.grownBy w36 (some go30) := (by rw [hw];exact HP35.2);have hp_ : Kd.R (Kd.int .i64) 3 w36 w.heap.size (fun _ => True) (.slice (some ⟨go30,0,none⟩) x7_2.length co21) y108 := (by rw [hw,Ny108.out];exact HP35.1);clear HP35;have n0_ := Aside0.mk (hp_);have n1_ := Aside0.mk (blk_grown (g := gb101) (o := .cells #[.int .i64 a0_0,.int .i64 a0_1] 25 (0,0)) (by (with_reducible repeat (first | refine blk_drewN ?_ _ | refine blk_drew ?_ | refine blk_alloc ?_ _));exact BK101.out) hg (Kd.R_ne HO_7.out BK101.out (by decide)));have n2_ := Aside0.mk ((by rw [hw];exact below_set (HB.out) GB30.out : Below w.heap.size w w36));clear HO_7;clear BK101;clear HB;have HO_7 := n0_;have BK101 := n1_;have HB := n2_;clear n0_ n1_ n2_;clear hg hw hp_;have p33 : 0 ≤ (a2 : Int) := of_decide_eq_true (by first | (with_reducible assumption) | assumption);have q33 : (a2 : Int) < ((x7_2.length : Int) : Int) := of_decide_eq_true (by first | (with_reducible assumption) | assumption);obtain ⟨hx33_0,hf33_0⟩ := Kd.R_celln 0 HO_7.out (a2 : Int) p33 q33;replace p33 := eq_true p33;replace q33 := eq_true q33;obtain ⟨hy37_,hz37_⟩ := Kd.R_celln 0 HO_7.out (a2 : Int) (of_decide_eq_true (by first | (with_reducible assumption) | assumption)) (of_decide_eq_true (by first | (with_reducible assumption) | assumption));have HP37 := Kd.R_putg HO_7.out (a2 : Int) a1) | ((with_reducible refine gate_store (t := 3) (p := 39) rfl ?_);refine store_event (t := 3) (p := 39) (v := ?vo_w38) (w1 := (w36.setCell ⟨go30,(a2 : Int).toNat,none⟩ (.int .i64 a1))) ?hg ?ho ?hn ?hr ?_;(case ho => rfl);(case hg => rfl);(case hn => rfl);(case hr => first | (go_simp;done) | (go_simp;rfl));intro w38 hw;have hg : w36.grownBy w38 (some go30) := (by rw [hw];exact HP37.2);have hp_ : Kd.R (Kd.int .i64) 3 w38 w.heap.size (fun _ => True) (.slice (some ⟨go30,0,none⟩) x7_2.length co21) y109 := (by rw [hw,Ny109.out];exact HP37.1);clear HP37;have n0_ := Aside0.mk (hp_);have n1_ := Aside0.mk (blk_grown (g := gb101) (o := .cells #[.int .i64 a0_0,.int .i64 a0_1] 25 (0,0)) (by (with_reducible repeat (first | refine blk_drewN ?_ _ | refine blk_drew ?_ | refine blk_alloc ?_ _));exact BK101.out) hg (Kd.R_ne HO_7.out BK101.out (by decide)));have n2_ := Aside0.mk ((by rw [hw];exact below_set (HB.out) GB30.out : Below w.heap.size w w38));clear HO_7;clear BK101;clear HB;have HO_7 := n0_;have BK101 := n1_;have HB := n2_;clear n0_ n1_ n2_;clear hg hw hp_))
             have n0_ := Aside0.mk (Kd.R_drew HO_7.out)
             have n1_ := Aside0.mk (blk_drew BK101.out)
             have n2_ := Aside0.mk (below_drew1 HB.out)
             clear HO_7
             clear BK101
             clear HB
             have HO_7 := n0_
             have BK101 := n1_
             have HB := n2_
             clear n0_ n1_ n2_
             refine start_ (n := 6) (S := fun w' => w'.cell? ⟨gb101,0,none⟩ = some (.int .i64 a0_0) ∧ w'.cell? ⟨gb101,1,none⟩ = some (.int .i64 a0_1)) (ds := []) #[false,false,false,false,false,false] (by kernel_rfl) rfl rfl ⟨(blk_cell BK101.out 0).trans rfl,(blk_cell BK101.out 1).trans rfl⟩ (fun hHeld => ?_)
             generalize w38.drew = w39 at HO_7 BK101 HB hHeld ⊢
             refine pure_ (i := 1) (N := some 41) (v := ?_) (a' := ?_) #[false,true,false,false,false,false] rfl rfl (by kernel_rfl) (fun _ _ _ h => h) (Or.inl ⟨by rfl,?_⟩) ?_ ?_
             rotate_left
             ·intro w'
              go_simp
              with_reducible rfl
             rotate_left
             ·simp only [Act.put,List.setIfInBounds_toArray,List.set_cons_zero,List.set_cons_succ,i64_w,i32_w]
              rfl
             refine take_ (i := 0) (N := some 40) (v := ?_) (a' := ?_) #[true,true,false,false,false,false] rfl rfl (by kernel_rfl) (fun _ _ _ h => h) (Or.inl ⟨by rfl,?_⟩) hHeld ?_ ?_
             rotate_left
             ·rintro w' ⟨s0,s1⟩
              go_simp
              with_reducible rfl
             rotate_left
             ·simp only [Act.put,List.setIfInBounds_toArray,List.set_cons_zero,List.set_cons_succ,i64_w,i32_w]
              rfl
             refine take_ (i := 3) (N := some 43) (v := ?_) (a' := ?_) #[true,true,false,true,false,false] rfl rfl (by kernel_rfl) (fun _ _ _ h => h) (Or.inl ⟨by rfl,?_⟩) hHeld ?_ ?_
             rotate_left
             ·rintro w' ⟨s0,s1⟩
              go_simp
              with_reducible rfl
             rotate_left
             ·simp only [Act.put,List.setIfInBounds_toArray,List.set_cons_zero,List.set_cons_succ,i64_w,i32_w]
              rfl
             refine one_ (i := 2) (N := some 42) #[true,true,true,true,false,false] rfl rfl (by kernel_rfl) (by decide) (fun K hK => ?_)
             refine goes_ Try.func60 (by kernel_rfl) rfl #[.agg #[.int .i64 a0_0,.int .i64 a0_1],.slice (some ⟨go30,0,none⟩) y109.length co21] (by rfl) rfl rfl (by (try simp only [List.map_toArray,List.map_cons,List.map_nil]);first | done | (rw [show y109.length = x7_2.length from (Kd.R_reads' HO_7.out).1.symm] <;> rfl) | rfl | (simp only [List.length_drop,List.length_take];rfl)) ?_
             with_reducible refine (impl_Table_permute.calls k2 a0_0 a0_1 _ _ y109 t110 t111 _ ?side1 ?side2 A34.out).mono ?_
             (case side1 => repeat (first | exact (Kd.R_reads' HO_7.out).2.2 | (with_reducible refine Kd.C_alloc ?_ _) | (with_reducible refine Kd.C_drewN ?_ _) | (with_reducible refine Kd.C_drew ?_)))
             (case side2 => rw [show y109.length = x7_2.length from (Kd.R_reads' HO_7.out).1.symm];exact (Kd.R_reads' HO_7.out).2.1)
             rintro e w40 ⟨rfl,hb⟩
             refine ⟨_,rfl,?_⟩
             have n0_ := Aside0.mk (Kd.R_below (by (with_reducible repeat (first | apply Kd.R_alloc | apply Kd.R_drewN | apply Kd.R_drew));exact HO_7.out) hb)
             have n1_ := Aside0.mk (blk_below (g := gb101) (o := .cells #[.int .i64 a0_0,.int .i64 a0_1] 25 (0,0)) (by (with_reducible repeat (first | refine blk_drewN ?_ _ | refine blk_drew ?_ | refine blk_alloc ?_ _));exact BK101.out) hb)
             have n2_ := Aside0.mk (below_step (by repeat (first | (with_reducible first | exact HB.out | apply below_alloc | apply pw_below_drewN | apply below_drew1 | refine below_set ?_ GE101.out) | exact HB.out)) hb)
             clear HO_7
             clear BK101
             clear HB
             have HO_7 := n0_
             have BK101 := n1_
             have HB := n2_
             clear n0_ n1_ n2_
             (try clear hb)
             (try clear hb2)
             (try clear hk)
             (try clear hi)
             refine hK.out _ _ ⟨(blk_cell BK101.out 0).trans rfl,(blk_cell BK101.out 1).trans rfl⟩ (fun hHeld => ?_)
             clear hK K
             refine norm_ (a' := ?_) ?_ ?_
             rotate_left
             ·show Act.put _ (some 42) _ = _
              simp only [Act.put,List.setIfInBounds_toArray,List.set_cons_zero,List.set_cons_succ,i64_w,i32_w]
              rfl
             refine pure_ (i := 4) (N := some 44) (v := ?_) (a' := ?_) #[true,true,true,true,true,false] rfl rfl (by kernel_rfl) (fun _ _ _ h => h) (Or.inl ⟨by rfl,?_⟩) ?_ ?_
             rotate_left
             ·intro w'
              go_simp
              with_reducible rfl
             rotate_left
             ·simp only [Act.put,List.setIfInBounds_toArray,List.set_cons_zero,List.set_cons_succ,i64_w,i32_w]
              rfl
             refine pure_ (i := 5) (N := some 6) (v := ?_) (a' := ?_) #[true,true,true,true,true,true] rfl rfl (by kernel_rfl) (fun _ _ _ h => h) (Or.inl ⟨by rfl,?_⟩) ?_ ?_
             rotate_left
             ·intro w'
              go_simp
              with_reducible rfl
             rotate_left
             ·simp only [Act.put,List.setIfInBounds_toArray,List.set_cons_zero,List.set_cons_succ,i64_w,i32_w]
              rfl
             refine done_ (by kernel_rfl) ?_
             try go_wp2
             go_ret
             exact ⟨by first | rfl | (simp [errW_none,errW_some] <;> rfl) | (simp [*,errW_none,errW_some] <;> rfl),by repeat (first | (with_reducible first | exact HB.out | apply below_alloc | apply pw_below_drewN | apply below_drew1 | refine below_set ?_ GE101.out) | exact HB.out)⟩
            ·rw [if_neg c32] at H
             exact absurd H (by simp)
           ·rw [if_neg c31] at H
            exact absurd H (by simp)
          ·rw [if_neg c29] at H
           exact absurd H (by simp)
         ·rw [if_neg c28] at H
          exact absurd H (by simp)
     ·rw [if_neg c17] at H
      exact absurd H (by simp)
    ·rw [if_neg c16] at H
     exact absurd H (by simp)
end Go.Proofs.Ythlajlhjofjmcaa.F
namespace Go.Proofs.Ythlajlhjofjmcaa.F
open Go.RowKit Go.Proofs.YthlajlhjofjmcaaW.PrintWords Go.Proofs.YthlajlhjofjmcaaW.PrintLast Go.Proofs.YthlajlhjofjmcaaW.PrintMore
attribute [local go_sem] max2_int min2_int max_two min_two max_three min_three max_four min_four 
set_option linter.unusedVariables false
set_option linter.unusedSimpArgs false
def rdL (xs : List (List Int)) (i : Int) : List Int := xs.getD i.toNat ([] : List Int)
theorem at_rows {w : World} {A : Option Addr} {n : Nat} {xs : List (List Int)} (h : Kd.C (Kd.slice 3 (Kd.int .i64)) w A n xs) (i : Int) (h0 : 0 ≤ i) (h1 : i < n) : ∃ ad A0 c0,A = some ad ∧ w.cell? (ad.add i.toNat) = some (.slice A0 (rdL xs i).length c0) ∧ (rdL xs i).length ≤ c0 ∧ (Kd.int .i64).C w A0 (rdL xs i).length (rdL xs i) := by
 obtain ⟨ad,c,e,_,hK,hc0⟩ := Kd.C_get h ([] : List Int) i h0 h1
 have hc : ∀ j u,c[j]? = some u → w.cell? (ad.add (i.toNat * 1 + j)) = some u := hc0
 obtain ⟨A0,c0,rfl,l0,g0⟩ := hK
 exact ⟨ad,A0,c0,e,by have hq := hc 0 _ rfl;rwa [Nat.mul_one,Nat.add_zero] at hq,l0,g0⟩
def firstRow (q : List Int → Bool) (l : List (List Int)) (r : Int) : Prop :=
 (∃ j : Nat,r = j ∧ j < l.length ∧ q (rdL l j) = true ∧ ∀ i : Nat,i < j → q (rdL l i) = false) ∨ (r = -1 ∧ ∀ i : Nat,i < l.length → q (rdL l i) = false)
set_option maxHeartbeats 400000 in
set_option maxRecDepth 100000 in
theorem slices_IndexFunc_rows.any (A : Option Addr) (c : Nat) (l : List (List Int)) (p : List Int → Bool) (g : Nat) (lb : Array Value) (eg : ∀ args w,(callFunc g args).run Try.prog w = .ok (.enter g args) w) (w : World) (hr : Kd.C (Kd.slice 3 (Kd.int .i64)) w A l.length l)
  (hp : ∀ (W : World) (x : Nat) (A' : Option Addr) (c' : Nat),x < l.length → Below w.heap.size w W → Kd.C (Kd.int .i64) W A' (rdL l x).length (rdL l x) → Gives Try.prog g lb #[.slice A' (rdL l x).length c'] (.bool (p (rdL l x))) W) (hl : l.length < 9223372036854775807) :
  Calls Try.prog 50 #[.slice A l.length c,.func (.func g) #[] lb] w fun e w' => ∃ r : Int,e = .returned (.int .i64 r) ∧ firstRow p l r ∧ Below w.heap.size w w' := by
 have HP := Aside0.mk hp
 have HR := Aside0.mk hr
 have HL := Aside0.mk hl
 clear hp hr
 obtain ⟨M,hM⟩ : ∃ M : Nat,M = l.length := ⟨_,rfl⟩
 have HM := Aside0.mk hM
 go_enter Try.func50,Try.ntmps50
 go_wp2
 go_loopg [8] l.length (fun gg v8 wr => ∃ x : Nat,x ≤ l.length ∧ l.length - x ≤ gg ∧ v8 = .int .i64 x ∧ Aside0 (∀ i : Nat,i < x → p (rdL l i) = false) ∧ Aside0 (Below w.heap.size w wr))
 case atStart => exact ⟨0,Nat.zero_le _,by omega,rfl,⟨fun i hi => absurd hi (Nat.not_lt_zero _)⟩,⟨Below.refl _ _⟩⟩
 case round =>
  obtain ⟨x,hx,hg,rfl,HZ,HB⟩ := hrel
  by_cases hlt : x < l.length
  ·have hltz : (x : Int) < (l.length : Int) := by omega
   have h0z : (0 : Int) ≤ (x : Int) := by omega
   obtain ⟨ad,A',c',rfl,hc,hlc,hCC⟩ := at_rows HR.out (x : Int) h0z hltz
   have hcall := HP.out wr x A' c' hlt HB.out (Kd.Heap.C (Kd.heap_int .i64) HB.out.block hCC)
   unfold Gives at hcall
   have hc' := (HB.out.cell (World.block_lt_of_cell? w _ hc)).trans hc
   rw [Int.toNat_natCast] at hc'
   clear hCC hlc
   cases hq : p (rdL l x) with
   | true =>
    rw [hq] at hcall
    have HQ := Aside0.mk hq
    clear hq
    go_wp2_with (go_at_fn g;refine hcall.mono ?_;rintro e w' ⟨rfl,hb'⟩;have HB' := Aside0.mk (below_step HB.out hb');clear hb')
    go_ret
    exact ⟨_,rfl,.inl ⟨x,rfl,hlt,HQ.out,HZ.out⟩,HB'.out⟩
   | false =>
    rw [hq] at hcall
    have HQ := Aside0.mk hq
    clear hq
    go_wp2_with (go_at_fn g;refine hcall.mono ?_;rintro e w' ⟨rfl,hb'⟩;have HB' := Aside0.mk (below_step HB.out hb');clear hb')
    go_roundg (l.length - (x + 1))
    case measure => omega
    case rel => exact ⟨x + 1,by omega,by omega,by have := HL.out;go_num,⟨fun i hi => by
     by_cases e : i = x
     ·rw [e];exact HQ.out
     ·exact HZ.out i (by omega)⟩,HB'⟩
  ·have hltz : ¬ (x : Int) < (l.length : Int) := by omega
   obtain rfl : x = l.length := by omega
   go_wp2
   go_ret
   exact ⟨-1,rfl,.inr ⟨rfl,HZ.out⟩,HB.out⟩
set_option maxHeartbeats 400000 in
set_option maxRecDepth 100000 in
theorem impl_GroupsOf_1.any (k : Nat) (n u x : Int) (l : List Int) (A : Option Addr) (c : Nat) (r : Bool) (ha : impl_AreExchangeable.f k n u (rd l 0) x = some r) (hl : 0 < l.length) (g1 g2 : Nat) (W : World) (hr : Kd.C (Kd.int .i64) W A l.length l) (h1 : W.heap[g1]? = some (.cells #[.int .i64 n,.int .i64 u] 25 (0,0))) (h2 : W.heap[g2]? = some (.cells #[.int .i64 x] 3 (0,0))) :
  Gives Try.prog 51 #[.pointer (some ⟨g1,0,none⟩),.pointer (some ⟨g2,0,none⟩)] #[.slice A l.length c] (.bool r) W := by
 show Calls Try.prog 51 #[.slice A l.length c,.pointer (some ⟨g1,0,none⟩),.pointer (some ⟨g2,0,none⟩)] W _
 have hut := Try.underlying25
 obtain ⟨ad,rfl,hc⟩ := Kd.at_int hr 0 (by omega) (by omega)
 rw [show ad.add (0 : Int).toNat = ad by simp [Addr.add]] at hc
 have C0 : Aside0 (W.cell? ⟨g1,0,none⟩ = some (.int .i64 n)) := ⟨(blk_cell h1 0).trans rfl⟩
 have C1 : Aside0 (W.cell? ⟨g1,1,none⟩ = some (.int .i64 u)) := ⟨(blk_cell h1 1).trans rfl⟩
 have C2 : Aside0 (W.cell? ⟨g2,0,none⟩ = some (.int .i64 x)) := ⟨(blk_cell h2 0).trans rfl⟩
 have C3 : Aside0 (W.cell? ad = some (.int .i64 (rd l 0))) := ⟨hc⟩
 have HA := Aside0.mk ha
 have hl0 : (0 : Int) < (l.length : Int) := by omega
 clear h1 h2 hc ha hr
 go_enter Try.func51,Try.ntmps51
 go_wp2
 have HB := Aside0.mk (Below.refl W.heap.size W)
 have hb := below_drew (Below.refl W.heap.size W)
 have n_ : Aside0 (W.drew.cell? ⟨g1,0,none⟩ = some (.int .i64 n)) := ⟨pw_cell_below hb C0.out⟩
 clear C0
 have C0 := n_
 clear n_
 have n_ : Aside0 (W.drew.cell? ⟨g1,1,none⟩ = some (.int .i64 u)) := ⟨pw_cell_below hb C1.out⟩
 clear C1
 have C1 := n_
 clear n_
 have n_ : Aside0 (W.drew.cell? ⟨g2,0,none⟩ = some (.int .i64 x)) := ⟨pw_cell_below hb C2.out⟩
 clear C2
 have C2 := n_
 clear n_
 have n_ : Aside0 (W.drew.cell? ad = some (.int .i64 (rd l 0))) := ⟨pw_cell_below hb C3.out⟩
 clear C3
 have C3 := n_
 clear n_
 have n_ := Aside0.mk (below_step HB.out hb)
 clear HB
 have HB := n_
 clear n_
 clear hb
 refine start_ (n := 7) (S := (fun w_ => w_.cell? ⟨g1,0,none⟩ = some (.int .i64 n) ∧ w_.cell? ⟨g1,1,none⟩ = some (.int .i64 u) ∧ w_.cell? ⟨g2,0,none⟩ = some (.int .i64 x) ∧ w_.cell? ad = some (.int .i64 (rd l 0)))) (ds := []) #[false,false,false,false,false,false,false] (by kernel_rfl) rfl rfl ⟨C0.out,C1.out,C2.out,C3.out⟩ (fun hHeld => ?_)
 generalize W.drew = W0_ at C0 C1 C2 C3 HB hHeld ⊢
 refine take_ (i := 0) (N := some 5) (v := ?_) (a' := ?_) #[true,false,false,false,false,false,false] rfl rfl (by kernel_rfl) (fun _ _ _ h => h) (Or.inl ⟨by rfl,?_⟩) hHeld ?_ ?_
 rotate_left
 ·rintro w' ⟨s0,s1,s2,s3⟩
  go_simp
  with_reducible rfl
 rotate_left
 ·simp only [Act.put,List.setIfInBounds_toArray,List.set_cons_zero,List.set_cons_succ,i64_w,i32_w]
  rfl
 refine pure_ (i := 1) (N := some 6) (v := ?_) (a' := ?_) #[true,true,false,false,false,false,false] rfl rfl (by kernel_rfl) (fun _ _ _ h => h) (Or.inl ⟨by rfl,?_⟩) ?_ ?_
 rotate_left
 ·intro w'
  go_simp
  with_reducible rfl
 rotate_left
 ·simp only [Act.put,List.setIfInBounds_toArray,List.set_cons_zero,List.set_cons_succ,i64_w,i32_w]
  rfl
 refine pure_ (i := 2) (N := some 7) (v := ?_) (a' := ?_) #[true,true,true,false,false,false,false] rfl rfl (by kernel_rfl) (fun _ _ _ h => h) (Or.inl ⟨by rfl,?_⟩) ?_ ?_
 rotate_left
 ·intro w'
  go_simp
  with_reducible rfl
 rotate_left
 ·simp only [Act.put,List.setIfInBounds_toArray,List.set_cons_zero,List.set_cons_succ,i64_w,i32_w]
  rfl
 refine take_ (i := 3) (N := some 8) (v := ?_) (a' := ?_) #[true,true,true,true,false,false,false] rfl rfl (by kernel_rfl) (fun _ _ _ h => h) (Or.inl ⟨by rfl,?_⟩) hHeld ?_ ?_
 rotate_left
 ·rintro w' ⟨s0,s1,s2,s3⟩
  go_simp
  with_reducible rfl
 rotate_left
 ·simp only [Act.put,List.setIfInBounds_toArray,List.set_cons_zero,List.set_cons_succ,i64_w,i32_w]
  rfl
 refine take_ (i := 4) (N := some 9) (v := ?_) (a' := ?_) #[true,true,true,true,true,false,false] rfl rfl (by kernel_rfl) (fun _ _ _ h => h) (Or.inl ⟨by rfl,?_⟩) hHeld ?_ ?_
 rotate_left
 ·rintro w' ⟨s0,s1,s2,s3⟩
  go_simp
  with_reducible rfl
 rotate_left
 ·simp only [Act.put,List.setIfInBounds_toArray,List.set_cons_zero,List.set_cons_succ,i64_w,i32_w]
  rfl
 refine one_ (i := 5) (N := some 10) #[true,true,true,true,true,true,false] rfl rfl (by kernel_rfl) (by decide) (fun K hK => ?_)
 refine goes_ Try.func16 (by kernel_rfl) rfl #[.agg #[.int .i64 n,.int .i64 u],.int .i64 (rd l 0),.int .i64 x] (by rfl) rfl rfl (by (try simp only [List.map_toArray,List.map_cons,List.map_nil]);first | done | rfl | (simp only [List.length_drop,List.length_take];rfl)) ?_
 with_reducible refine (impl_AreExchangeable.calls k n u (rd l 0) x r _ HA.out).mono ?_
 rintro e W1_ ⟨rfl,hb⟩
 refine ⟨_,rfl,?_⟩
 have n_ : Aside0 (W1_.cell? ⟨g1,0,none⟩ = some (.int .i64 n)) := ⟨pw_cell_below hb C0.out⟩
 clear C0
 have C0 := n_
 clear n_
 have n_ : Aside0 (W1_.cell? ⟨g1,1,none⟩ = some (.int .i64 u)) := ⟨pw_cell_below hb C1.out⟩
 clear C1
 have C1 := n_
 clear n_
 have n_ : Aside0 (W1_.cell? ⟨g2,0,none⟩ = some (.int .i64 x)) := ⟨pw_cell_below hb C2.out⟩
 clear C2
 have C2 := n_
 clear n_
 have n_ : Aside0 (W1_.cell? ad = some (.int .i64 (rd l 0))) := ⟨pw_cell_below hb C3.out⟩
 clear C3
 have C3 := n_
 clear n_
 have n_ := Aside0.mk (below_step HB.out hb)
 clear HB
 have HB := n_
 clear n_
 clear hb
 refine hK.out _ _ ⟨C0.out,C1.out,C2.out,C3.out⟩ (fun hHeld => ?_)
 clear hK K
 refine norm_ (a' := ?_) ?_ ?_
 rotate_left
 ·show Act.put _ (some 10) _ = _
  simp only [Act.put,List.setIfInBounds_toArray,List.set_cons_zero,List.set_cons_succ,i64_w,i32_w]
  rfl
 refine pure_ (i := 6) (N := some 4) (v := ?_) (a' := ?_) #[true,true,true,true,true,true,true] rfl rfl (by kernel_rfl) (fun _ _ _ h => h) (Or.inl ⟨by rfl,?_⟩) ?_ ?_
 rotate_left
 ·intro w'
  go_simp
  with_reducible rfl
 rotate_left
 ·simp only [Act.put,List.setIfInBounds_toArray,List.set_cons_zero,List.set_cons_succ,i64_w,i32_w]
  rfl
 refine done_ (by kernel_rfl) ?_
 try go_wp2
 go_ret
 exact ⟨rfl,HB.out⟩
def grpPut (ex : Int → Int → Bool) (i : Int) : List (List Int) → List (List Int)
 | [] => [[i]]
 | l :: ls => if ex (rd l 0) i = true then (l ++ [i]) :: ls else l :: grpPut ex i ls
def grpN (ex : Int → Int → Bool) : Nat → List (List Int)
 | 0 => []
 | i + 1 => grpPut ex (i : Int) (grpN ex i)
def GrpOk (i : Nat) (xs : List (List Int)) : Prop := xs.length ≤ i ∧ ∀ l ∈ xs,0 < l.length ∧ l.length ≤ i ∧ ∃ y : Nat,rd l 0 = y ∧ y < i
theorem rd_zero {l m : List Int} (h : 0 < l.length) : rd (l ++ m) 0 = rd l 0 := by
 cases l with
 | nil => exact absurd h (Nat.lt_irrefl 0)
 | cons a l => rfl
theorem grpPut_ok (ex : Int → Int → Bool) (i : Nat) : ∀ xs : List (List Int),(∀ l ∈ xs,0 < l.length ∧ l.length ≤ i ∧ ∃ y : Nat,rd l 0 = y ∧ y < i) → (grpPut ex (i : Int) xs).length ≤ xs.length + 1 ∧ ∀ l ∈ grpPut ex (i : Int) xs,0 < l.length ∧ l.length ≤ i + 1 ∧ ∃ y : Nat,rd l 0 = y ∧ y < i + 1 := by
 intro xs
 induction xs with
 | nil =>
  intro _
  refine ⟨Nat.le_refl _,fun l hl => ?_⟩
  rw [grpPut,List.mem_singleton] at hl
  subst hl
  exact ⟨Nat.one_pos,by simp,i,rfl,by omega⟩
 | cons a xs ih =>
  intro h
  have ha := h a (List.mem_cons_self ..)
  obtain ⟨y,hy,hyi⟩ := ha.2.2
  rw [grpPut]
  split
  next =>
   refine ⟨by simp,fun l hl => ?_⟩
   rcases List.mem_cons.mp hl with rfl | hl
   ·exact ⟨by simp,by simp;omega,y,by rw [rd_zero ha.1];exact hy,by omega⟩
   ·have := h l (List.mem_cons_of_mem _ hl)
    obtain ⟨z,hz,hzi⟩ := this.2.2
    exact ⟨this.1,by omega,z,hz,by omega⟩
  next =>
   obtain ⟨h1,h2⟩ := ih (fun l hl => h l (List.mem_cons_of_mem _ hl))
   refine ⟨by simp;omega,fun l hl => ?_⟩
   rcases List.mem_cons.mp hl with rfl | hl
   ·exact ⟨ha.1,by omega,y,hy,by omega⟩
   ·exact h2 l hl
theorem grpN_ok (ex : Int → Int → Bool) : ∀ i : Nat,GrpOk i (grpN ex i) := by
 intro i
 induction i with
 | zero => exact ⟨Nat.le_refl _,fun l hl => by cases hl⟩
 | succ i ih =>
  obtain ⟨h1,h2⟩ := grpPut_ok ex i (grpN ex i) ih.2
  refine ⟨?_,h2⟩
  have := ih.1
  show (grpPut ex (i : Int) (grpN ex i)).length ≤ i + 1
  omega
theorem rdL_mem {xs : List (List Int)} {j : Nat} (h : j < xs.length) : rdL xs j ∈ xs := by
 unfold rdL
 rw [Int.toNat_natCast,List.getD_eq_getElem?_getD,List.getElem?_eq_getElem h]
 exact List.getElem_mem h
theorem rdL_succ (a : List Int) (xs : List (List Int)) (j : Nat) : rdL (a :: xs) ((j + 1 : Nat) : Int) = rdL xs j := by
 unfold rdL
 rw [Int.toNat_natCast,Int.toNat_natCast]
 rfl
theorem grpPut_miss (ex : Int → Int → Bool) (i : Int) : ∀ xs : List (List Int),(∀ j : Nat,j < xs.length → ex (rd (rdL xs j) 0) i = false) → grpPut ex i xs = xs ++ [[i]] := by
 intro xs
 induction xs with
 | nil => intro _;rfl
 | cons a xs ih =>
  intro h
  have h0 : ex (rd a 0) i = false := h 0 (Nat.succ_pos _)
  rw [grpPut,if_neg (by rw [h0];decide),ih (fun j hj => by have := h (j + 1) (Nat.succ_lt_succ hj);rw [rdL_succ] at this;exact this)]
  rfl
theorem grpPut_hit (ex : Int → Int → Bool) (i : Int) : ∀ (xs : List (List Int)) (j : Nat),j < xs.length → ex (rd (rdL xs j) 0) i = true → (∀ k : Nat,k < j → ex (rd (rdL xs k) 0) i = false) → grpPut ex i xs = xs.set j (rdL xs j ++ [i]) := by
 intro xs
 induction xs with
 | nil => intro j hj;exact absurd hj (Nat.not_lt_zero _)
 | cons a xs ih =>
  intro j hj h1 h2
  cases j with
  | zero =>
   have h0 : ex (rd a 0) i = true := h1
   rw [grpPut,if_pos h0]
   rfl
  | succ j =>
   have h0 : ex (rd a 0) i = false := h2 0 (Nat.succ_pos _)
   rw [rdL_succ] at h1 ⊢
   rw [grpPut,if_neg (by rw [h0];decide),ih j (Nat.lt_of_succ_lt_succ hj) h1 (fun k hk => by have := h2 (k + 1) (Nat.succ_lt_succ hk);rw [rdL_succ] at this;exact this)]
   rfl
def grpEx (n u a b : Int) : Bool := impl_AreExchangeable.f 100 n u a b == some true
def grpDom (n : Nat) (a b : Int) : Bool := B.allN (fun i => B.allN (fun j => (impl_AreExchangeable.f 100 a b (j : Int) (i : Int)).isSome) n) n
def impl_GroupsOf.f (a0_0 a0_1 : Int) : Option (List (List Int)) :=
 (impl_IsTable.f a0_0 a0_1).bind fun t => if t = true then (if 0 ≤ a0_0 ∧ a0_0 ≤ 64 then (if grpDom a0_0.toNat a0_0 a0_1 = true then some (grpN (grpEx a0_0 a0_1) a0_0.toNat) else none) else none) else some []
set_option maxHeartbeats 400000 in
theorem grp_index {a0_0 a0_1 : Int} {ex : Int → Int → Bool} {N i : Nat} {gb gi : Nat} {w W : World} {A : Option Addr} {c : Nat} {xs : List (List Int)} (hex : ∀ x y : Nat,x < N → y < N → impl_AreExchangeable.f 100 a0_0 a0_1 (x : Int) (y : Int) = some (ex x y)) (hi : i < N) (hN : N ≤ 64) (hok : GrpOk i xs)
  (hs : Kd.S (Kd.slice 3 (Kd.int .i64)) 27 W w.heap.size (fun _ => True) (.slice A xs.length c) xs) (h1 : W.heap[gb]? = some (.cells #[.int .i64 a0_0,.int .i64 a0_1] 25 (0,0))) (h2 : W.heap[gi]? = some (.cells #[.int .i64 i] 3 (0,0))) :
  Calls Try.prog 50 #[.slice A xs.length c,.func (.func 51) #[] #[.pointer (some ⟨gb,0,none⟩),.pointer (some ⟨gi,0,none⟩)]] W fun e w' => ∃ r : Int,e = .returned (.int .i64 r) ∧ firstRow (fun l => ex (rd l 0) (i : Int)) xs r ∧ Below W.heap.size W w' := by
 refine slices_IndexFunc_rows.any A c xs _ 51 _ (enters_of Try.func51 (by kernel_rfl) rfl) W (Kd.S_reads' hs).2.2 (fun W' x A' c' hx hb hC => ?_) (by have := hok.1;omega)
 obtain ⟨hl0,_,y,hy,hyi⟩ := hok.2 _ (rdL_mem hx)
 exact impl_GroupsOf_1.any 100 a0_0 a0_1 (i : Int) (rdL xs x) A' c' _ (by rw [hy];exact hex y i (by omega) hi) hl0 gb gi W' hC (blk_below h1 hb) (blk_below h2 hb)
set_option maxHeartbeats 1000000 in
set_option maxRecDepth 100000 in
theorem impl_GroupsOf.calls (a0_0 a0_1 : Int) (r : List (List Int)) (w : World) (h : impl_GroupsOf.f a0_0 a0_1 = some r) :
  Calls Try.prog 9 #[.agg #[.int .i64 a0_0,.int .i64 a0_1]] w fun e w' => ∃ v0_ : Value,e = .returned (v0_) ∧ Kd.S (Kd.slice 3 (Kd.int .i64)) 27 w' w.heap.size (fun _ => True) v0_ r ∧ Below w.heap.size w w' := by
 have hut := Try.underlying25
 unfold impl_GroupsOf.f at h
 obtain ⟨t,ht,h⟩ := Option.bind_eq_some_iff.mp h
 have HT := Aside0.mk ht
 clear ht
 have K1 := Aside0.mk (blk_new w (.cells #[.int .i64 a0_0,.int .i64 a0_1] 25 (0,0)))
 have KB := Aside0.mk (below_alloc (Below.refl w.heap.size w) (.cells #[.int .i64 a0_0,.int .i64 a0_1] 25 (0,0)))
 cases t with
 | false =>
  rw [if_neg (by decide)] at h
  cases h
  go_enter Try.func9,Try.ntmps9
  go_wp2_with (go_at_call 48;refine (impl_IsTable.calls a0_0 a0_1 false _ HT.out).mono ?_;rintro e w1 ⟨rfl,hd⟩;have HB := Aside0.mk (below_step KB.out hd);clear hd)
  go_ret
  exact ⟨_,rfl,Kd.S_nil _ _ _ _ _,HB.out⟩
 | true =>
  rw [if_pos rfl] at h
  split at h
  next hn =>
   split at h
   next hdom =>
    cases h
    obtain ⟨N,rfl⟩ := Int.eq_ofNat_of_zero_le hn.1
    have hN : N ≤ 64 := by omega
    rw [Int.toNat_natCast] at hdom ⊢
    unfold grpDom at hdom
    rw [B.allN_iff] at hdom
    have HEX : Aside0 (∀ x y : Nat,x < N → y < N → impl_AreExchangeable.f 100 N a0_1 (x : Int) (y : Int) = some (grpEx N a0_1 x y)) := ⟨fun x y hx hy => by
     have h1 := B.allN_iff.mp (hdom y hy) x hx
     obtain ⟨b,hb⟩ := Option.isSome_iff_exists.mp h1
     unfold grpEx
     rw [hb]
     cases b <;> rfl⟩
    clear hdom hn
    generalize grpEx N a0_1 = ex at HEX ⊢
    have HN := Aside0.mk hN
    clear hN
    go_enter Try.func9,Try.ntmps9
    go_wp2_with (go_at_call 48;refine (impl_IsTable.calls N a0_1 true _ HT.out).mono ?_;rintro e w1 ⟨rfl,hd⟩;have HB := Aside0.mk (below_step KB.out hd);have BK := Aside0.mk (blk_below K1.out hd);have hc0 : w1.cell? ⟨w.heap.size,0,none⟩ = some (.int .i64 N) := (blk_cell BK.out 0).trans rfl;clear hd)
    clear hc0
    go_loopg [3,11] N (fun gg v3 v11 wr => ∃ i : Nat,i ≤ N ∧ N - i ≤ gg ∧ v11 = .int .i64 i ∧ Aside0 (Kd.S (Kd.slice 3 (Kd.int .i64)) 27 wr w.heap.size (fun _ => True) v3 (grpN ex i)) ∧ Aside0 (wr.heap[w.heap.size]? = some (.cells #[.int .i64 N,.int .i64 a0_1] 25 (0,0))) ∧ Aside0 (Below w.heap.size w wr))
    case atStart => exact ⟨0,Nat.zero_le _,by omega,rfl,⟨Kd.S_nil _ _ _ _ _⟩,BK,HB⟩
    case round =>
     clear HB BK
     obtain ⟨i,hi,hg,rfl,HS,BK,HB⟩ := hrel
     by_cases hlt : i < N
     ·have hltz : (i : Int) < (N : Int) := by omega
      have HI := Aside0.mk hlt
      have HOK := Aside0.mk (grpN_ok ex i)
      obtain ⟨xs,hxs⟩ : ∃ xs,xs = grpN ex i := ⟨_,rfl⟩
      rw [← hxs] at HS HOK
      have HXS : Aside0 (grpN ex (i + 1) = grpPut ex (i : Int) xs) := ⟨by rw [hxs];rfl⟩
      clear hxs
      obtain ⟨A,c,hv,hcl,_⟩ := Kd.S_reads HS.out
      subst hv
      have HCL := Aside0.mk hcl
      clear hcl
      go_upto_region 8 with (go_at_call 50;refine (grp_index (gb := w.heap.size) (gi := wr.heap.size) HEX.out HI.out HN.out HOK.out (Kd.S_alloc HS.out _) (blk_alloc BK.out _) (blk_new wr _)).mono ?_;rintro e w3 ⟨r,rfl,hf,hb⟩;have HF := Aside0.mk hf;have HS3 := Aside0.mk (Kd.S_below (Kd.S_alloc HS.out _) hb);have BK3 := Aside0.mk (blk_below (blk_alloc BK.out _) hb);have BI := Aside0.mk (blk_below (blk_new wr _) hb);have HB3 := Aside0.mk (below_step (below_alloc HB.out _) hb);clear HS BK HB hf hb;have HS := HS3;have BK := BK3;have HB := HB3;clear HS3 BK3 HB3)
      obtain ⟨gi,hgi⟩ : ∃ gi,gi = wr.heap.size := ⟨_,rfl⟩
      rw [← hgi] at BI ⊢
      have HG := Aside0.mk hg
      clear hgi hg hi hlt
      rcases HF.out with ⟨j,rfl,hj,hq,hno⟩ | ⟨rfl,hno⟩
      ·have HXJ : Aside0 (grpN ex (i + 1) = xs.set j (rdL xs j ++ [(i : Int)])) := ⟨by rw [HXS.out];exact grpPut_hit ex i xs j hj hq hno⟩
       have HJ := Aside0.mk hj
       clear HF hq hno
       have d1 : decide ((j : Int) < 0) = false := decide_eq_false (by omega)
       have hjz : (j : Int) < (xs.length : Int) := by omega
       have h0z : (0 : Int) ≤ (j : Int) := by omega
       have HLEN : Aside0 (0 < (rdL xs j).length ∧ (rdL xs j).length ≤ i) := ⟨by have := HOK.out.2 _ (rdL_mem hj);exact ⟨this.1,this.2.1⟩⟩
       clear hj
       obtain ⟨go,co,eo,gb29,gl29,_⟩ := Kd.S_form HS.out (by omega)
       have eA : A = some ⟨go,0,none⟩ := by injection eo
       have eC : c = co := by injection eo
       subst eA eC
       clear eo
       have GB29 := Aside0.mk gb29
       clear gb29 gl29
       obtain ⟨oki,ce,hcl29,hM29,hcc29,hfr29,_,hH29⟩ := Kd.S_elem HS.out [] (j : Int) h0z hjz
       obtain ⟨ve,rfl,ge29⟩ := hM29
       have hv29 := hcc29 0 _ rfl
       rw [Nat.add_zero,show ((Kd.slice 3 (Kd.int .i64))).sz = 1 from rfl,Nat.mul_one,Int.toNat_natCast] at hv29
       have ge30 : Kd.R (Kd.int .i64) 3 w3 w.heap.size oki ve (rdL xs j) := ge29
       obtain ⟨A',c',rfl,hlc',_⟩ := Kd.R_reads ge30
       have UU := Aside0.mk ge30
       have HH := Aside0.mk hH29
       have HV := Aside0.mk hv29
       clear hcl29 hcc29 hfr29 hH29 ge29 ge30 hv29 hlc'
       go_wp2_with (fail)
       have C0 : Aside0 (w3.cell? ⟨go,j,none⟩ = some (.slice A' (rdL xs j).length c')) := HV
       have C1 : Aside0 (w3.cell? ⟨gi,0,none⟩ = some (.int .i64 i)) := ⟨(blk_cell BI.out 0).trans rfl⟩
       clear HV BI
       have hb := below_drew (Below.refl w3.heap.size w3)
       have n_ : Aside0 (w3.drew.cell? ⟨go,j,none⟩ = some (.slice A' (rdL xs j).length c')) := ⟨pw_cell_below hb C0.out⟩
       clear C0
       have C0 := n_
       clear n_
       have n_ : Aside0 (w3.drew.cell? ⟨gi,0,none⟩ = some (.int .i64 i)) := ⟨pw_cell_below hb C1.out⟩
       clear C1
       have C1 := n_
       clear n_
       have n_ := Aside0.mk (Kd.S_below HS.out hb)
       clear HS
       have HS := n_
       clear n_
       have n_ := Aside0.mk (blk_below BK.out hb)
       clear BK
       have BK := n_
       clear n_
       have n_ := Aside0.mk (below_step HB.out hb)
       clear HB
       have HB := n_
       clear n_
       have n_ := Aside0.mk (Kd.R_below UU.out hb)
       clear UU
       have UU := n_
       clear n_
       have n_ := Aside0.mk (Kd.H_below HH.out hb)
       clear HH
       have HH := n_
       clear n_
       clear hb
       refine start_ (n := 11) (S := (fun w_ => w_.cell? ⟨go,j,none⟩ = some (.slice A' (rdL xs j).length c') ∧ w_.cell? ⟨gi,0,none⟩ = some (.int .i64 i))) (ds := [8,10]) #[false,false,false,false,false,false,false,false,false,false,false] (by kernel_rfl) rfl rfl ⟨C0.out,C1.out⟩ (fun hHeld => ?_)
       generalize w3.drew = W0_ at C0 C1 HS BK HB UU HH hHeld ⊢
       refine pure_ (i := 0) (N := some 24) (v := ?_) (a' := ?_) #[true,false,false,false,false,false,false,false,false,false,false] rfl rfl (by kernel_rfl) (fun _ _ _ h => h) (Or.inl ⟨by rfl,?_⟩) ?_ ?_
       rotate_left
       ·intro w'
        go_simp
        with_reducible rfl
       rotate_left
       ·simp only [Act.put,List.setIfInBounds_toArray,List.set_cons_zero,List.set_cons_succ,i64_w,i32_w]
        rfl
       refine pure_ (i := 1) (N := some 25) (v := ?_) (a' := ?_) #[true,true,false,false,false,false,false,false,false,false,false] rfl rfl (by kernel_rfl) (fun _ _ _ h => h) (Or.inl ⟨by rfl,?_⟩) ?_ ?_
       rotate_left
       ·intro w'
        go_simp
        with_reducible rfl
       rotate_left
       ·simp only [Act.put,List.setIfInBounds_toArray,List.set_cons_zero,List.set_cons_succ,i64_w,i32_w]
        rfl
       refine pure_ (i := 2) (N := some 26) (v := ?_) (a' := ?_) #[true,true,true,false,false,false,false,false,false,false,false] rfl rfl (by kernel_rfl) (fun _ _ _ h => h) (Or.inl ⟨by rfl,?_⟩) ?_ ?_
       rotate_left
       ·intro w'
        go_simp
        with_reducible rfl
       rotate_left
       ·simp only [Act.put,List.setIfInBounds_toArray,List.set_cons_zero,List.set_cons_succ,i64_w,i32_w]
        rfl
       refine pure_ (i := 3) (N := some 27) (v := ?_) (a' := ?_) #[true,true,true,true,false,false,false,false,false,false,false] rfl rfl (by kernel_rfl) (fun _ _ _ h => h) (Or.inl ⟨by rfl,?_⟩) ?_ ?_
       rotate_left
       ·intro w'
        go_simp
        with_reducible rfl
       rotate_left
       ·simp only [Act.put,List.setIfInBounds_toArray,List.set_cons_zero,List.set_cons_succ,i64_w,i32_w]
        rfl
       refine pure_ (i := 4) (N := some 28) (v := ?_) (a' := ?_) #[true,true,true,true,true,false,false,false,false,false,false] rfl rfl (by kernel_rfl) (fun _ _ _ h => h) (Or.inl ⟨by rfl,?_⟩) ?_ ?_
       rotate_left
       ·intro w'
        go_simp
        with_reducible rfl
       rotate_left
       ·simp only [Act.put,List.setIfInBounds_toArray,List.set_cons_zero,List.set_cons_succ,i64_w,i32_w]
        rfl
       refine take_ (i := 5) (N := some 29) (v := ?_) (a' := ?_) #[true,true,true,true,true,true,false,false,false,false,false] rfl rfl (by kernel_rfl) (fun _ _ _ h => h) (Or.inl ⟨by rfl,?_⟩) hHeld ?_ ?_
       rotate_left
       ·rintro w' ⟨s0,s1⟩
        go_simp
        with_reducible rfl
       rotate_left
       ·simp only [Act.put,List.setIfInBounds_toArray,List.set_cons_zero,List.set_cons_succ,i64_w,i32_w]
        rfl
       refine take_ (i := 6) (N := some 30) (v := ?_) (a' := ?_) #[true,true,true,true,true,true,true,false,false,false,false] rfl rfl (by kernel_rfl) (fun _ _ _ h => h) (Or.inl ⟨by rfl,?_⟩) hHeld ?_ ?_
       rotate_left
       ·rintro w' ⟨s0,s1⟩
        go_simp
        with_reducible rfl
       rotate_left
       ·simp only [Act.put,List.setIfInBounds_toArray,List.set_cons_zero,List.set_cons_succ,i64_w,i32_w]
        rfl
       refine one_ (i := 7) (N := some 31) #[true,true,true,true,true,true,true,true,false,false,false] rfl rfl (by kernel_rfl) (by decide) (fun K hK => ?_)
       refine value_ (w1 := ?_) (v := ?_) (by rfl) rfl ?_ ?_
       rotate_left 2
       ·go_simp
        constructor
        ·rfl
        ·rfl
       refine hK.out _ _ ⟨pw_cell_below (below_alloc (Below.refl _ _) _) C0.out,pw_cell_below (below_alloc (Below.refl _ _) _) C1.out⟩ (fun hHeld => ?_)
       clear hK K
       refine norm_ (a' := ?_) ?_ ?_
       rotate_left
       ·show Act.put _ (some 31) _ = _
        simp only [Act.put,List.setIfInBounds_toArray,List.set_cons_zero,List.set_cons_succ,i64_w,i32_w]
        rfl
       refine last_ (i := 8) (N := some 32) #[true,true,true,true,true,true,true,true,true,false,false] rfl rfl (by kernel_rfl) (by decide) (fun K hK => ?_)
       refine Kd.R_append_step (Kd.int .i64) (w0 := w) w.heap.size (by rfl) (.tmp 29) (.tmp 31) 27 3 (.int .i64 0) 8 (by rfl) Try.underlying27 info3 (by rfl) (by decide) (by decide) (.slice A' (rdL xs j).length c') (rdL xs j) (i : Int) [.int .i64 i] (fun k_ => oki k_ ∨ (True ∧ W0_.heap.size ≤ k_)) (fun _ => False) (by rfl) (by rfl) (by rfl) (fun _ hk => hk.elim) (fun k_ hk => .inr ⟨trivial,hk⟩) (Kd.R_mono UU.out (fun _ hk => .inl hk)) HB.out HB.out.size (by have := HLEN.out;have := HI.out;have := HN.out;omega) ?_
       intro v1 V3_ ho hb hg hat
       obtain ⟨A1,c1,rfl,_,_⟩ := Kd.R_reads ho
       have BK3 := Aside0.mk (blk_grown BK.out hg (Kd.R_ne UU.out BK.out (by decide)))
       have HH3 := Aside0.mk (Kd.H_grown (Kd.H_widen HH.out) hg (fun k_ e_ => .inl (UU.out.1 k_ e_)))
       have HO3 := Aside0.mk ho
       have HB3 := Aside0.mk hb
       obtain ⟨_,hfr⟩ := Kd.H_at HH3.out h0z hjz
       obtain ⟨_,_,hraw,_,_,hcc,_⟩ := Kd.H_raw HH3.out h0z hjz
       have hx0 := hcc 0 _ rfl
       have hf0 := hfr 0
       rw [Nat.add_zero,show ((Kd.slice 3 (Kd.int .i64))).sz = 1 from rfl,Nat.mul_one,Int.toNat_natCast] at hx0 hf0
       have HRAW := Aside0.mk hraw
       have HP := Kd.S_seg0 HH3.out h0z hjz (seg := [.slice A1 (rdL xs j ++ [(i : Int)]).length c1]) (j := 0) (show 1 ≤ 1 from by decide) (x' := rdL xs j ++ [(i : Int)]) (Kd.M_row HO3.out) (fun _ hk => hk)
       rw [Nat.add_zero,show ((Kd.slice 3 (Kd.int .i64))).sz = 1 from rfl,Nat.mul_one,Int.toNat_natCast] at HP
       clear hraw hcc hfr ho hb hg hat C0 C1 hHeld HS BK HB UU HH HO3
       refine hK.out _ _ ?_
       clear hK K
       refine norm_ (a' := ?_) ?_ ?_
       rotate_left
       ·show Act.put _ (some 32) _ = _
        simp only [Act.put,List.setIfInBounds_toArray,List.set_cons_zero,List.set_cons_succ,i64_w,i32_w]
        rfl
       refine pure_ (i := 9) (N := some 33) (v := ?_) (a' := ?_) #[true,true,true,true,true,true,true,true,true,true,false] rfl rfl (by kernel_rfl) (fun _ _ _ h => h) (Or.inl ⟨by rfl,?_⟩) ?_ ?_
       rotate_left
       ·intro w'
        go_simp
        with_reducible rfl
       rotate_left
       ·simp only [Act.put,List.setIfInBounds_toArray,List.set_cons_zero,List.set_cons_succ,i64_w,i32_w]
        rfl
       refine last_ (i := 10) (N := none) #[true,true,true,true,true,true,true,true,true,true,true] rfl rfl (by kernel_rfl) (by decide) (fun K hK => ?_)
       refine skip_ (w1 := V3_.setCell ⟨go,j,none⟩ (.slice A1 (rdL xs j ++ [(i : Int)]).length c1)) (by rfl) rfl ?_ ?_
       ·go_simp
       have HS4 : Aside0 (Kd.S (Kd.slice 3 (Kd.int .i64)) 27 (V3_.setCell ⟨go,j,none⟩ (.slice A1 (rdL xs j ++ [(i : Int)]).length c1)) w.heap.size (fun _ => True) (.slice (some ⟨go,0,none⟩) xs.length c) (grpN ex (i + 1))) := ⟨by rw [HXJ.out];exact HP.1⟩
       have BK4 : Aside0 ((V3_.setCell ⟨go,j,none⟩ (.slice A1 (rdL xs j ++ [(i : Int)]).length c1)).heap[w.heap.size]? = some (.cells #[.int .i64 N,.int .i64 a0_1] 25 (0,0))) := ⟨blk_grown BK3.out HP.2 (Kd.R_ne HRAW.out BK3.out (by decide))⟩
       have HB4 : Aside0 (Below w.heap.size w (V3_.setCell ⟨go,j,none⟩ (.slice A1 (rdL xs j ++ [(i : Int)]).length c1))) := ⟨below_set HB3.out GB29.out⟩
       clear HP hx0 hf0 HRAW BK3 HB3 HH3
       refine hK.out _ _ ?_
       clear hK K
       generalize V3_.setCell ⟨go,j,none⟩ (.slice A1 (rdL xs j ++ [(i : Int)]).length c1) = V4_ at HS4 BK4 HB4 ⊢
       refine done_ (by kernel_rfl) ?_
       try go_wp2
       go_roundg (N - (i + 1))
       case measure => have := HI.out;have := HG.out;omega
       case rel => exact ⟨i + 1,by have := HI.out;omega,by omega,by have := HI.out;have := HN.out;rw [B.wrap64_of (by omega) (by omega)];congr 1,HS4,BK4,HB4⟩

      ·have HXJ : Aside0 (grpN ex (i + 1) = xs ++ [[(i : Int)]]) := ⟨by rw [HXS.out];exact grpPut_miss ex i xs hno⟩
       clear HF hno
       have hci : w3.cell? ⟨gi,0,none⟩ = some (.int .i64 i) := (blk_cell BI.out 0).trans rfl
       clear BI
       go_wp2_with (first | ((with_reducible refine gate_dst (N := 21) rfl ?_);refine Kd.R_lit (Kd.int .i64) _ 3 ?hg (N := 21) ?hd (xs := ([(i : Int)] : List Int)) (inner := [.int .i64 i]) (ok := fun _ => True) (okp := fun _ => True) ?hr ?hp (fun _ hk => hk) trivial (Below.refl _ _) (Nat.le_refl _) (by simp) ?_;(case hd => rfl);(case hg => rfl);(case hr => first | (go_simp;done) | (go_simp;rfl));(case hp => exact (Reps.one (show Kd.M (Kd.int .i64) _ _ _ (i : Int) [.int .i64 i] from rfl) (Reps.none _ _)));intro v115 w39 ho40 hb hg_ hnew_;clear hg_ hnew_;have n0_ := Aside0.mk (Kd.S_elder' HS.out (Kd.R_base ho40) hb);have n1_ := Aside0.mk (Kd.R_lower ho40 HB.out.size);have n2_ := Aside0.mk (blk_below BK.out hb);have n3_ := Aside0.mk (below_step HB.out hb);clear HS BK HB hci;have HS := n0_;have HO := n1_;have BK := n2_;have HB := n3_;clear n0_ n1_ n2_ n3_;clear hb ho40;obtain ⟨Ao,co,eo⟩ := Kd.R_slice HO.out;subst eo) | ((with_reducible refine gate_builtin (b := .append) (xs := #[.tmp 19,.tmp 22]) rfl ?_);at_builtin;refine Kd.S_append (Kd.slice 3 (Kd.int .i64)) (w0 := w) w.heap.size rfl (.tmp 19) (.tmp 22) 30 27 (.slice none 0 0) 24 rfl Try.underlying30 info27 rfl (by decide) (by omega) (.slice A xs.length c) xs [(i : Int)] [.slice Ao [(i : Int)].length co] (fun _ => True) (fun k_ => some k_ = (.slice Ao [(i : Int)].length co : Value).ownBlock) rfl rfl ?aP (fun k_ hk_ => ((Kd.R_mono (ok' := fun k_ => ((fun _ => True)) k_ ∧ some k_ ≠ (.slice A xs.length c : Value).ownBlock) (Kd.R_apart' (HO.out) (Kd.S_typed HS.out) (by decide)) (fun k_ hk => ⟨trivial,hk.2⟩))).1 k_ hk_.symm) ?aF ?aO ?aB ?aS ?aL ?_;(case aP => exact Kd.M_row (Kd.R_mono (Kd.R_tight rfl (Kd.R_mono (ok' := fun k_ => ((fun _ => True)) k_ ∧ some k_ ≠ (.slice A xs.length c : Value).ownBlock) (Kd.R_apart' (HO.out) (Kd.S_typed HS.out) (by decide)) (fun k_ hk => ⟨trivial,hk.2⟩))) (fun _ h_ => h_)));(case aB => exact HB.out);(case aF => exact (fun _ _ => trivial));(case aO => exact (Kd.S_mono HS.out (fun k_ hk => ⟨trivial,fun e_ => hk.2 e_⟩)));(case aS => exact HB.out.size);(case aL => have := HOK.out.1;have := HI.out;have := HN.out;omega);intro v118 w41 ho hb hg hat;rw [← HXJ.out] at ho;have n0_ := Aside0.mk (blk_grown BK.out hg (Kd.S_ne HS.out BK.out (by decide)));have n1_ := Aside0.mk (hb);have n2_ := Aside0.mk (ho);clear BK;clear HB;clear HS;clear HO;have BK := n0_;have HB := n1_;have HS := n2_;clear n0_ n1_ n2_;clear ho hb hg hat))
       go_roundg (N - (i + 1))
       case measure => have := HI.out;have := HG.out;omega
       case rel => exact ⟨i + 1,by have := HI.out;omega,by omega,by have := HI.out;have := HN.out;rw [B.wrap64_of (by omega) (by omega)];congr 1,HS,BK,HB⟩
     ·have hltz : ¬ (i : Int) < (N : Int) := by omega
      obtain rfl : i = N := by omega
      clear hi hg hlt
      go_wp2
      go_ret
      exact ⟨_,rfl,HS.out,HB.out⟩
   next => cases h
  next => cases h
mutual
def spec_AreExchangeable.j0 : Nat → Int → Int → Bool → Int → Int → Option (Bool)
 | 0,_,_,_,_,_ => none
 | k + 1,x1,x2,x27,x102000,x102001 => if x27 = true then (some false) else (spec_AreExchangeable.l0 k x1 x2 0 x102000 x102001)
def spec_AreExchangeable.l0 : Nat → Int → Int → Int → Int → Int → Option (Bool)
 | 0,_,_,_,_,_ => none
 | k + 1,x1,x2,x7,x102000,x102001 => if 0 ≤ x102000 then (if x7 < (shl .i64 1 x102000) then (if 0 ≤ x1 then (if 0 ≤ x2 then (if (Go.bits .and .i64 (shr .i64 x7 x1) 1) = (Go.bits .and .i64 (shr .i64 x7 x2) 1) then (if 0 ≤ x7 then (if (Go.bits .and .i64 (shr .i64 x102001 x7) 1) = (Go.bits .and .i64 (shr .i64 x102001 x7) 1) then (spec_AreExchangeable.l0 k x1 x2 (wrap64 (x7 + 1)) x102000 x102001) else (some false)) else (none)) else (if 0 ≤ x7 then (if 0 ≤ (Go.bits .xor .i64 x7 (Go.bits .or .i64 (shl .i64 1 x1) (shl .i64 1 x2))) then (if (Go.bits .and .i64 (shr .i64 x102001 x7) 1) = (Go.bits .and .i64 (shr .i64 x102001 (Go.bits .xor .i64 x7 (Go.bits .or .i64 (shl .i64 1 x1) (shl .i64 1 x2)))) 1) then (spec_AreExchangeable.l0 k x1 x2 (wrap64 (x7 + 1)) x102000 x102001) else (some false)) else (none)) else (none))) else (none)) else (none)) else (some true)) else (none)
end
def spec_AreExchangeable.f (k : Nat) (a0_0 : Int) (a0_1 : Int) (a1 : Int) (a2 : Int) : Option (Bool) := (spec_IsTable.f a0_0 a0_1).bind fun t102 => (if t102 = true then ((spec_l1In.f a1 0 (wrap64 (a0_0 - 1))).bind fun t103 => (if t103 = true then ((spec_l1In.f a2 0 (wrap64 (a0_0 - 1))).bind fun t104 => (spec_AreExchangeable.j0 k a1 a2 (!t104) a0_0 a0_1)) else (spec_AreExchangeable.j0 k a1 a2 true a0_0 a0_1))) else (spec_AreExchangeable.j0 k a1 a2 true a0_0 a0_1))
set_option maxHeartbeats 8000000 in
set_option maxRecDepth 100000 in
theorem spec_AreExchangeable.calls (k : Nat) (a0_0 : Int) (a0_1 : Int) (a1 : Int) (a2 : Int) (r : Bool) (w : World) (h : spec_AreExchangeable.f k a0_0 a0_1 a1 a2 = some r) :
  Calls Try.prog 23 #[.agg #[.int .i64 a0_0,.int .i64 a0_1],.int .i64 a1,.int .i64 a2] w fun e w' => e = .returned (.bool r) ∧ Below w.heap.size w w' := by
 have hu25 := Try.underlying25
 have HB := Aside0.mk (Below.refl w.heap.size w)
 have H : ((spec_IsTable.f a0_0 a0_1).bind fun t102 => (if t102 = true then ((spec_l1In.f a1 0 (wrap64 (a0_0 - 1))).bind fun t103 => (if t103 = true then ((spec_l1In.f a2 0 (wrap64 (a0_0 - 1))).bind fun t104 => (spec_AreExchangeable.j0 k a1 a2 (!t104) a0_0 a0_1)) else (spec_AreExchangeable.j0 k a1 a2 true a0_0 a0_1))) else (spec_AreExchangeable.j0 k a1 a2 true a0_0 a0_1))) = some r := h
 clear h
 have HC4 := Aside0.mk H
 clear H
 go_enter Try.func23,Try.ntmps23
 go_upto_region 1 with (first | ((with_reducible refine gate_dst (N := 3) rfl ?_);refine box_event ?hg (N := 3) ?hd (cs := #[.int .i64 a0_0,.int .i64 a0_1]) (t := 25) ?hr ?_;(case hd => rfl);(case hg => rfl);(case hr => first | (go_simp;done) | (go_simp;rfl));intro gb101 hg w5 hbox hb;have n0_ := Aside0.mk (below_step (by repeat (first | (with_reducible first | exact HB.out | apply below_alloc | apply pw_below_drewN | apply below_drew1) | exact HB.out)) hb);have n1_ := Aside0.mk (hbox);have n2_ := Aside0.mk ((by rw [hg];exact (below_size (by repeat (first | (with_reducible first | exact HB.out | apply below_alloc | apply pw_below_drewN | apply below_drew1) | exact HB.out))) : w.heap.size ≤ gb101));have n3_ := Aside0.mk ((by rw [hg];exact (below_size (by repeat (first | (with_reducible first | exact HB.out | apply below_alloc | apply pw_below_drewN | apply below_drew1) | exact HB.out))) : w.heap.size ≤ gb101));clear HB;have HB := n0_;have BK101 := n1_;have GW101 := n2_;have GE101 := n3_;clear n0_ n1_ n2_ n3_;clear hb hbox hg))
 repeat (go_quiet (first | ((with_reducible refine gate_dst (N := 3) rfl ?_);refine box_event ?hg (N := 3) ?hd (cs := #[.int .i64 a0_0,.int .i64 a0_1]) (t := 25) ?hr ?_;(case hd => rfl);(case hg => rfl);(case hr => first | (go_simp;done) | (go_simp;rfl));intro gb101 hg w5 hbox hb;have n0_ := Aside0.mk (below_step (by repeat (first | (with_reducible first | exact HB.out | apply below_alloc | apply pw_below_drewN | apply below_drew1) | exact HB.out)) hb);have n1_ := Aside0.mk (hbox);have n2_ := Aside0.mk ((by rw [hg];exact (below_size (by repeat (first | (with_reducible first | exact HB.out | apply below_alloc | apply pw_below_drewN | apply below_drew1) | exact HB.out))) : w.heap.size ≤ gb101));have n3_ := Aside0.mk ((by rw [hg];exact (below_size (by repeat (first | (with_reducible first | exact HB.out | apply below_alloc | apply pw_below_drewN | apply below_drew1) | exact HB.out))) : w.heap.size ≤ gb101));clear HB;have HB := n0_;have BK101 := n1_;have GW101 := n2_;have GE101 := n3_;clear n0_ n1_ n2_ n3_;clear hb hbox hg));go_upto_region 1 with (first | ((with_reducible refine gate_dst (N := 3) rfl ?_);refine box_event ?hg (N := 3) ?hd (cs := #[.int .i64 a0_0,.int .i64 a0_1]) (t := 25) ?hr ?_;(case hd => rfl);(case hg => rfl);(case hr => first | (go_simp;done) | (go_simp;rfl));intro gb101 hg w5 hbox hb;have n0_ := Aside0.mk (below_step (by repeat (first | (with_reducible first | exact HB.out | apply below_alloc | apply pw_below_drewN | apply below_drew1) | exact HB.out)) hb);have n1_ := Aside0.mk (hbox);have n2_ := Aside0.mk ((by rw [hg];exact (below_size (by repeat (first | (with_reducible first | exact HB.out | apply below_alloc | apply pw_below_drewN | apply below_drew1) | exact HB.out))) : w.heap.size ≤ gb101));have n3_ := Aside0.mk ((by rw [hg];exact (below_size (by repeat (first | (with_reducible first | exact HB.out | apply below_alloc | apply pw_below_drewN | apply below_drew1) | exact HB.out))) : w.heap.size ≤ gb101));clear HB;have HB := n0_;have BK101 := n1_;have GW101 := n2_;have GE101 := n3_;clear n0_ n1_ n2_ n3_;clear hb hbox hg)))
 (try simp only [Act.put,List.setIfInBounds_toArray,List.set_cons_zero,List.set_cons_succ])
 go_cut [27] (fun v27 wc => ∃ (kq : Nat) (x27_3 : Bool),v27 = .bool x27_3 ∧ Aside0 (spec_AreExchangeable.j0 kq a1 a2 x27_3 a0_0 a0_1 = some r) ∧ Aside0 (kq ≤ k) ∧ Aside0 (wc.heap[gb101]? = some (.cells #[.int .i64 a0_0,.int .i64 a0_1] 25 (0,0))) ∧ Aside0 (Below w.heap.size w wc))
 case first =>
  have H := HC4.out
  clear HC4
  replace H := Option.bind_eq_some_iff.mp H
  obtain ⟨t102,A60,H⟩ := H
  replace H : (if t102 = true then ((spec_l1In.f a1 0 (wrap64 (a0_0 - 1))).bind fun t103 => (if t103 = true then ((spec_l1In.f a2 0 (wrap64 (a0_0 - 1))).bind fun t104 => (spec_AreExchangeable.j0 k a1 a2 (!t104) a0_0 a0_1)) else (spec_AreExchangeable.j0 k a1 a2 true a0_0 a0_1))) else (spec_AreExchangeable.j0 k a1 a2 true a0_0 a0_1)) = some r := H
  have A6 := Aside0.mk A60
  clear A60
  by_cases c7 : t102 = true
  ·subst c7
   have H1 : ((spec_l1In.f a1 0 (wrap64 (a0_0 - 1))).bind fun t103 => (if t103 = true then ((spec_l1In.f a2 0 (wrap64 (a0_0 - 1))).bind fun t104 => (spec_AreExchangeable.j0 k a1 a2 (!t104) a0_0 a0_1)) else (spec_AreExchangeable.j0 k a1 a2 true a0_0 a0_1))) = some r := by rw [if_pos rfl] at H;exact H
   clear H
   have H := H1
   clear H1
   replace H := Option.bind_eq_some_iff.mp H
   obtain ⟨t103,A80,H⟩ := H
   replace H : (if t103 = true then ((spec_l1In.f a2 0 (wrap64 (a0_0 - 1))).bind fun t104 => (spec_AreExchangeable.j0 k a1 a2 (!t104) a0_0 a0_1)) else (spec_AreExchangeable.j0 k a1 a2 true a0_0 a0_1)) = some r := H
   have A8 := Aside0.mk A80
   clear A80
   by_cases c9 : t103 = true
   ·subst c9
    have H1 : ((spec_l1In.f a2 0 (wrap64 (a0_0 - 1))).bind fun t104 => (spec_AreExchangeable.j0 k a1 a2 (!t104) a0_0 a0_1)) = some r := by rw [if_pos rfl] at H;exact H
    clear H
    have H := H1
    clear H1
    replace H := Option.bind_eq_some_iff.mp H
    obtain ⟨t104,A100,H⟩ := H
    replace H : (spec_AreExchangeable.j0 k a1 a2 (!t104) a0_0 a0_1) = some r := H
    have A10 := Aside0.mk A100
    clear A100
    have H' := Aside0.mk H
    clear H
    have hcz11_0 : w5.cell? ⟨gb101,0,none⟩ = some (.int .i64 a0_0) := (blk_cell BK101.out 0).trans rfl
    have hcz11_1 : w5.cell? ⟨gb101,1,none⟩ = some (.int .i64 a0_1) := (blk_cell BK101.out 1).trans rfl
    have hfz11_0 := blk_frozen BK101.out 0
    have hfz11_1 := blk_frozen BK101.out 1
    go_wp2_with (first | (go_at_call 17;(with_reducible refine (spec_IsTable.calls a0_0 a0_1 true _ A6.out).mono ?_);rintro e w12 ⟨rfl,hb⟩;have n0_ := Aside0.mk (blk_below (g := gb101) (o := .cells #[.int .i64 a0_0,.int .i64 a0_1] 25 (0,0)) (by (with_reducible repeat (first | refine blk_drewN ?_ _ | refine blk_drew ?_ | refine blk_alloc ?_ _));exact BK101.out) hb);have n1_ := Aside0.mk (below_step (by repeat (first | (with_reducible first | exact HB.out | apply below_alloc | apply pw_below_drewN | apply below_drew1 | refine below_set ?_ GE101.out) | exact HB.out)) hb);clear BK101;clear HB;have BK101 := n0_;have HB := n1_;clear n0_ n1_;(try clear hb);(try clear hb2);(try clear hk);(try clear hi);have hcz13_0 : w12.cell? ⟨gb101,0,none⟩ = some (.int .i64 a0_0) := (blk_cell BK101.out 0).trans rfl;have hcz13_1 : w12.cell? ⟨gb101,1,none⟩ = some (.int .i64 a0_1) := (blk_cell BK101.out 1).trans rfl;have hfz13_0 := blk_frozen BK101.out 0;have hfz13_1 := blk_frozen BK101.out 1) | (go_at_call 61;(with_reducible refine (spec_l1In.calls a1 0 (wrap64 (a0_0 - 1)) true _ A8.out).mono ?_);rintro e w' ⟨rfl,⟨nd,rfl⟩⟩;(try first | exact ⟨rfl,_,World.drewN_drewN _ _ _⟩ | exact ⟨rfl,_,Eq.trans (World.drewN_drewN _ _ _) (congrArg (World.drewN _) (Nat.add_assoc _ _ _))⟩)) | (go_at_call 61;(with_reducible refine (spec_l1In.calls a2 0 (wrap64 (a0_0 - 1)) t104 _ A10.out).mono ?_);rintro e w' ⟨rfl,⟨nd,rfl⟩⟩;(try first | exact ⟨rfl,_,World.drewN_drewN _ _ _⟩ | exact ⟨rfl,_,Eq.trans (World.drewN_drewN _ _ _) (congrArg (World.drewN _) (Nat.add_assoc _ _ _))⟩)))
    repeat (go_quiet (first | (go_at_call 17;(with_reducible refine (spec_IsTable.calls a0_0 a0_1 true _ A6.out).mono ?_);rintro e w12 ⟨rfl,hb⟩;have n0_ := Aside0.mk (blk_below (g := gb101) (o := .cells #[.int .i64 a0_0,.int .i64 a0_1] 25 (0,0)) (by (with_reducible repeat (first | refine blk_drewN ?_ _ | refine blk_drew ?_ | refine blk_alloc ?_ _));exact BK101.out) hb);have n1_ := Aside0.mk (below_step (by repeat (first | (with_reducible first | exact HB.out | apply below_alloc | apply pw_below_drewN | apply below_drew1 | refine below_set ?_ GE101.out) | exact HB.out)) hb);clear BK101;clear HB;have BK101 := n0_;have HB := n1_;clear n0_ n1_;(try clear hb);(try clear hb2);(try clear hk);(try clear hi);have hcz13_0 : w12.cell? ⟨gb101,0,none⟩ = some (.int .i64 a0_0) := (blk_cell BK101.out 0).trans rfl;have hcz13_1 : w12.cell? ⟨gb101,1,none⟩ = some (.int .i64 a0_1) := (blk_cell BK101.out 1).trans rfl;have hfz13_0 := blk_frozen BK101.out 0;have hfz13_1 := blk_frozen BK101.out 1) | (go_at_call 61;(with_reducible refine (spec_l1In.calls a1 0 (wrap64 (a0_0 - 1)) true _ A8.out).mono ?_);rintro e w' ⟨rfl,⟨nd,rfl⟩⟩;(try first | exact ⟨rfl,_,World.drewN_drewN _ _ _⟩ | exact ⟨rfl,_,Eq.trans (World.drewN_drewN _ _ _) (congrArg (World.drewN _) (Nat.add_assoc _ _ _))⟩)) | (go_at_call 61;(with_reducible refine (spec_l1In.calls a2 0 (wrap64 (a0_0 - 1)) t104 _ A10.out).mono ?_);rintro e w' ⟨rfl,⟨nd,rfl⟩⟩;(try first | exact ⟨rfl,_,World.drewN_drewN _ _ _⟩ | exact ⟨rfl,_,Eq.trans (World.drewN_drewN _ _ _) (congrArg (World.drewN _) (Nat.add_assoc _ _ _))⟩)));try go_wp2_with (first | (go_at_call 17;(with_reducible refine (spec_IsTable.calls a0_0 a0_1 true _ A6.out).mono ?_);rintro e w12 ⟨rfl,hb⟩;have n0_ := Aside0.mk (blk_below (g := gb101) (o := .cells #[.int .i64 a0_0,.int .i64 a0_1] 25 (0,0)) (by (with_reducible repeat (first | refine blk_drewN ?_ _ | refine blk_drew ?_ | refine blk_alloc ?_ _));exact BK101.out) hb);have n1_ := Aside0.mk (below_step (by repeat (first | (with_reducible first | exact HB.out | apply below_alloc | apply pw_below_drewN | apply below_drew1 | refine below_set ?_ GE101.out) | exact HB.out)) hb);clear BK101;clear HB;have BK101 := n0_;have HB := n1_;clear n0_ n1_;(try clear hb);(try clear hb2);(try clear hk);(try clear hi);have hcz13_0 : w12.cell? ⟨gb101,0,none⟩ = some (.int .i64 a0_0) := (blk_cell BK101.out 0).trans rfl;have hcz13_1 : w12.cell? ⟨gb101,1,none⟩ = some (.int .i64 a0_1) := (blk_cell BK101.out 1).trans rfl;have hfz13_0 := blk_frozen BK101.out 0;have hfz13_1 := blk_frozen BK101.out 1) | (go_at_call 61;(with_reducible refine (spec_l1In.calls a1 0 (wrap64 (a0_0 - 1)) true _ A8.out).mono ?_);rintro e w' ⟨rfl,⟨nd,rfl⟩⟩;(try first | exact ⟨rfl,_,World.drewN_drewN _ _ _⟩ | exact ⟨rfl,_,Eq.trans (World.drewN_drewN _ _ _) (congrArg (World.drewN _) (Nat.add_assoc _ _ _))⟩)) | (go_at_call 61;(with_reducible refine (spec_l1In.calls a2 0 (wrap64 (a0_0 - 1)) t104 _ A10.out).mono ?_);rintro e w' ⟨rfl,⟨nd,rfl⟩⟩;(try first | exact ⟨rfl,_,World.drewN_drewN _ _ _⟩ | exact ⟨rfl,_,Eq.trans (World.drewN_drewN _ _ _) (congrArg (World.drewN _) (Nat.add_assoc _ _ _))⟩))))
    go_meet
    case rel => exact ⟨_,(!t104),(by first | rfl | (simp;done) | (simp [*];done)),H',⟨by first | omega | exact Nat.le_refl _⟩,⟨by (with_reducible repeat (first | refine blk_drewN ?_ _ | refine blk_drew ?_ | refine blk_alloc ?_ _));exact BK101.out⟩,⟨by repeat (first | (with_reducible first | exact HB.out | apply below_alloc | apply pw_below_drewN | apply below_drew1 | refine below_set ?_ GE101.out) | exact HB.out)⟩⟩
   ·replace c9 := Bool.eq_false_iff.mpr c9
    subst c9
    have H1 : (spec_AreExchangeable.j0 k a1 a2 true a0_0 a0_1) = some r := by rw [if_neg (show ¬ (false = true) by decide)] at H;exact H
    clear H
    have H := H1
    clear H1
    have H' := Aside0.mk H
    clear H
    have hcz14_0 : w5.cell? ⟨gb101,0,none⟩ = some (.int .i64 a0_0) := (blk_cell BK101.out 0).trans rfl
    have hcz14_1 : w5.cell? ⟨gb101,1,none⟩ = some (.int .i64 a0_1) := (blk_cell BK101.out 1).trans rfl
    have hfz14_0 := blk_frozen BK101.out 0
    have hfz14_1 := blk_frozen BK101.out 1
    go_wp2_with (first | (go_at_call 17;(with_reducible refine (spec_IsTable.calls a0_0 a0_1 true _ A6.out).mono ?_);rintro e w15 ⟨rfl,hb⟩;have n0_ := Aside0.mk (blk_below (g := gb101) (o := .cells #[.int .i64 a0_0,.int .i64 a0_1] 25 (0,0)) (by (with_reducible repeat (first | refine blk_drewN ?_ _ | refine blk_drew ?_ | refine blk_alloc ?_ _));exact BK101.out) hb);have n1_ := Aside0.mk (below_step (by repeat (first | (with_reducible first | exact HB.out | apply below_alloc | apply pw_below_drewN | apply below_drew1 | refine below_set ?_ GE101.out) | exact HB.out)) hb);clear BK101;clear HB;have BK101 := n0_;have HB := n1_;clear n0_ n1_;(try clear hb);(try clear hb2);(try clear hk);(try clear hi);have hcz16_0 : w15.cell? ⟨gb101,0,none⟩ = some (.int .i64 a0_0) := (blk_cell BK101.out 0).trans rfl;have hcz16_1 : w15.cell? ⟨gb101,1,none⟩ = some (.int .i64 a0_1) := (blk_cell BK101.out 1).trans rfl;have hfz16_0 := blk_frozen BK101.out 0;have hfz16_1 := blk_frozen BK101.out 1) | (go_at_call 61;(with_reducible refine (spec_l1In.calls a1 0 (wrap64 (a0_0 - 1)) false _ A8.out).mono ?_);rintro e w' ⟨rfl,⟨nd,rfl⟩⟩;(try first | exact ⟨rfl,_,World.drewN_drewN _ _ _⟩ | exact ⟨rfl,_,Eq.trans (World.drewN_drewN _ _ _) (congrArg (World.drewN _) (Nat.add_assoc _ _ _))⟩)))
    repeat (go_quiet (first | (go_at_call 17;(with_reducible refine (spec_IsTable.calls a0_0 a0_1 true _ A6.out).mono ?_);rintro e w15 ⟨rfl,hb⟩;have n0_ := Aside0.mk (blk_below (g := gb101) (o := .cells #[.int .i64 a0_0,.int .i64 a0_1] 25 (0,0)) (by (with_reducible repeat (first | refine blk_drewN ?_ _ | refine blk_drew ?_ | refine blk_alloc ?_ _));exact BK101.out) hb);have n1_ := Aside0.mk (below_step (by repeat (first | (with_reducible first | exact HB.out | apply below_alloc | apply pw_below_drewN | apply below_drew1 | refine below_set ?_ GE101.out) | exact HB.out)) hb);clear BK101;clear HB;have BK101 := n0_;have HB := n1_;clear n0_ n1_;(try clear hb);(try clear hb2);(try clear hk);(try clear hi);have hcz16_0 : w15.cell? ⟨gb101,0,none⟩ = some (.int .i64 a0_0) := (blk_cell BK101.out 0).trans rfl;have hcz16_1 : w15.cell? ⟨gb101,1,none⟩ = some (.int .i64 a0_1) := (blk_cell BK101.out 1).trans rfl;have hfz16_0 := blk_frozen BK101.out 0;have hfz16_1 := blk_frozen BK101.out 1) | (go_at_call 61;(with_reducible refine (spec_l1In.calls a1 0 (wrap64 (a0_0 - 1)) false _ A8.out).mono ?_);rintro e w' ⟨rfl,⟨nd,rfl⟩⟩;(try first | exact ⟨rfl,_,World.drewN_drewN _ _ _⟩ | exact ⟨rfl,_,Eq.trans (World.drewN_drewN _ _ _) (congrArg (World.drewN _) (Nat.add_assoc _ _ _))⟩)));try go_wp2_with (first | (go_at_call 17;(with_reducible refine (spec_IsTable.calls a0_0 a0_1 true _ A6.out).mono ?_);rintro e w15 ⟨rfl,hb⟩;have n0_ := Aside0.mk (blk_below (g := gb101) (o := .cells #[.int .i64 a0_0,.int .i64 a0_1] 25 (0,0)) (by (with_reducible repeat (first | refine blk_drewN ?_ _ | refine blk_drew ?_ | refine blk_alloc ?_ _));exact BK101.out) hb);have n1_ := Aside0.mk (below_step (by repeat (first | (with_reducible first | exact HB.out | apply below_alloc | apply pw_below_drewN | apply below_drew1 | refine below_set ?_ GE101.out) | exact HB.out)) hb);clear BK101;clear HB;have BK101 := n0_;have HB := n1_;clear n0_ n1_;(try clear hb);(try clear hb2);(try clear hk);(try clear hi);have hcz16_0 : w15.cell? ⟨gb101,0,none⟩ = some (.int .i64 a0_0) := (blk_cell BK101.out 0).trans rfl;have hcz16_1 : w15.cell? ⟨gb101,1,none⟩ = some (.int .i64 a0_1) := (blk_cell BK101.out 1).trans rfl;have hfz16_0 := blk_frozen BK101.out 0;have hfz16_1 := blk_frozen BK101.out 1) | (go_at_call 61;(with_reducible refine (spec_l1In.calls a1 0 (wrap64 (a0_0 - 1)) false _ A8.out).mono ?_);rintro e w' ⟨rfl,⟨nd,rfl⟩⟩;(try first | exact ⟨rfl,_,World.drewN_drewN _ _ _⟩ | exact ⟨rfl,_,Eq.trans (World.drewN_drewN _ _ _) (congrArg (World.drewN _) (Nat.add_assoc _ _ _))⟩))))
    go_meet
    case rel => exact ⟨_,(true),(by first | rfl | (simp;done) | (simp [*];done)),H',⟨by first | omega | exact Nat.le_refl _⟩,⟨by (with_reducible repeat (first | refine blk_drewN ?_ _ | refine blk_drew ?_ | refine blk_alloc ?_ _));exact BK101.out⟩,⟨by repeat (first | (with_reducible first | exact HB.out | apply below_alloc | apply pw_below_drewN | apply below_drew1 | refine below_set ?_ GE101.out) | exact HB.out)⟩⟩
  ·replace c7 := Bool.eq_false_iff.mpr c7
   subst c7
   have H1 : (spec_AreExchangeable.j0 k a1 a2 true a0_0 a0_1) = some r := by rw [if_neg (show ¬ (false = true) by decide)] at H;exact H
   clear H
   have H := H1
   clear H1
   have H' := Aside0.mk H
   clear H
   have hcz17_0 : w5.cell? ⟨gb101,0,none⟩ = some (.int .i64 a0_0) := (blk_cell BK101.out 0).trans rfl
   have hcz17_1 : w5.cell? ⟨gb101,1,none⟩ = some (.int .i64 a0_1) := (blk_cell BK101.out 1).trans rfl
   have hfz17_0 := blk_frozen BK101.out 0
   have hfz17_1 := blk_frozen BK101.out 1
   go_wp2_with (first | (go_at_call 17;(with_reducible refine (spec_IsTable.calls a0_0 a0_1 false _ A6.out).mono ?_);rintro e w18 ⟨rfl,hb⟩;have n0_ := Aside0.mk (blk_below (g := gb101) (o := .cells #[.int .i64 a0_0,.int .i64 a0_1] 25 (0,0)) (by (with_reducible repeat (first | refine blk_drewN ?_ _ | refine blk_drew ?_ | refine blk_alloc ?_ _));exact BK101.out) hb);have n1_ := Aside0.mk (below_step (by repeat (first | (with_reducible first | exact HB.out | apply below_alloc | apply pw_below_drewN | apply below_drew1 | refine below_set ?_ GE101.out) | exact HB.out)) hb);clear BK101;clear HB;have BK101 := n0_;have HB := n1_;clear n0_ n1_;(try clear hb);(try clear hb2);(try clear hk);(try clear hi)))
   repeat (go_quiet (first | (go_at_call 17;(with_reducible refine (spec_IsTable.calls a0_0 a0_1 false _ A6.out).mono ?_);rintro e w18 ⟨rfl,hb⟩;have n0_ := Aside0.mk (blk_below (g := gb101) (o := .cells #[.int .i64 a0_0,.int .i64 a0_1] 25 (0,0)) (by (with_reducible repeat (first | refine blk_drewN ?_ _ | refine blk_drew ?_ | refine blk_alloc ?_ _));exact BK101.out) hb);have n1_ := Aside0.mk (below_step (by repeat (first | (with_reducible first | exact HB.out | apply below_alloc | apply pw_below_drewN | apply below_drew1 | refine below_set ?_ GE101.out) | exact HB.out)) hb);clear BK101;clear HB;have BK101 := n0_;have HB := n1_;clear n0_ n1_;(try clear hb);(try clear hb2);(try clear hk);(try clear hi)));try go_wp2_with (first | (go_at_call 17;(with_reducible refine (spec_IsTable.calls a0_0 a0_1 false _ A6.out).mono ?_);rintro e w18 ⟨rfl,hb⟩;have n0_ := Aside0.mk (blk_below (g := gb101) (o := .cells #[.int .i64 a0_0,.int .i64 a0_1] 25 (0,0)) (by (with_reducible repeat (first | refine blk_drewN ?_ _ | refine blk_drew ?_ | refine blk_alloc ?_ _));exact BK101.out) hb);have n1_ := Aside0.mk (below_step (by repeat (first | (with_reducible first | exact HB.out | apply below_alloc | apply pw_below_drewN | apply below_drew1 | refine below_set ?_ GE101.out) | exact HB.out)) hb);clear BK101;clear HB;have BK101 := n0_;have HB := n1_;clear n0_ n1_;(try clear hb);(try clear hb2);(try clear hk);(try clear hi))))
   go_meet
   case rel => exact ⟨_,(true),(by first | rfl | (simp;done) | (simp [*];done)),H',⟨by first | omega | exact Nat.le_refl _⟩,⟨by (with_reducible repeat (first | refine blk_drewN ?_ _ | refine blk_drew ?_ | refine blk_alloc ?_ _));exact BK101.out⟩,⟨by repeat (first | (with_reducible first | exact HB.out | apply below_alloc | apply pw_below_drewN | apply below_drew1 | refine below_set ?_ GE101.out) | exact HB.out)⟩⟩
 case rest =>
  clear HC4
  try clear c2
  try clear p2
  try clear p6
  try clear c7
  try clear c9
  try clear hcz11_0
  try clear hcz11_1
  try clear hcz13_0
  try clear hcz13_1
  try clear hcz14_0
  try clear hcz14_1
  try clear hcz16_0
  try clear hcz16_1
  try clear hcz17_0
  try clear hcz17_1
  try clear hfz11_0
  try clear hfz11_1
  try clear hfz13_0
  try clear hfz13_1
  try clear hfz14_0
  try clear hfz14_1
  try clear hfz16_0
  try clear hfz16_1
  try clear hfz17_0
  try clear hfz17_1
  obtain ⟨kq,x27_3,rfl,HA,HJ3,BK101,HB⟩ := hcut
  cases kq with
  | zero => exact absurd HA.out (by simp [spec_AreExchangeable.j0])
  | succ kj3 =>
   have H := HA.out
   clear HA
   simp only [spec_AreExchangeable.j0] at H
   by_cases c19 : x27_3 = true
   ·subst c19
    have H1 : (some false) = some r := by rw [if_pos rfl] at H;exact H
    clear H
    have H := H1
    clear H1
    obtain rfl := Option.some.inj H
    go_wp2
    repeat (go_quiet (fail);try go_wp2)
    go_ret
    exact ⟨by first | rfl | (simp [errW_none,errW_some] <;> rfl) | (simp [*,errW_none,errW_some] <;> rfl),by repeat (first | (with_reducible first | exact HB.out | apply below_alloc | apply pw_below_drewN | apply below_drew1 | refine below_set ?_ GE101.out) | exact HB.out)⟩
   ·replace c19 := Bool.eq_false_iff.mpr c19
    subst c19
    have H1 : (spec_AreExchangeable.l0 kj3 a1 a2 0 a0_0 a0_1) = some r := by rw [if_neg (show ¬ (false = true) by decide)] at H;exact H
    clear H
    have H := H1
    clear H1
    have H' := Aside0.mk H
    clear H
    go_wp2
    repeat (go_quiet (fail);try go_wp2)
    go_loopg [7] kj3 (fun kq v7 w' => ∃ (x7_2 : Int),v7 = .int .i64 x7_2 ∧ Aside0 (spec_AreExchangeable.l0 kq a1 a2 x7_2 a0_0 a0_1 = some r) ∧ Aside0 (kq ≤ kj3) ∧ Aside0 (w'.heap[gb101]? = some (.cells #[.int .i64 a0_0,.int .i64 a0_1] 25 (0,0))) ∧ Aside0 (Below w.heap.size w w'))
    case atStart => exact ⟨(0),(by first | rfl | (simp;done) | (simp [*];done)),H',⟨Nat.le_refl _⟩,⟨by (with_reducible repeat (first | refine blk_drewN ?_ _ | refine blk_drew ?_ | refine blk_alloc ?_ _));exact BK101.out⟩,⟨by repeat (first | (with_reducible first | exact HB.out | apply below_alloc | apply pw_below_drewN | apply below_drew1 | refine below_set ?_ GE101.out) | exact HB.out)⟩⟩
    case round =>
     clear H'
     try clear c1
     try clear c2
     try clear p2
     try clear p6
     try clear c7
     try clear c9
     try clear c19
     try clear hcz11_0
     try clear hcz11_1
     try clear hcz13_0
     try clear hcz13_1
     try clear hcz14_0
     try clear hcz14_1
     try clear hcz16_0
     try clear hcz16_1
     try clear hcz17_0
     try clear hcz17_1
     try clear hfz11_0
     try clear hfz11_1
     try clear hfz13_0
     try clear hfz13_1
     try clear hfz14_0
     try clear hfz14_1
     try clear hfz16_0
     try clear hfz16_1
     try clear hfz17_0
     try clear hfz17_1
     try clear p2
     try clear p6
     obtain ⟨x7_2,rfl,HA,HK2,BK101,HB⟩ := hrel
     cases gk with
     | zero => exact absurd HA.out (by simp [spec_AreExchangeable.l0])
     | succ k2 =>
      have H := HA.out
      clear HA
      simp only [spec_AreExchangeable.l0] at H
      by_cases c20 : 0 ≤ a0_0
      ·rw [if_pos c20] at H
       have c20b0 := eq_true c20
       have c20b1 : decide (0 ≤ a0_0) = true := decide_eq_true c20
       clear c20
       obtain ⟨ji21,hji21⟩ : ∃ j_ : Int,(shl .i64 1 a0_0) = j_ := ⟨_,rfl⟩
       replace H : (if x7_2 < (ji21) then (if 0 ≤ a1 then (if 0 ≤ a2 then (if (Go.bits .and .i64 (shr .i64 x7_2 a1) 1) = (Go.bits .and .i64 (shr .i64 x7_2 a2) 1) then (if 0 ≤ x7_2 then (if (Go.bits .and .i64 (shr .i64 a0_1 x7_2) 1) = (Go.bits .and .i64 (shr .i64 a0_1 x7_2) 1) then (spec_AreExchangeable.l0 k2 a1 a2 (wrap64 (x7_2 + 1)) a0_0 a0_1) else (some false)) else (none)) else (if 0 ≤ x7_2 then (if 0 ≤ (Go.bits .xor .i64 x7_2 (Go.bits .or .i64 (shl .i64 1 a1) (shl .i64 1 a2))) then (if (Go.bits .and .i64 (shr .i64 a0_1 x7_2) 1) = (Go.bits .and .i64 (shr .i64 a0_1 (Go.bits .xor .i64 x7_2 (Go.bits .or .i64 (shl .i64 1 a1) (shl .i64 1 a2)))) 1) then (spec_AreExchangeable.l0 k2 a1 a2 (wrap64 (x7_2 + 1)) a0_0 a0_1) else (some false)) else (none)) else (none))) else (none)) else (none)) else (some true)) = some r := by first | (rw [hji21] at H;exact H) | (simp only [hji21] at H ⊢;exact H)
       have hji21_ : (IntKind.i64.wrap (1 * 2 ^ min a0_0.toNat 64)) = ji21 := hji21
       have hji21z : a0_0 ≤ 64 → (IntKind.i64.wrap (1 * 2 ^ a0_0.toNat)) = ji21 := shl_small hji21
       have hji21u : (IntKind.i64.wrap (2 ^ min a0_0.toNat 64)) = ji21 := by have h_ := hji21_;rw [Int.one_mul] at h_;exact h_
       have hji21v : a0_0 ≤ 64 → (IntKind.i64.wrap (2 ^ a0_0.toNat)) = ji21 := fun hle_ => by have h_ := hji21z hle_;rw [Int.one_mul] at h_;exact h_
       have hji21y : (wrap64 (1 * 2 ^ min a0_0.toNat 64)) = ji21 := (i64_w _).symm.trans hji21_
       have hji21x : a0_0 ≤ 64 → (wrap64 (1 * 2 ^ a0_0.toNat)) = ji21 := fun h_ => (i64_w _).symm.trans (hji21z h_)
       by_cases c22 : x7_2 < (ji21)
       ·rw [if_pos c22] at H
        have c22b0 : decide (x7_2 < (ji21)) = true := decide_eq_true c22
        clear c22
        by_cases c23 : 0 ≤ a1
        ·rw [if_pos c23] at H
         have c23b0 := eq_true c23
         have c23b1 : decide (0 ≤ a1) = true := decide_eq_true c23
         clear c23
         obtain ⟨ji24,hji24⟩ : ∃ j_ : Int,(shr .i64 x7_2 a1) = j_ := ⟨_,rfl⟩
         replace H : (if 0 ≤ a2 then (if (Go.bits .and .i64 (ji24) 1) = (Go.bits .and .i64 (shr .i64 x7_2 a2) 1) then (if 0 ≤ x7_2 then (if (Go.bits .and .i64 (shr .i64 a0_1 x7_2) 1) = (Go.bits .and .i64 (shr .i64 a0_1 x7_2) 1) then (spec_AreExchangeable.l0 k2 a1 a2 (wrap64 (x7_2 + 1)) a0_0 a0_1) else (some false)) else (none)) else (if 0 ≤ x7_2 then (if 0 ≤ (Go.bits .xor .i64 x7_2 (Go.bits .or .i64 (shl .i64 1 a1) (shl .i64 1 a2))) then (if (Go.bits .and .i64 (shr .i64 a0_1 x7_2) 1) = (Go.bits .and .i64 (shr .i64 a0_1 (Go.bits .xor .i64 x7_2 (Go.bits .or .i64 (shl .i64 1 a1) (shl .i64 1 a2)))) 1) then (spec_AreExchangeable.l0 k2 a1 a2 (wrap64 (x7_2 + 1)) a0_0 a0_1) else (some false)) else (none)) else (none))) else (none)) = some r := by first | (rw [hji24] at H;exact H) | (simp only [hji24] at H ⊢;exact H)
         have hji24_ : (x7_2 / 2 ^ min a1.toNat 64) = ji24 := hji24
         have hji24z : a1 ≤ 64 → (x7_2 / 2 ^ a1.toNat) = ji24 := shr_small hji24
         by_cases c25 : 0 ≤ a2
         ·rw [if_pos c25] at H
          have c25b0 := eq_true c25
          have c25b1 : decide (0 ≤ a2) = true := decide_eq_true c25
          clear c25
          obtain ⟨ji26,hji26⟩ : ∃ j_ : Int,(shr .i64 x7_2 a2) = j_ := ⟨_,rfl⟩
          replace H : (if (Go.bits .and .i64 (ji24) 1) = (Go.bits .and .i64 (ji26) 1) then (if 0 ≤ x7_2 then (if (Go.bits .and .i64 (shr .i64 a0_1 x7_2) 1) = (Go.bits .and .i64 (shr .i64 a0_1 x7_2) 1) then (spec_AreExchangeable.l0 k2 a1 a2 (wrap64 (x7_2 + 1)) a0_0 a0_1) else (some false)) else (none)) else (if 0 ≤ x7_2 then (if 0 ≤ (Go.bits .xor .i64 x7_2 (Go.bits .or .i64 (shl .i64 1 a1) (shl .i64 1 a2))) then (if (Go.bits .and .i64 (shr .i64 a0_1 x7_2) 1) = (Go.bits .and .i64 (shr .i64 a0_1 (Go.bits .xor .i64 x7_2 (Go.bits .or .i64 (shl .i64 1 a1) (shl .i64 1 a2)))) 1) then (spec_AreExchangeable.l0 k2 a1 a2 (wrap64 (x7_2 + 1)) a0_0 a0_1) else (some false)) else (none)) else (none))) = some r := by first | (rw [hji26] at H;exact H) | (simp only [hji26] at H ⊢;exact H)
          have hji26_ : (x7_2 / 2 ^ min a2.toNat 64) = ji26 := hji26
          have hji26z : a2 ≤ 64 → (x7_2 / 2 ^ a2.toNat) = ji26 := shr_small hji26
          by_cases c27 : (Go.bits .and .i64 (ji24) 1) = (Go.bits .and .i64 (ji26) 1)
          ·rw [if_pos c27] at H
           have c27b0 : ((Go.bits .and .i64 (ji24) 1) == (Go.bits .and .i64 (ji26) 1)) = true := beq_iff_eq.mpr c27
           have c27b1 : ((Go.bits .and .i64 (ji24) 1) != (Go.bits .and .i64 (ji26) 1)) = false := bne_eq_false_iff_eq.mpr c27
           clear c27
           by_cases c28 : 0 ≤ x7_2
           ·rw [if_pos c28] at H
            have c28b0 := eq_true c28
            have c28b1 : decide (0 ≤ x7_2) = true := decide_eq_true c28
            clear c28
            obtain ⟨ji29,hji29⟩ : ∃ j_ : Int,(shr .i64 a0_1 x7_2) = j_ := ⟨_,rfl⟩
            replace H : (if (Go.bits .and .i64 (ji29) 1) = (Go.bits .and .i64 (ji29) 1) then (spec_AreExchangeable.l0 k2 a1 a2 (wrap64 (x7_2 + 1)) a0_0 a0_1) else (some false)) = some r := by first | (rw [hji29] at H;exact H) | (simp only [hji29] at H ⊢;exact H)
            have hji29_ : (a0_1 / 2 ^ min x7_2.toNat 64) = ji29 := hji29
            have hji29z : x7_2 ≤ 64 → (a0_1 / 2 ^ x7_2.toNat) = ji29 := shr_small hji29
            have c30b0 := eq_true (of_decide_eq_true (by first | (with_reducible assumption) | assumption) : 0 ≤ x7_2)
            by_cases c32 : (Go.bits .and .i64 (ji29) 1) = (Go.bits .and .i64 (ji29) 1)
            ·rw [if_pos c32] at H
             have c32b0 : ((Go.bits .and .i64 (ji29) 1) == (Go.bits .and .i64 (ji29) 1)) = true := beq_iff_eq.mpr c32
             have c32b1 : ((Go.bits .and .i64 (ji29) 1) != (Go.bits .and .i64 (ji29) 1)) = false := bne_eq_false_iff_eq.mpr c32
             clear c32
             have H' := Aside0.mk H
             clear H
             have hcz33_0 : wr.cell? ⟨gb101,0,none⟩ = some (.int .i64 a0_0) := (blk_cell BK101.out 0).trans rfl
             have hcz33_1 : wr.cell? ⟨gb101,1,none⟩ = some (.int .i64 a0_1) := (blk_cell BK101.out 1).trans rfl
             have hfz33_0 := blk_frozen BK101.out 0
             have hfz33_1 := blk_frozen BK101.out 1
             go_wp2
             repeat (go_quiet (fail);try go_wp2)
             go_roundg k2
             case measure => have := HJ3.out;have := HK2.out;omega
             case rel => exact ⟨(wrap64 (x7_2 + 1)),(by first | rfl | (simp;done) | (simp [*];done)),H',⟨by have := HJ3.out;have := HK2.out;omega⟩,⟨by (with_reducible repeat (first | refine blk_drewN ?_ _ | refine blk_drew ?_ | refine blk_alloc ?_ _));exact BK101.out⟩,⟨by repeat (first | (with_reducible first | exact HB.out | apply below_alloc | apply pw_below_drewN | apply below_drew1 | refine below_set ?_ GE101.out) | exact HB.out)⟩⟩
            ·exact absurd rfl c32
           ·rw [if_neg c28] at H
            exact absurd H (by simp)
          ·rw [if_neg c27] at H
           have c27b0 : ((Go.bits .and .i64 (ji24) 1) == (Go.bits .and .i64 (ji26) 1)) = false := beq_eq_false_iff_ne.mpr c27
           have c27b1 : ((Go.bits .and .i64 (ji24) 1) != (Go.bits .and .i64 (ji26) 1)) = true := bne_iff_ne.mpr c27
           have c35b0 := eq_true (of_decide_eq_true (by first | (with_reducible assumption) | assumption) : 0 ≤ a1)
           obtain ⟨ji36,hji36⟩ : ∃ j_ : Int,(shl .i64 1 a1) = j_ := ⟨_,rfl⟩
           replace H : (if 0 ≤ x7_2 then (if 0 ≤ (Go.bits .xor .i64 x7_2 (Go.bits .or .i64 (ji36) (shl .i64 1 a2))) then (if (Go.bits .and .i64 (shr .i64 a0_1 x7_2) 1) = (Go.bits .and .i64 (shr .i64 a0_1 (Go.bits .xor .i64 x7_2 (Go.bits .or .i64 (ji36) (shl .i64 1 a2)))) 1) then (spec_AreExchangeable.l0 k2 a1 a2 (wrap64 (x7_2 + 1)) a0_0 a0_1) else (some false)) else (none)) else (none)) = some r := by first | (rw [hji36] at H;exact H) | (simp only [hji36] at H ⊢;exact H)
           have hji36_ : (IntKind.i64.wrap (1 * 2 ^ min a1.toNat 64)) = ji36 := hji36
           have hji36z : a1 ≤ 64 → (IntKind.i64.wrap (1 * 2 ^ a1.toNat)) = ji36 := shl_small hji36
           have hji36u : (IntKind.i64.wrap (2 ^ min a1.toNat 64)) = ji36 := by have h_ := hji36_;rw [Int.one_mul] at h_;exact h_
           have hji36v : a1 ≤ 64 → (IntKind.i64.wrap (2 ^ a1.toNat)) = ji36 := fun hle_ => by have h_ := hji36z hle_;rw [Int.one_mul] at h_;exact h_
           have hji36y : (wrap64 (1 * 2 ^ min a1.toNat 64)) = ji36 := (i64_w _).symm.trans hji36_
           have hji36x : a1 ≤ 64 → (wrap64 (1 * 2 ^ a1.toNat)) = ji36 := fun h_ => (i64_w _).symm.trans (hji36z h_)
           have c37b0 := eq_true (of_decide_eq_true (by first | (with_reducible assumption) | assumption) : 0 ≤ a2)
           obtain ⟨ji38,hji38⟩ : ∃ j_ : Int,(shl .i64 1 a2) = j_ := ⟨_,rfl⟩
           replace H : (if 0 ≤ x7_2 then (if 0 ≤ (Go.bits .xor .i64 x7_2 (Go.bits .or .i64 (ji36) (ji38))) then (if (Go.bits .and .i64 (shr .i64 a0_1 x7_2) 1) = (Go.bits .and .i64 (shr .i64 a0_1 (Go.bits .xor .i64 x7_2 (Go.bits .or .i64 (ji36) (ji38)))) 1) then (spec_AreExchangeable.l0 k2 a1 a2 (wrap64 (x7_2 + 1)) a0_0 a0_1) else (some false)) else (none)) else (none)) = some r := by first | (rw [hji38] at H;exact H) | (simp only [hji38] at H ⊢;exact H)
           have hji38_ : (IntKind.i64.wrap (1 * 2 ^ min a2.toNat 64)) = ji38 := hji38
           have hji38z : a2 ≤ 64 → (IntKind.i64.wrap (1 * 2 ^ a2.toNat)) = ji38 := shl_small hji38
           have hji38u : (IntKind.i64.wrap (2 ^ min a2.toNat 64)) = ji38 := by have h_ := hji38_;rw [Int.one_mul] at h_;exact h_
           have hji38v : a2 ≤ 64 → (IntKind.i64.wrap (2 ^ a2.toNat)) = ji38 := fun hle_ => by have h_ := hji38z hle_;rw [Int.one_mul] at h_;exact h_
           have hji38y : (wrap64 (1 * 2 ^ min a2.toNat 64)) = ji38 := (i64_w _).symm.trans hji38_
           have hji38x : a2 ≤ 64 → (wrap64 (1 * 2 ^ a2.toNat)) = ji38 := fun h_ => (i64_w _).symm.trans (hji38z h_)
           by_cases c39 : 0 ≤ x7_2
           ·rw [if_pos c39] at H
            have c39b0 := eq_true c39
            have c39b1 : decide (0 ≤ x7_2) = true := decide_eq_true c39
            clear c39
            obtain ⟨ji40,hji40⟩ : ∃ j_ : Int,(shr .i64 a0_1 x7_2) = j_ := ⟨_,rfl⟩
            replace H : (if 0 ≤ (Go.bits .xor .i64 x7_2 (Go.bits .or .i64 (ji36) (ji38))) then (if (Go.bits .and .i64 (ji40) 1) = (Go.bits .and .i64 (shr .i64 a0_1 (Go.bits .xor .i64 x7_2 (Go.bits .or .i64 (ji36) (ji38)))) 1) then (spec_AreExchangeable.l0 k2 a1 a2 (wrap64 (x7_2 + 1)) a0_0 a0_1) else (some false)) else (none)) = some r := by first | (rw [hji40] at H;exact H) | (simp only [hji40] at H ⊢;exact H)
            have hji40_ : (a0_1 / 2 ^ min x7_2.toNat 64) = ji40 := hji40
            have hji40z : x7_2 ≤ 64 → (a0_1 / 2 ^ x7_2.toNat) = ji40 := shr_small hji40
            by_cases c41 : 0 ≤ (Go.bits .xor .i64 x7_2 (Go.bits .or .i64 (ji36) (ji38)))
            ·rw [if_pos c41] at H
             have c41b0 := eq_true c41
             have c41b1 : decide (0 ≤ (Go.bits .xor .i64 x7_2 (Go.bits .or .i64 (ji36) (ji38)))) = true := decide_eq_true c41
             clear c41
             obtain ⟨ji42,hji42⟩ : ∃ j_ : Int,(shr .i64 a0_1 (Go.bits .xor .i64 x7_2 (Go.bits .or .i64 (ji36) (ji38)))) = j_ := ⟨_,rfl⟩
             replace H : (if (Go.bits .and .i64 (ji40) 1) = (Go.bits .and .i64 (ji42) 1) then (spec_AreExchangeable.l0 k2 a1 a2 (wrap64 (x7_2 + 1)) a0_0 a0_1) else (some false)) = some r := by first | (rw [hji42] at H;exact H) | (simp only [hji42] at H ⊢;exact H)
             have hji42_ : (a0_1 / 2 ^ min (Go.bits .xor .i64 x7_2 (Go.bits .or .i64 (ji36) (ji38))).toNat 64) = ji42 := hji42
             have hji42z : (Go.bits .xor .i64 x7_2 (Go.bits .or .i64 (ji36) (ji38))) ≤ 64 → (a0_1 / 2 ^ (Go.bits .xor .i64 x7_2 (Go.bits .or .i64 (ji36) (ji38))).toNat) = ji42 := shr_small hji42
             by_cases c43 : (Go.bits .and .i64 (ji40) 1) = (Go.bits .and .i64 (ji42) 1)
             ·rw [if_pos c43] at H
              have c43b0 : ((Go.bits .and .i64 (ji40) 1) == (Go.bits .and .i64 (ji42) 1)) = true := beq_iff_eq.mpr c43
              have c43b1 : ((Go.bits .and .i64 (ji40) 1) != (Go.bits .and .i64 (ji42) 1)) = false := bne_eq_false_iff_eq.mpr c43
              clear c43
              have H' := Aside0.mk H
              clear H
              have hcz44_0 : wr.cell? ⟨gb101,0,none⟩ = some (.int .i64 a0_0) := (blk_cell BK101.out 0).trans rfl
              have hcz44_1 : wr.cell? ⟨gb101,1,none⟩ = some (.int .i64 a0_1) := (blk_cell BK101.out 1).trans rfl
              have hfz44_0 := blk_frozen BK101.out 0
              have hfz44_1 := blk_frozen BK101.out 1
              go_wp2
              repeat (go_quiet (fail);try go_wp2)
              go_roundg k2
              case measure => have := HJ3.out;have := HK2.out;omega
              case rel => exact ⟨(wrap64 (x7_2 + 1)),(by first | rfl | (simp;done) | (simp [*];done)),H',⟨by have := HJ3.out;have := HK2.out;omega⟩,⟨by (with_reducible repeat (first | refine blk_drewN ?_ _ | refine blk_drew ?_ | refine blk_alloc ?_ _));exact BK101.out⟩,⟨by repeat (first | (with_reducible first | exact HB.out | apply below_alloc | apply pw_below_drewN | apply below_drew1 | refine below_set ?_ GE101.out) | exact HB.out)⟩⟩
             ·rw [if_neg c43] at H
              have c43b0 : ((Go.bits .and .i64 (ji40) 1) == (Go.bits .and .i64 (ji42) 1)) = false := beq_eq_false_iff_ne.mpr c43
              have c43b1 : ((Go.bits .and .i64 (ji40) 1) != (Go.bits .and .i64 (ji42) 1)) = true := bne_iff_ne.mpr c43
              obtain rfl := Option.some.inj H
              have hcz45_0 : wr.cell? ⟨gb101,0,none⟩ = some (.int .i64 a0_0) := (blk_cell BK101.out 0).trans rfl
              have hcz45_1 : wr.cell? ⟨gb101,1,none⟩ = some (.int .i64 a0_1) := (blk_cell BK101.out 1).trans rfl
              have hfz45_0 := blk_frozen BK101.out 0
              have hfz45_1 := blk_frozen BK101.out 1
              go_wp2
              repeat (go_quiet (fail);try go_wp2)
              go_ret
              exact ⟨by first | rfl | (simp [errW_none,errW_some] <;> rfl) | (simp only [← hji21,← hji24,← hji26,← hji36,← hji38,← hji40,← hji42];first | rfl | (simp [errW_none,errW_some] <;> rfl)) | (simp [*,errW_none,errW_some] <;> rfl),by repeat (first | (with_reducible first | exact HB.out | apply below_alloc | apply pw_below_drewN | apply below_drew1 | refine below_set ?_ GE101.out) | exact HB.out)⟩
            ·rw [if_neg c41] at H
             exact absurd H (by simp)
           ·rw [if_neg c39] at H
            exact absurd H (by simp)
         ·rw [if_neg c25] at H
          exact absurd H (by simp)
        ·rw [if_neg c23] at H
         exact absurd H (by simp)
       ·rw [if_neg c22] at H
        have c22b0 : decide (x7_2 < (ji21)) = false := decide_eq_false c22
        clear c22
        obtain rfl := Option.some.inj H
        have hcz46_0 : wr.cell? ⟨gb101,0,none⟩ = some (.int .i64 a0_0) := (blk_cell BK101.out 0).trans rfl
        have hcz46_1 : wr.cell? ⟨gb101,1,none⟩ = some (.int .i64 a0_1) := (blk_cell BK101.out 1).trans rfl
        have hfz46_0 := blk_frozen BK101.out 0
        have hfz46_1 := blk_frozen BK101.out 1
        go_wp2
        repeat (go_quiet (fail);try go_wp2)
        go_ret
        exact ⟨by first | rfl | (simp [errW_none,errW_some] <;> rfl) | (simp only [← hji21];first | rfl | (simp [errW_none,errW_some] <;> rfl)) | (simp [*,errW_none,errW_some] <;> rfl),by repeat (first | (with_reducible first | exact HB.out | apply below_alloc | apply pw_below_drewN | apply below_drew1 | refine below_set ?_ GE101.out) | exact HB.out)⟩
      ·rw [if_neg c20] at H
       exact absurd H (by simp)
end Go.Proofs.Ythlajlhjofjmcaa.F
