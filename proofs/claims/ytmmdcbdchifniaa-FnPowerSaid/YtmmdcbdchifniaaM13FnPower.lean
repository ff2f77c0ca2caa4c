/- Walks of Go functions and lemmas on what they compute, for the row of FnPower (a part of several): each call ends as the Lean function of its name tells; the conditions are those of each theorem. -/
import Derived.Test.YtmmdcbdchifniaaM1FnPower
import Derived.Test.YtmmdcbdchifniaaM2FnPower
import Derived.Test.YtmmdcbdchifniaaM3FnPower
import Derived.Test.YtmmdcbdchifniaaM4FnPower
import Derived.Test.YtmmdcbdchifniaaM6FnPower
import Derived.Test.YtmmdcbdchifniaaM8FnPower
import Derived.Test.YtmmdcbdchifniaaM12FnPower
namespace Go.Proofs.Ytmmdcbdchifniaa.F
open Go.RowKit Go.Proofs.YtmmdcbdchifniaaW.PrintWords Go.Proofs.YtmmdcbdchifniaaW.PrintLast Go.Proofs.YtmmdcbdchifniaaW.PrintMore
attribute [local go_sem] max2_int min2_int max_two min_two max_three min_three max_four min_four 
set_option linter.unusedVariables false
set_option linter.unusedSimpArgs false
attribute [local go_sem high] eqA25
mutual
def impl_AreExchangeable.j0 : Nat → Int → Int → Bool → Int → Int → Option (Bool)
 | 0,_,_,_,_,_ => none
 | k + 1,x1,x2,x18,x102000,x102001 => if x18 = true then (some false) else (if 0 ≤ x102000 then (if (x102000 : Int).toNat ≤ 35184372088832 then ((some (List.replicate (x102000 : Int).toNat 0 : List Int)).bind fun y104 => (impl_AreExchangeable.l0 k x1 x2 y104 (y104.length : Int) 0 x102000 x102001)) else (none)) else (none))
def impl_AreExchangeable.l0 : Nat → Int → Int → List Int → Int → Int → Int → Int → Option (Bool)
 | 0,_,_,_,_,_,_,_ => none
 | k + 1,x1,x2,x7,x23,x24,x102000,x102001 => if x24 < x23 then (if 0 ≤ x24 then (if x24 < (x7.length : Int) then (impl_AreExchangeable.l0 k x1 x2 (x7.set (x24 : Int).toNat x24) x23 (wrap64 (x24 + 1)) x102000 x102001) else (none)) else (none)) else (if 0 ≤ x1 then (if x1 < (x7.length : Int) then (if 0 ≤ x2 then (if x2 < (x7.length : Int) then ((impl_Table_permute.f k x102000 x102001 ((x7.set (x1 : Int).toNat x2).set (x2 : Int).toNat x1)).bind fun bt110 => (some (bt110.1 == x102000 && (bt110.2 == x102001)))) else (none)) else (none)) else (none)) else (none))
end
def impl_AreExchangeable.f (k : Nat) (a0_0 : Int) (a0_1 : Int) (a1 : Int) (a2 : Int) : Option (Bool) := (impl_hasVariable.f a0_0 a0_1 a1).bind fun t102 => (if t102 = true then ((impl_hasVariable.f a0_0 a0_1 a2).bind fun t103 => (impl_AreExchangeable.j0 k a1 a2 (!t103) a0_0 a0_1)) else (impl_AreExchangeable.j0 k a1 a2 true a0_0 a0_1))
set_option maxHeartbeats 8000000 in
set_option maxRecDepth 100000 in
theorem impl_AreExchangeable.calls (k : Nat) (a0_0 : Int) (a0_1 : Int) (a1 : Int) (a2 : Int) (r : Bool) (w : World) (h : impl_AreExchangeable.f k a0_0 a0_1 a1 a2 = some r) :
  Calls Try.prog 23 #[.agg #[.int .i64 a0_0,.int .i64 a0_1],.int .i64 a1,.int .i64 a2] w fun e w' => e = .returned (.bool r) ∧ Below w.heap.size w w' := by
 have hu25 := Try.underlying25
 have HB := aZ_ (Below.refl w.heap.size w)
 have H : ((impl_hasVariable.f a0_0 a0_1 a1).bind fun t102 => (if t102 = true then ((impl_hasVariable.f a0_0 a0_1 a2).bind fun t103 => (impl_AreExchangeable.j0 k a1 a2 (!t103) a0_0 a0_1)) else (impl_AreExchangeable.j0 k a1 a2 true a0_0 a0_1))) = some r := h
 clear h
 have HC4 := aZ_ H
 clear H
 go_enter Try.func23,Try.ntmps23
 go_upto_region 1 with (first | ((with_reducible refine gate_dst (N := 3) rfl ?_);refine box_event ?hg (N := 3) ?hd (cs := #[.int .i64 a0_0,.int .i64 a0_1]) (t := 25) ?hr ?_;(case hd => rfl);(case hg => rfl);(case hr => first | (go_simp;done) | (go_simp;rfl));intro gb101 hg w5 hbox hb;have n0_ := aZ_ (below_step T5_ hb);have n1_ := aZ_ (hbox);have n2_ := aZ_ ((T3_ : w.heap.size ≤ gb101));have n3_ := aZ_ ((T3_ : w.heap.size ≤ gb101));clear HB;have HB := n0_;have BK101 := n1_;have GW101 := n2_;have GE101 := n3_;clear n0_ n1_ n2_ n3_;clear hb hbox hg))
 (try simp only [Act.put,List.setIfInBounds_toArray,List.set_cons_zero,List.set_cons_succ])
 go_cut [18] (fun v18 wc => ∃ (kq : Nat) (x18_3 : Bool),v18 = .bool x18_3 ∧ Aside0 (impl_AreExchangeable.j0 kq a1 a2 x18_3 a0_0 a0_1 = some r) ∧ Aside0 (kq ≤ k) ∧ Aside0 (wc.heap[gb101]? = some (.cells #[.int .i64 a0_0,.int .i64 a0_1] 25 (0,0))) ∧ Aside0 (Below w.heap.size w wc))
 case first =>
  have H := HC4.out
  clear HC4
  replace H := Option.bind_eq_some_iff.mp H
  obtain ⟨t102,A60,H⟩ := H
  replace H : (if t102 = true then ((impl_hasVariable.f a0_0 a0_1 a2).bind fun t103 => (impl_AreExchangeable.j0 k a1 a2 (!t103) a0_0 a0_1)) else (impl_AreExchangeable.j0 k a1 a2 true a0_0 a0_1)) = some r := H
  have A6 := aZ_ A60
  clear A60
  by_cases c7 : t102 = true
  ·subst c7
   have H1 : ((impl_hasVariable.f a0_0 a0_1 a2).bind fun t103 => (impl_AreExchangeable.j0 k a1 a2 (!t103) a0_0 a0_1)) = some r := by rw [if_pos rfl] at H;exact H
   clear H
   have H := H1
   clear H1
   replace H := Option.bind_eq_some_iff.mp H
   obtain ⟨t103,A80,H⟩ := H
   replace H : (impl_AreExchangeable.j0 k a1 a2 (!t103) a0_0 a0_1) = some r := H
   have A8 := aZ_ A80
   clear A80
   have H' := aZ_ H
   clear H
   have hcz9_0 : w5.cell? ⟨gb101,0,none⟩ = some (.int .i64 a0_0) := (blk_cell BK101.out 0).trans rfl
   have hcz9_1 : w5.cell? ⟨gb101,1,none⟩ = some (.int .i64 a0_1) := (blk_cell BK101.out 1).trans rfl
   have hfz9_0 := blk_frozen BK101.out 0
   have hfz9_1 := blk_frozen BK101.out 1
   go_wp2_with (first | ((with_reducible refine gate_callee (f := 47) rfl ?_);refine goesL_ (some 11) rfl rfl Try.func47 T12_ rfl #[.agg #[.int .i64 a0_0,.int .i64 a0_1],.int .i64 a1] rfl T4_ ?_;(with_reducible refine (impl_hasVariable.calls a0_0 a0_1 a1 true _ A6.out).mono ?_);rintro e w10 ⟨rfl,hb⟩;refine ⟨_,rfl,?_⟩;have n0_ := aZ_ (blk_below (g := gb101) (o := .cells #[.int .i64 a0_0,.int .i64 a0_1] 25 (0,0)) T2_ hb);have n1_ := aZ_ (below_step T1_ hb);clear BK101;clear HB;have BK101 := n0_;have HB := n1_;clear n0_ n1_;(try clear hb);(try clear hb2);(try clear hk);(try clear hi);have hcz11_0 : w10.cell? ⟨gb101,0,none⟩ = some (.int .i64 a0_0) := (blk_cell BK101.out 0).trans rfl;have hcz11_1 : w10.cell? ⟨gb101,1,none⟩ = some (.int .i64 a0_1) := (blk_cell BK101.out 1).trans rfl;have hfz11_0 := blk_frozen BK101.out 0;have hfz11_1 := blk_frozen BK101.out 1) | (go_at_call 47;(with_reducible refine (impl_hasVariable.calls a0_0 a0_1 a2 t103 _ A8.out).mono ?_);rintro e w12 ⟨rfl,hb⟩;have n0_ := aZ_ (blk_below (g := gb101) (o := .cells #[.int .i64 a0_0,.int .i64 a0_1] 25 (0,0)) T2_ hb);have n1_ := aZ_ (below_step T1_ hb);clear BK101;clear HB;have BK101 := n0_;have HB := n1_;clear n0_ n1_;(try clear hb);(try clear hb2);(try clear hk);(try clear hi)))
   go_meet
   case rel => exact ⟨_,(!t103),T6_,H',⟨by first | omega | exact Nat.le_refl _⟩,⟨by (with_reducible repeat (first | refine blk_drewN ?_ _ | refine blk_drew ?_ | refine blk_alloc ?_ _));exact BK101.out⟩,⟨by repeat (first | (with_reducible first | exact HB.out | apply below_alloc | apply pw_below_drewN | apply below_drew1 | refine below_set ?_ GE101.out) | exact HB.out)⟩⟩
  ·replace c7 := Bool.eq_false_iff.mpr c7
   subst c7
   have H1 : (impl_AreExchangeable.j0 k a1 a2 true a0_0 a0_1) = some r := by rw [if_neg (show ¬ (false = true) by decide)] at H;exact H
   clear H
   have H := H1
   clear H1
   have H' := aZ_ H
   clear H
   have hcz13_0 : w5.cell? ⟨gb101,0,none⟩ = some (.int .i64 a0_0) := (blk_cell BK101.out 0).trans rfl
   have hcz13_1 : w5.cell? ⟨gb101,1,none⟩ = some (.int .i64 a0_1) := (blk_cell BK101.out 1).trans rfl
   have hfz13_0 := blk_frozen BK101.out 0
   have hfz13_1 := blk_frozen BK101.out 1
   go_wp2_with (first | ((with_reducible refine gate_callee (f := 47) rfl ?_);refine goesL_ (some 11) rfl rfl Try.func47 T12_ rfl #[.agg #[.int .i64 a0_0,.int .i64 a0_1],.int .i64 a1] rfl T4_ ?_;(with_reducible refine (impl_hasVariable.calls a0_0 a0_1 a1 false _ A6.out).mono ?_);rintro e w14 ⟨rfl,hb⟩;refine ⟨_,rfl,?_⟩;have n0_ := aZ_ (blk_below (g := gb101) (o := .cells #[.int .i64 a0_0,.int .i64 a0_1] 25 (0,0)) T2_ hb);have n1_ := aZ_ (below_step T1_ hb);clear BK101;clear HB;have BK101 := n0_;have HB := n1_;clear n0_ n1_;(try clear hb);(try clear hb2);(try clear hk);(try clear hi)))
   go_meet
   case rel => exact ⟨_,(true),T6_,H',⟨by first | omega | exact Nat.le_refl _⟩,⟨by (with_reducible repeat (first | refine blk_drewN ?_ _ | refine blk_drew ?_ | refine blk_alloc ?_ _));exact BK101.out⟩,⟨by repeat (first | (with_reducible first | exact HB.out | apply below_alloc | apply pw_below_drewN | apply below_drew1 | refine below_set ?_ GE101.out) | exact HB.out)⟩⟩
 case rest =>
  clear HC4
  try clear c2
  try clear p2
  try clear c4
  try clear c7
  try clear hcz11_0
  try clear hcz11_1
  try clear hcz13_0
  try clear hcz13_1
  try clear hcz9_0
  try clear hcz9_1
  try clear hfz11_0
  try clear hfz11_1
  try clear hfz13_0
  try clear hfz13_1
  try clear hfz9_0
  try clear hfz9_1
  obtain ⟨kq,x18_3,rfl,HA,HJ3,BK101,HB⟩ := hcut
  cases kq with
  | zero => exact absurd HA.out (by simp [impl_AreExchangeable.j0])
  | succ kj3 =>
   have H := HA.out
   clear HA
   simp only [impl_AreExchangeable.j0] at H
   by_cases c15 : x18_3 = true
   ·subst c15
    have H1 : (some false) = some r := by rw [if_pos rfl] at H;exact H
    clear H
    have H := H1
    clear H1
    obtain rfl := Option.some.inj H
    go_wp2
    go_ret
    exact ⟨by first | rfl | (simp [errW_none,errW_some] <;> rfl) | (simp [*,errW_none,errW_some] <;> rfl),by repeat (first | (with_reducible first | exact HB.out | apply below_alloc | apply pw_below_drewN | apply below_drew1 | refine below_set ?_ GE101.out) | exact HB.out)⟩
   ·replace c15 := Bool.eq_false_iff.mpr c15
    subst c15
    have H1 : (if 0 ≤ a0_0 then (if (a0_0 : Int).toNat ≤ 35184372088832 then ((some (List.replicate (a0_0 : Int).toNat 0 : List Int)).bind fun y104 => (impl_AreExchangeable.l0 kj3 a1 a2 y104 (y104.length : Int) 0 a0_0 a0_1)) else (none)) else (none)) = some r := by rw [if_neg (show ¬ (false = true) by decide)] at H;exact H
    clear H
    have H := H1
    clear H1
    by_cases c16 : 0 ≤ a0_0
    ·rw [if_pos c16] at H
     have c16b0 := eq_true c16
     have c16b1 : decide (0 ≤ a0_0) = true := decide_eq_true c16
     clear c16
     by_cases c17 : (a0_0 : Int).toNat ≤ 35184372088832
     ·rw [if_pos c17] at H
      have c17b0 := eq_true c17
      have c17b1 : decide ((a0_0 : Int).toNat ≤ 35184372088832) = true := decide_eq_true c17
      clear c17
      obtain ⟨y104,hy104⟩ : ∃ y_ : List Int,y_ = (List.replicate (a0_0 : Int).toNat 0) := ⟨_,rfl⟩
      replace H : (impl_AreExchangeable.l0 kj3 a1 a2 y104 (y104.length : Int) 0 a0_0 a0_1) = some r := by first | (rw [hy104];with_reducible exact H) | (have H2_ := (Option.bind_some _ _).symm.trans H;rw [hy104];with_reducible exact H2_) | (have H2_ := (Option.bind_some _ _).symm.trans H;with_reducible exact H2_) | with_reducible exact H | (rw [hy104];exact H) | exact H
      have Ny104 := aZ_ hy104
      clear hy104
      have H' := aZ_ H
      clear H
      have hcz18_0 : wc.cell? ⟨gb101,0,none⟩ = some (.int .i64 a0_0) := (blk_cell BK101.out 0).trans rfl
      have hcz18_1 : wc.cell? ⟨gb101,1,none⟩ = some (.int .i64 a0_1) := (blk_cell BK101.out 1).trans rfl
      have hfz18_0 := blk_frozen BK101.out 0
      have hfz18_1 := blk_frozen BK101.out 1
      go_wp2_with (first | ((with_reducible refine gate_dst (N := 21) rfl ?_);refine Kd.R_make (Kd.int .i64) _ 3 rfl (N := 21) rfl 27 _ _ rfl a0_0 rfl rfl Try.underlying27 (.int .i64 0) 8 info3 rfl T35_ T50_ 0 (ok := fun _ => True) (okp := fun _ => True) rfl (fun _ hk => hk) trivial (of_decide_eq_true T13_) (Nat.le_trans (Nat.mul_le_mul_right _ (of_decide_eq_true T13_ : a0_0.toNat ≤ 35184372088832)) T50_) (Below.refl _ _) (Nat.le_refl _) ?_;intro v105 w19 ho20 hb hg_ hnew_;clear hg_ hnew_;(first | rw [← Ny104.out] at ho20 | (simp only [Int.reduceToNat] at ho20;rw [← Ny104.out] at ho20));have n0_ := aZ_ (Kd.R_lower ho20 (below_size T1_));have n1_ := aZ_ (blk_below (g := gb101) (o := .cells #[.int .i64 a0_0,.int .i64 a0_1] 25 (0,0)) T2_ hb);have n2_ := aZ_ (below_step T1_ hb);clear BK101;clear HB;have HO106 := n0_;have BK101 := n1_;have HB := n2_;clear n0_ n1_ n2_;clear hb ho20;obtain ⟨Ao21,co21,eo21⟩ := Kd.R_slice HO106.out;subst eo21))
      go_loopg [24] kj3 (fun kq v24 w' => ∃ (x7_2 : List Int) (x24_2 : Int),v24 = .int .i64 x24_2 ∧ Aside0 (impl_AreExchangeable.l0 kq a1 a2 x7_2 (y104.length : Int) x24_2 a0_0 a0_1 = some r) ∧ Aside0 (kq ≤ kj3) ∧ Aside0 (Kd.R (Kd.int .i64) 3 w' w.heap.size (fun _ => True) (.slice Ao21 y104.length co21) x7_2) ∧ Aside0 (w'.heap[gb101]? = some (.cells #[.int .i64 a0_0,.int .i64 a0_1] 25 (0,0))) ∧ Aside0 (Below w.heap.size w w'))
      case atStart => exact ⟨(y104),(0),T6_,H',⟨Nat.le_refl _⟩,⟨by (with_reducible repeat (first | apply Kd.R_alloc | apply Kd.R_drewN | apply Kd.R_drew));exact HO106.out⟩,⟨by (with_reducible repeat (first | refine blk_drewN ?_ _ | refine blk_drew ?_ | refine blk_alloc ?_ _));exact BK101.out⟩,⟨by repeat (first | (with_reducible first | exact HB.out | apply below_alloc | apply pw_below_drewN | apply below_drew1 | refine below_set ?_ GE101.out) | exact HB.out)⟩⟩
      case round =>
       clear H'
       try clear c1
       try clear c2
       try clear p2
       try clear c4
       try clear c7
       try clear c15
       try clear c16
       try clear c16b0
       try clear c16b1
       try clear c17
       try clear c17b0
       try clear c17b1
       try clear hcz11_0
       try clear hcz11_1
       try clear hcz13_0
       try clear hcz13_1
       try clear hcz18_0
       try clear hcz18_1
       try clear hcz9_0
       try clear hcz9_1
       try clear hfz11_0
       try clear hfz11_1
       try clear hfz13_0
       try clear hfz13_1
       try clear hfz18_0
       try clear hfz18_1
       try clear hfz9_0
       try clear hfz9_1
       try clear p2
       obtain ⟨x7_2,x24_2,rfl,HA,HK2,HO_7,BK101,HB⟩ := hrel
       have hl7_2 := (Kd.R_reads' HO_7.out).1
       rw [hl7_2] at HO_7
       (try simp only [hl7_2])
       (try simp only [hl7_2] at BK101)
       cases gk with
       | zero => exact absurd HA.out (by simp [impl_AreExchangeable.l0])
       | succ k2 =>
        have H := HA.out
        clear HA
        simp only [impl_AreExchangeable.l0] at H
        by_cases c22 : x24_2 < (y104.length : Int)
        ·rw [if_pos c22] at H
         have c22b0 : decide (x24_2 < (y104.length : Int)) = true := decide_eq_true c22
         (try rw [hl7_2] at c22b0)
         clear c22
         by_cases c23 : 0 ≤ x24_2
         ·rw [if_pos c23] at H
          have c23b0 : decide (0 ≤ x24_2) = true := decide_eq_true c23
          clear c23
          by_cases c24 : x24_2 < (x7_2.length : Int)
          ·rw [if_pos c24] at H
           have c24b0 : decide (x24_2 < (x7_2.length : Int)) = true := decide_eq_true c24
           (try rw [hl7_2] at c24b0)
           clear c24
           obtain ⟨y107,hy107⟩ : ∃ y_ : List Int,y_ = (x7_2.set (x24_2 : Int).toNat x24_2) := ⟨_,rfl⟩
           replace H : (impl_AreExchangeable.l0 k2 a1 a2 y107 (y104.length : Int) (wrap64 (x24_2 + 1)) a0_0 a0_1) = some r := by first | (rw [hy107];with_reducible exact H) | (have H2_ := (Option.bind_some _ _).symm.trans H;rw [hy107];with_reducible exact H2_) | (have H2_ := (Option.bind_some _ _).symm.trans H;with_reducible exact H2_) | with_reducible exact H | (rw [hy107];exact H) | exact H
           have Ny107 := aZ_ hy107
           clear hy107
           have H' := aZ_ H
           clear H
           have p25 : 0 ≤ (x24_2 : Int) := of_decide_eq_true T13_
           have q25 : (x24_2 : Int) < ((x7_2.length : Int) : Int) := of_decide_eq_true T13_
           obtain ⟨go25,co25,eo25,gb25,gl25,cl25,HG25⟩ := Kd.R_form HO_7.out T50_
           (first | cases eo25 | (injection eo25 with ea_ en_ ec_;(first | subst ea_ | (injection ea_ with ea_;subst ea_));subst ec_;clear en_))
           have GB25 := aZ_ gb25
           have GG25 := aZ_ HG25
           clear gb25 gl25 HG25
           obtain ⟨hx25_0,hf25_0⟩ := Kd.R_celln 0 HO_7.out (x24_2 : Int) p25 q25
           replace p25 := eq_true p25
           replace q25 := eq_true q25
           have HP26 := Kd.R_putg HO_7.out (x24_2 : Int) x24_2
           go_wp2_with (first | ((with_reducible refine gate_store (t := 3) (p := 30) rfl ?_);refine store_event (t := 3) (p := 30) (v := ?vo_w27) (w1 := (wr.setCell ⟨go25,(x24_2 : Int).toNat,none⟩ (.int .i64 x24_2))) ?hg ?ho ?hn ?hr ?_;(case ho => rfl);(case hg => rfl);(case hn => rfl);(case hr => first | (go_simp;done) | (go_simp;rfl));intro w27 hw;have hg : wr.grownBy w27 (some go25) := (by rw [hw];exact HP26.2);have hp_ : Kd.R (Kd.int .i64) 3 w27 w.heap.size (fun _ => True) (.slice (some ⟨go25,0,none⟩) x7_2.length co21) y107 := (by rw [hw,Ny107.out];exact HP26.1);clear HP26;have n0_ := aZ_ (hp_);have n1_ := aZ_ (blk_grown (g := gb101) (o := .cells #[.int .i64 a0_0,.int .i64 a0_1] 25 (0,0)) T2_ hg (Kd.R_ne HO_7.out BK101.out T35_));have n2_ := aZ_ ((by rw [hw];exact below_set (HB.out) GB25.out : Below w.heap.size w w27));clear HO_7;clear BK101;clear HB;have HO_7 := n0_;have BK101 := n1_;have HB := n2_;clear n0_ n1_ n2_;clear hg hw hp_))
           (try simp only [← hl7_2])
           go_roundg k2
           case measure => have := HJ3.out;have := HK2.out;omega
           case rel => exact ⟨(y107),(wrap64 (x24_2 + 1)),T6_,H',⟨by have := HJ3.out;have := HK2.out;omega⟩,⟨by (try simp only [hl7_2]);(with_reducible repeat (first | apply Kd.R_alloc | apply Kd.R_drewN | apply Kd.R_drew));exact HO_7.out⟩,⟨by (try simp only [hl7_2]);(with_reducible repeat (first | refine blk_drewN ?_ _ | refine blk_drew ?_ | refine blk_alloc ?_ _));exact BK101.out⟩,⟨by repeat (first | (with_reducible first | exact HB.out | apply below_alloc | apply pw_below_drewN | apply below_drew1 | refine below_set ?_ GE101.out) | exact HB.out)⟩⟩
          ·rw [if_neg c24] at H
           exact absurd H T40_
         ·rw [if_neg c23] at H
          exact absurd H T40_
        ·rw [if_neg c22] at H
         have c22b0 : decide (x24_2 < (y104.length : Int)) = false := decide_eq_false c22
         (try rw [hl7_2] at c22b0)
         clear c22
         by_cases c28 : 0 ≤ a1
         ·rw [if_pos c28] at H
          have c28b0 : decide (0 ≤ a1) = true := decide_eq_true c28
          clear c28
          by_cases c29 : a1 < (x7_2.length : Int)
          ·rw [if_pos c29] at H
           have c29b0 : decide (a1 < (x7_2.length : Int)) = true := decide_eq_true c29
           (try rw [hl7_2] at c29b0)
           clear c29
           obtain ⟨y108,hy108⟩ : ∃ y_ : List Int,y_ = (x7_2.set (a1 : Int).toNat a2) := ⟨_,rfl⟩
           replace H : (if 0 ≤ a2 then (if a2 < (x7_2.length : Int) then ((impl_Table_permute.f k2 a0_0 a0_1 (y108.set (a2 : Int).toNat a1)).bind fun bt110 => (some (bt110.1 == a0_0 && (bt110.2 == a0_1)))) else (none)) else (none)) = some r := by first | (rw [hy108];with_reducible exact H) | (have H2_ := (Option.bind_some _ _).symm.trans H;rw [hy108];with_reducible exact H2_) | (have H2_ := (Option.bind_some _ _).symm.trans H;with_reducible exact H2_) | with_reducible exact H | (rw [hy108];exact H) | exact H
           have Ny108 := aZ_ hy108
           clear hy108
           by_cases c31 : 0 ≤ a2
           ·rw [if_pos c31] at H
            have c31b0 : decide (0 ≤ a2) = true := decide_eq_true c31
            clear c31
            by_cases c32 : a2 < (x7_2.length : Int)
            ·rw [if_pos c32] at H
             have c32b0 : decide (a2 < (x7_2.length : Int)) = true := decide_eq_true c32
             (try rw [hl7_2] at c32b0)
             clear c32
             obtain ⟨y109,hy109⟩ : ∃ y_ : List Int,y_ = (y108.set (a2 : Int).toNat a1) := ⟨_,rfl⟩
             replace H : ((impl_Table_permute.f k2 a0_0 a0_1 y109).bind fun bt110 => (some (bt110.1 == a0_0 && (bt110.2 == a0_1)))) = some r := by first | (rw [hy109];with_reducible exact H) | (have H2_ := (Option.bind_some _ _).symm.trans H;rw [hy109];with_reducible exact H2_) | (have H2_ := (Option.bind_some _ _).symm.trans H;with_reducible exact H2_) | with_reducible exact H | (rw [hy109];exact H) | exact H
             have Ny109 := aZ_ hy109
             clear hy109
             replace H := Option.bind_eq_some_iff.mp H
             obtain ⟨⟨t110,t111⟩,A340,H⟩ := H
             replace H : (some (t110 == a0_0 && (t111 == a0_1))) = some r := H
             have A34 := aZ_ A340
             clear A340
             obtain rfl := Option.some.inj H
             have p30 : 0 ≤ (a1 : Int) := of_decide_eq_true T13_
             have q30 : (a1 : Int) < ((x7_2.length : Int) : Int) := of_decide_eq_true T13_
             obtain ⟨go30,co30,eo30,gb30,gl30,cl30,HG30⟩ := Kd.R_form HO_7.out T50_
             (first | cases eo30 | (injection eo30 with ea_ en_ ec_;(first | subst ea_ | (injection ea_ with ea_;subst ea_));subst ec_;clear en_))
             have GB30 := aZ_ gb30
             have GG30 := aZ_ HG30
             clear gb30 gl30 HG30
             obtain ⟨hx30_0,hf30_0⟩ := Kd.R_celln 0 HO_7.out (a1 : Int) p30 q30
             replace p30 := eq_true p30
             replace q30 := eq_true q30
             have HP35 := Kd.R_putg HO_7.out (a1 : Int) a2
             try go_wp2_with (first | ((with_reducible refine gate_store (t := 3) (p := 38) rfl ?_);refine store_event (t := 3) (p := 38) (v := ?vo_w36) (w1 := (wr.setCell ⟨go30,(a1 : Int).toNat,none⟩ (.int .i64 a2))) ?hg ?ho ?hn ?hr ?_;(case ho => rfl);(case hg => rfl);(case hn => rfl);(case hr => first | (go_simp;done) | (go_simp;rfl));intro w36 hw;have hg : wr.grownBy w36 (some go30) := (by rw [hw];exact HP35.2);have hp_ : Kd.R (Kd.int .i64) 3 w36 w.heap.size (fun _ => True) (.slice (some ⟨go30,0,none⟩) x7_2.length co21) y108 := (by rw [hw,Ny108.out];exact HP35.1);clear HP35;have n0_ := aZ_ (hp_);have n1_ := aZ_ (blk_grown (g := gb101) (o := .cells #[.int .i64 a0_0,.int .i64 a0_1] 25 (0,0)) T2_ hg (Kd.R_ne HO_7.out BK101.out T35_));have n2_ := aZ_ ((by rw [hw];exact below_set (HB.out) GB30.out : Below w.heap.size w w36));clear HO_7;clear BK101;clear HB;have HO_7 := n0_;have BK101 := n1_;have HB := n2_;clear n0_ n1_ n2_;clear hg hw hp_;have p33 : 0 ≤ (a2 : Int) := of_decide_eq_true T13_;have q33 : (a2 : Int) < ((x7_2.length : Int) : Int) := of_decide_eq_true T13_;obtain ⟨hx33_0,hf33_0⟩ := Kd.R_celln 0 HO_7.out (a2 : Int) p33 q33;replace p33 := eq_true p33;replace q33 := eq_true q33;obtain ⟨hy37_,hz37_⟩ := Kd.R_celln 0 HO_7.out (a2 : Int) (of_decide_eq_true T13_) (of_decide_eq_true T13_);have HP37 := Kd.R_putg HO_7.out (a2 : Int) a1) | ((with_reducible refine gate_store (t := 3) (p := 39) rfl ?_);refine store_event (t := 3) (p := 39) (v := ?vo_w38) (w1 := (w36.setCell ⟨go30,(a2 : Int).toNat,none⟩ (.int .i64 a1))) ?hg ?ho ?hn ?hr ?_;(case ho => rfl);(case hg => rfl);(case hn => rfl);(case hr => first | (go_simp;done) | (go_simp;rfl));intro w38 hw;have hg : w36.grownBy w38 (some go30) := (by rw [hw];exact HP37.2);have hp_ : Kd.R (Kd.int .i64) 3 w38 w.heap.size (fun _ => True) (.slice (some ⟨go30,0,none⟩) x7_2.length co21) y109 := (by rw [hw,Ny109.out];exact HP37.1);clear HP37;have n0_ := aZ_ (hp_);have n1_ := aZ_ (blk_grown (g := gb101) (o := .cells #[.int .i64 a0_0,.int .i64 a0_1] 25 (0,0)) T2_ hg (Kd.R_ne HO_7.out BK101.out T35_));have n2_ := aZ_ ((by rw [hw];exact below_set (HB.out) GB30.out : Below w.heap.size w w38));clear HO_7;clear BK101;clear HB;have HO_7 := n0_;have BK101 := n1_;have HB := n2_;clear n0_ n1_ n2_;clear hg hw hp_))
             have n0_ := aZ_ (Kd.R_drew HO_7.out)
             have n1_ := aZ_ (blk_drew BK101.out)
             have n2_ := aZ_ (below_drew1 HB.out)
             clear HO_7
             clear BK101
             clear HB
             have HO_7 := n0_
             have BK101 := n1_
             have HB := n2_
             clear n0_ n1_ n2_
             refine start_ (n := 6) (S := fun w' => w'.cell? ⟨gb101,0,none⟩ = some (.int .i64 a0_0) ∧ w'.cell? ⟨gb101,1,none⟩ = some (.int .i64 a0_1)) (ds := []) #[false,false,false,false,false,false] T12_ rfl rfl ⟨(blk_cell BK101.out 0).trans rfl,(blk_cell BK101.out 1).trans rfl⟩ (fun hHeld => ?_)
             generalize w38.drew = w39 at HO_7 BK101 HB hHeld ⊢
             refine pZ_ 1 (some 41) #[false,true,false,false,false,false] ?_
             refine tZ2_ 0 (some 40) #[true,true,false,false,false,false] hHeld ?_
             refine tZ2_ 3 (some 43) #[true,true,false,true,false,false] hHeld ?_
             refine one_ (i := 2) (N := some 42) #[true,true,true,true,false,false] rfl rfl T12_ T35_ (fun K hK => ?_)
             refine goes_ Try.func48 T12_ rfl #[.agg #[.int .i64 a0_0,.int .i64 a0_1],.slice (some ⟨go30,0,none⟩) y109.length co21] (by rfl) rfl rfl (by (try simp only [List.map_toArray,List.map_cons,List.map_nil]);first | done | (rw [show y109.length = x7_2.length from (Kd.R_reads' HO_7.out).1.symm] <;> rfl) | rfl | (simp only [List.length_drop,List.length_take];rfl)) ?_
             with_reducible refine (impl_Table_permute.calls k2 a0_0 a0_1 _ _ y109 t110 t111 _ ?side1 ?side2 A34.out).mono ?_
             (case side1 => repeat (first | exact (Kd.R_reads' HO_7.out).2.2 | (with_reducible refine Kd.C_alloc ?_ _) | (with_reducible refine Kd.C_drewN ?_ _) | (with_reducible refine Kd.C_drew ?_)))
             (case side2 => rw [show y109.length = x7_2.length from (Kd.R_reads' HO_7.out).1.symm];exact (Kd.R_reads' HO_7.out).2.1)
             rintro e w40 ⟨rfl,hb⟩
             refine ⟨_,rfl,?_⟩
             have n0_ := aZ_ (Kd.R_below (by (with_reducible repeat (first | apply Kd.R_alloc | apply Kd.R_drewN | apply Kd.R_drew));exact HO_7.out) hb)
             have n1_ := aZ_ (blk_below (g := gb101) (o := .cells #[.int .i64 a0_0,.int .i64 a0_1] 25 (0,0)) T2_ hb)
             have n2_ := aZ_ (below_step T1_ hb)
             clear HO_7
             clear BK101
             clear HB
             have HO_7 := n0_
             have BK101 := n1_
             have HB := n2_
             clear n0_ n1_ n2_
             (try clear hb)
             (try clear hb2)
             (try clear hk)
             (try clear hi)
             refine hK.out _ _ ⟨(blk_cell BK101.out 0).trans rfl,(blk_cell BK101.out 1).trans rfl⟩ (fun hHeld => ?_)
             clear hK K
             refine norm_ (a' := ?_) ?_ ?_
             rotate_left
             ·show Act.put _ (some 42) _ = _
              simp only [Act.put,List.setIfInBounds_toArray,List.set_cons_zero,List.set_cons_succ,i64_w,i32_w]
              rfl
             refine pZ_ 4 (some 44) #[true,true,true,true,true,false] ?_
             refine pZ_ 5 (some 6) #[true,true,true,true,true,true] ?_
             refine done_ T12_ ?_
             try go_wp2
             go_ret
             exact ⟨by first | rfl | (simp [errW_none,errW_some] <;> rfl) | (simp [*,errW_none,errW_some] <;> rfl),by repeat (first | (with_reducible first | exact HB.out | apply below_alloc | apply pw_below_drewN | apply below_drew1 | refine below_set ?_ GE101.out) | exact HB.out)⟩
            ·rw [if_neg c32] at H
             exact absurd H T40_
           ·rw [if_neg c31] at H
            exact absurd H T40_
          ·rw [if_neg c29] at H
           exact absurd H T40_
         ·rw [if_neg c28] at H
          exact absurd H T40_
     ·rw [if_neg c17] at H
      exact absurd H T40_
    ·rw [if_neg c16] at H
     exact absurd H T40_
end Go.Proofs.Ytmmdcbdchifniaa.F
namespace Go.Proofs.Ytmmdcbdchifniaa.F
open Go.RowKit Go.Proofs.YtmmdcbdchifniaaW.PrintWords Go.Proofs.YtmmdcbdchifniaaW.PrintLast Go.Proofs.YtmmdcbdchifniaaW.PrintMore
attribute [local go_sem] max2_int min2_int max_two min_two max_three min_three max_four min_four 
set_option linter.unusedVariables false
set_option linter.unusedSimpArgs false
def spec_DrawDesirabilityOf.f (k : Nat) (l0 : List Int) : Option (Int × Int × Int × Int) := (spec_l1New.f k l0).bind fun bt102 => ((spec_l17Draw.f k bt102.1 bt102.2.1 bt102.2.2).bind fun bt106 => ((spec_l1Below.f bt102.1 bt106.2.2.1 bt106.2.2.2 6).bind fun bt111 => ((spec_l1Below.f bt102.1 bt111.2.1 bt111.2.2 5).bind fun bt114 => (some (bt106.1,bt106.2.1,wrap64 (bt111.1 - 1),bt114.1)))))
set_option maxHeartbeats 8000000 in
set_option maxRecDepth 100000 in
theorem spec_DrawDesirabilityOf.calls (k : Nat) (A0 : Option Addr) (c0 : Nat) (l0 : List Int) (r1 : Int) (r2 : Int) (r3 : Int) (r4 : Int) (w : World) (hr0 : Kd.C (Kd.int .u8) w A0 l0.length l0) (hc0 : l0.length ≤ c0) (h : spec_DrawDesirabilityOf.f k l0 = some (r1,r2,r3,r4)) :
  Calls Try.prog 24 #[.slice A0 l0.length c0] w fun e w' => e = .returned (.tuple #[.agg #[.int .i64 r1,.int .i64 r2],.int .i64 r3,.int .i64 r4]) ∧ Below w.heap.size w w' := by
 have hu25 := Try.underlying25
 have HR0 := aZ_ hr0
 have HC0 := aZ_ hc0
 clear hr0 hc0
 have HB := aZ_ (Below.refl w.heap.size w)
 have H : ((spec_l1New.f k l0).bind fun bt102 => ((spec_l17Draw.f k bt102.1 bt102.2.1 bt102.2.2).bind fun bt106 => ((spec_l1Below.f bt102.1 bt106.2.2.1 bt106.2.2.2 6).bind fun bt111 => ((spec_l1Below.f bt102.1 bt111.2.1 bt111.2.2 5).bind fun bt114 => (some (bt106.1,bt106.2.1,wrap64 (bt111.1 - 1),bt114.1)))))) = some (r1,r2,r3,r4) := h
 clear h
 replace H := Option.bind_eq_some_iff.mp H
 obtain ⟨⟨t102,t103,t104⟩,A20,H⟩ := H
 replace H : ((spec_l17Draw.f k t102 t103 t104).bind fun bt106 => ((spec_l1Below.f t102 bt106.2.2.1 bt106.2.2.2 6).bind fun bt111 => ((spec_l1Below.f t102 bt111.2.1 bt111.2.2 5).bind fun bt114 => (some (bt106.1,bt106.2.1,wrap64 (bt111.1 - 1),bt114.1))))) = some (r1,r2,r3,r4) := H
 have A2 := aZ_ A20
 clear A20
 replace H := Option.bind_eq_some_iff.mp H
 obtain ⟨⟨t106,t107,t108,t109⟩,A30,H⟩ := H
 replace H : ((spec_l1Below.f t102 t108 t109 6).bind fun bt111 => ((spec_l1Below.f t102 bt111.2.1 bt111.2.2 5).bind fun bt114 => (some (t106,t107,wrap64 (bt111.1 - 1),bt114.1)))) = some (r1,r2,r3,r4) := H
 have A3 := aZ_ A30
 clear A30
 replace H := Option.bind_eq_some_iff.mp H
 obtain ⟨⟨t111,t112,t113⟩,A40,H⟩ := H
 replace H : ((spec_l1Below.f t102 t112 t113 5).bind fun bt114 => (some (t106,t107,wrap64 (t111 - 1),bt114.1))) = some (r1,r2,r3,r4) := H
 have A4 := aZ_ A40
 clear A40
 replace H := Option.bind_eq_some_iff.mp H
 obtain ⟨⟨t114,t115,t116⟩,A50,H⟩ := H
 replace H : (some (t106,t107,wrap64 (t111 - 1),t114)) = some (r1,r2,r3,r4) := H
 have A5 := aZ_ A50
 clear A50
 simp only [Option.some.injEq,Prod.mk.injEq] at H
 obtain ⟨rfl,rfl,rfl,rfl⟩ := H
 go_enter Try.func24,Try.ntmps24
 try go_wp2_with (first | ((with_reducible refine gate_dst (N := 2) rfl ?_);refine box_event ?hg (N := 2) ?hd (cs := #[.int .i64 0,.int .i64 0]) (t := 25) ?hr ?_;(case hd => rfl);(case hg => rfl);(case hr => first | (go_simp;done) | (go_simp;rfl));intro gb101 hg w6 hbox hb;have n0_ := aZ_ (below_step T5_ hb);have n1_ := aZ_ (hbox);have n2_ := aZ_ ((T3_ : w.heap.size ≤ gb101));have n3_ := aZ_ ((T3_ : w.heap.size ≤ gb101));clear HB;have HB := n0_;have BK101 := n1_;have GW101 := n2_;have GE101 := n3_;clear n0_ n1_ n2_ n3_;clear hb hbox hg) | ((with_reducible refine gate_callee (f := 28) rfl ?_);refine goesL_ (some 9) rfl rfl Try.func28 T12_ rfl #[.slice A0 l0.length c0] rfl T4_ ?_;(with_reducible refine (spec_l1New.calls k _ _ l0 t102 t103 t104 w _ ?side1 ?side2 ?side3 A2.out).mono ?_);(case side1 => repeat (first | (with_reducible first | exact HB.out | apply below_alloc | apply pw_below_drewN | apply below_drew1 | refine below_set ?_ GE101.out) | exact HB.out));(case side2 => exact HR0.out);(case side3 => exact HC0.out);rintro e w7 ⟨g105,rfl,hi,hb,hb2⟩;refine ⟨_,rfl,?_⟩;have n0_ := aZ_ (blk_below (g := gb101) (o := .cells #[.int .i64 0,.int .i64 0] 25 (0,0)) T2_ hb2);have n1_ := aZ_ (hb);have n2_ := aZ_ (hi);have n3_ := aZ_ (IsS59.ne_blk hi (blk_below (g := gb101) (o := .cells #[.int .i64 0,.int .i64 0] 25 (0,0)) T2_ hb2) T35_);have n4_ := aZ_ (Ne.symm (IsS59.ne_blk hi (blk_below (g := gb101) (o := .cells #[.int .i64 0,.int .i64 0] 25 (0,0)) T2_ hb2) T35_));clear BK101;clear HB;have BK101 := n0_;have HB := n1_;have HI105 := n2_;have NB105_101 := n3_;have NB101_105 := n4_;clear n0_ n1_ n2_ n3_ n4_;(try clear hb);(try clear hb2);(try clear hk);(try clear hi)) | ((with_reducible refine gate_callee (f := 27) rfl ?_);refine goesL_ (some 11) rfl rfl Try.func27 T12_ rfl #[.pointer (some ⟨g105,0,none⟩)] rfl T4_ ?_;(with_reducible refine (spec_l17Draw.calls k g105 t102 t103 t104 t106 t107 t108 t109 w _ ?side1 ?side2 A3.out).mono ?_);(case side1 => repeat (first | (with_reducible first | exact HI105.out | apply IsS59.alloc | apply IsS59.drewN | apply IsS59.drew | apply IsS59.set_1 | apply IsS59.set_2 | refine IsS59.far ?_ NB105_101.out _) | exact HI105.out));(case side2 => repeat (first | (with_reducible first | exact HB.out | apply below_alloc | apply pw_below_drewN | apply below_drew1 | refine below_set ?_ (IsS59.ge HI105.out) | refine below_set ?_ GE101.out) | exact HB.out));rintro e w8 ⟨rfl,hi,hb,hk⟩;refine ⟨_,rfl,?_⟩;have n0_ := aZ_ (KeepBut.blk hk (g' := gb101) (o := .cells #[.int .i64 0,.int .i64 0] 25 (0,0)) T2_ NB101_105.out T40_);have n1_ := aZ_ (hb);have n2_ := aZ_ (hi);clear BK101;clear HB;clear HI105;have BK101 := n0_;have HB := n1_;have HI105 := n2_;clear n0_ n1_ n2_;(try clear hb);(try clear hb2);(try clear hk);(try clear hi)) | ((with_reducible refine gate_dst (N := 6) rfl ?_);refine box_event ?hg (N := 6) ?hd (cs := #[.int .i64 0,.int .i64 0]) (t := 25) ?hr ?_;(case hd => rfl);(case hg => rfl);(case hr => first | (go_simp;done) | (go_simp;rfl));intro gb110 hg w9 hbox hb;have n0_ := aZ_ (blk_below (g := gb101) (o := .cells #[.int .i64 0,.int .i64 0] 25 (0,0)) T2_ hb);have n1_ := aZ_ (IsS59.below (by repeat (first | (with_reducible first | exact HI105.out | apply IsS59.alloc | apply IsS59.drewN | apply IsS59.drew | apply IsS59.set_1 | apply IsS59.set_2 | refine IsS59.far ?_ NB105_101.out _) | exact HI105.out)) hb);have n2_ := aZ_ (below_step (by repeat (first | (with_reducible first | exact HB.out | apply below_alloc | apply pw_below_drewN | apply below_drew1 | refine below_set ?_ (IsS59.ge HI105.out) | refine below_set ?_ GE101.out) | exact HB.out)) hb);have n3_ := aZ_ (hbox);have n4_ := aZ_ ((T42_ : w.heap.size ≤ gb110));have n5_ := aZ_ ((T42_ : w.heap.size ≤ gb110));have n6_ := aZ_ ((T29_ : gb101 ≠ gb110));have n7_ := aZ_ ((T30_ : gb110 ≠ gb101));have n8_ := aZ_ ((by rw [hg];exact Nat.ne_of_lt (IsS59.lt (show IsS59 w _ g105 t102 t108 t109 from by repeat (first | (with_reducible first | exact HI105.out | apply IsS59.alloc | apply IsS59.drewN | apply IsS59.drew | apply IsS59.set_1 | apply IsS59.set_2 | refine IsS59.far ?_ NB105_101.out _) | exact HI105.out))) : g105 ≠ gb110));have n9_ := aZ_ ((by rw [hg];exact Nat.ne_of_gt (IsS59.lt (show IsS59 w _ g105 t102 t108 t109 from by repeat (first | (with_reducible first | exact HI105.out | apply IsS59.alloc | apply IsS59.drewN | apply IsS59.drew | apply IsS59.set_1 | apply IsS59.set_2 | refine IsS59.far ?_ NB105_101.out _) | exact HI105.out))) : gb110 ≠ g105));clear BK101;clear HI105;clear HB;have BK101 := n0_;have HI105 := n1_;have HB := n2_;have BK110 := n3_;have GW110 := n4_;have GE110 := n5_;have NB101_110 := n6_;have NB110_101 := n7_;have NB105_110 := n8_;have NB110_105 := n9_;clear n0_ n1_ n2_ n3_ n4_ n5_ n6_ n7_ n8_ n9_;clear hb hbox hg;have hnb10 := NB110_101.out;have hnc10 := NB101_110.out;have hnb11 := NB110_105.out;have hnc11 := NB105_110.out;have hcz12_0 : w9.cell? ⟨gb110,0,none⟩ = some (.int .i64 0) := (blk_cell BK110.out 0).trans rfl;have hcz12_1 : w9.cell? ⟨gb110,1,none⟩ = some (.int .i64 0) := (blk_cell BK110.out 1).trans rfl;have hfz12_0 := blk_frozen BK110.out 0;have hfz12_1 := blk_frozen BK110.out 1) | ((with_reducible refine gate_callee (f := 49) rfl ?_);refine goesL_ (some 13) rfl rfl Try.func49 T12_ rfl #[.pointer (some ⟨g105,0,none⟩),.int .i64 6] rfl T4_ ?_;(with_reducible refine (spec_l1Below.calls g105 t102 t108 t109 6 t111 t112 t113 w _ ?side1 ?side2 A4.out).mono ?_);(case side1 => repeat (first | (with_reducible first | exact HI105.out | apply IsS59.alloc | apply IsS59.drewN | apply IsS59.drew | apply IsS59.set_1 | apply IsS59.set_2 | refine IsS59.far ?_ NB105_101.out _ | refine IsS59.far ?_ NB105_110.out _) | exact HI105.out));(case side2 => repeat (first | (with_reducible first | exact HB.out | apply below_alloc | apply pw_below_drewN | apply below_drew1 | refine below_set ?_ (IsS59.ge HI105.out) | refine below_set ?_ GE101.out | refine below_set ?_ GE110.out) | exact HB.out));rintro e w13 ⟨rfl,hi,hb,hk⟩;refine ⟨_,rfl,?_⟩;have n0_ := aZ_ (KeepBut.blk hk (g' := gb101) (o := .cells #[.int .i64 0,.int .i64 0] 25 (0,0)) (by (with_reducible repeat (first | refine blk_drewN ?_ _ | refine blk_drew ?_ | refine blk_alloc ?_ _));refine blk_far ?_ NB101_110.out _;(with_reducible repeat (first | refine blk_drewN ?_ _ | refine blk_drew ?_ | refine blk_alloc ?_ _));refine blk_far ?_ NB101_110.out _;(with_reducible repeat (first | refine blk_drewN ?_ _ | refine blk_drew ?_ | refine blk_alloc ?_ _));exact BK101.out) NB101_105.out T40_);have n1_ := aZ_ (KeepBut.blk hk (g' := gb110) (o := .cells #[.int .i64 t106,.int .i64 t107] 25 (0,0)) (by (with_reducible repeat (first | refine blk_drewN ?_ _ | refine blk_drew ?_ | refine blk_alloc ?_ _));refine blk_put (cs := #[.int .i64 t106,.int .i64 0]) ?_ 1 _ rfl;(with_reducible repeat (first | refine blk_drewN ?_ _ | refine blk_drew ?_ | refine blk_alloc ?_ _));refine blk_put (cs := #[.int .i64 0,.int .i64 0]) ?_ 0 _ rfl;(with_reducible repeat (first | refine blk_drewN ?_ _ | refine blk_drew ?_ | refine blk_alloc ?_ _));exact BK110.out) NB110_105.out T40_);have n2_ := aZ_ (hb);have n3_ := aZ_ (hi);clear BK101;clear BK110;clear HB;clear HI105;have BK101 := n0_;have BK110 := n1_;have HB := n2_;have HI105 := n3_;clear n0_ n1_ n2_ n3_;(try clear hb);(try clear hb2);(try clear hk);(try clear hi)))
 have n0_ := aZ_ (blk_drew BK101.out)
 have n1_ := aZ_ (blk_drew BK110.out)
 have n2_ := aZ_ (IsS59.drew HI105.out)
 have n3_ := aZ_ (below_drew1 HB.out)
 clear BK101
 clear BK110
 clear HI105
 clear HB
 have BK101 := n0_
 have BK110 := n1_
 have HI105 := n2_
 have HB := n3_
 clear n0_ n1_ n2_ n3_
 refine start_ (n := 7) (S := fun w' => w'.cell? ⟨gb110,0,none⟩ = some (.int .i64 t106) ∧ w'.cell? ⟨gb110,1,none⟩ = some (.int .i64 t107)) (ds := []) #[false,false,false,false,false,false,false] T12_ rfl rfl ⟨(blk_cell BK110.out 0).trans rfl,(blk_cell BK110.out 1).trans rfl⟩ (fun hHeld => ?_)
 generalize w13.drew = w14 at BK101 BK110 HI105 HB hHeld ⊢
 refine pZ_ 1 (some 16) #[false,true,false,false,false,false,false] ?_
 refine pZ_ 2 (some 17) #[false,true,true,false,false,false,false] ?_
 refine tZ2_ 0 (some 15) #[true,true,true,false,false,false,false] hHeld ?_
 refine one_ (i := 3) (N := some 18) #[true,true,true,true,false,false,false] rfl rfl T12_ T35_ (fun K hK => ?_)
 refine gZ_ Try.func49 #[.pointer (some ⟨g105,0,none⟩),.int .i64 5] ?_
 with_reducible refine (spec_l1Below.calls g105 t102 t112 t113 5 t114 t115 t116 w _ ?side1 ?side2 A5.out).mono ?_
 (case side1 => repeat (first | (with_reducible first | exact HI105.out | apply IsS59.alloc | apply IsS59.drewN | apply IsS59.drew | apply IsS59.set_1 | apply IsS59.set_2 | refine IsS59.far ?_ NB105_101.out _ | refine IsS59.far ?_ NB105_110.out _) | exact HI105.out))
 (case side2 => repeat (first | (with_reducible first | exact HB.out | apply below_alloc | apply pw_below_drewN | apply below_drew1 | refine below_set ?_ (IsS59.ge HI105.out) | refine below_set ?_ GE101.out | refine below_set ?_ GE110.out) | exact HB.out))
 rintro e w15 ⟨rfl,hi,hb,hk⟩
 refine ⟨_,rfl,?_⟩
 have n0_ := aZ_ (KeepBut.blk hk (g' := gb101) (o := .cells #[.int .i64 0,.int .i64 0] 25 (0,0)) T2_ NB101_105.out T40_)
 have n1_ := aZ_ (KeepBut.blk hk (g' := gb110) (o := .cells #[.int .i64 t106,.int .i64 t107] 25 (0,0)) (by (with_reducible repeat (first | refine blk_drewN ?_ _ | refine blk_drew ?_ | refine blk_alloc ?_ _));exact BK110.out) NB110_105.out T40_)
 have n2_ := aZ_ (hb)
 have n3_ := aZ_ (hi)
 clear BK101
 clear BK110
 clear HB
 clear HI105
 have BK101 := n0_
 have BK110 := n1_
 have HB := n2_
 have HI105 := n3_
 clear n0_ n1_ n2_ n3_
 (try clear hb)
 (try clear hb2)
 (try clear hk)
 (try clear hi)
 refine hK.out _ _ ⟨(blk_cell BK110.out 0).trans rfl,(blk_cell BK110.out 1).trans rfl⟩ (fun hHeld => ?_)
 clear hK K
 refine norm_ (a' := ?_) ?_ ?_
 rotate_left
 ·show Act.put _ (some 18) _ = _
  simp only [Act.put,List.setIfInBounds_toArray,List.set_cons_zero,List.set_cons_succ,i64_w,i32_w]
  rfl
 refine one_ (i := 4) (N := none) #[true,true,true,true,true,false,false] rfl rfl T12_ T35_ (fun K hK => ?_)
 have hs16 : w15.cell? ⟨gb101,0,none⟩ = some (.int .i64 0) := (blk_cell BK101.out 0).trans rfl
 have hfs16 := blk_frozen BK101.out 0
 have hns16_1 := NB110_101.out
 have hms16_1 := NB101_110.out
 have hs17 : w15.cell? ⟨gb101,1,none⟩ = some (.int .i64 0) := (blk_cell BK101.out 1).trans rfl
 have hfs17 := blk_frozen BK101.out 1
 have hns17_1 := NB110_101.out
 have hms17_1 := NB101_110.out
 refine skip_ (w1 := ?_) (by rfl) rfl ?_ ?_
 rotate_left
 ·go_simp
  rfl
 refine hK.out _ _ ⟨((cell_far (p := ⟨gb101,_,none⟩) NB110_101.out _).trans (((cell_far (p := ⟨gb101,_,none⟩) NB110_101.out _).trans (hHeld.1)))),((cell_far (p := ⟨gb101,_,none⟩) NB110_101.out _).trans (((cell_far (p := ⟨gb101,_,none⟩) NB110_101.out _).trans (hHeld.2))))⟩ (fun hHeld => ?_)
 clear hK K
 refine pZ_ 5 (some 3) #[true,true,true,true,true,true,false] ?_
 refine pZ_ 6 (some 4) #[true,true,true,true,true,true,true] ?_
 refine done_ T12_ ?_
 try go_wp2
 refine bodyPost_ret (results_ctt rfl _ _ gb101 25 #[.int .i64 t106,.int .i64 t107] (0,0) _ rfl T24_ Try.underlying25 rfl T12_) rfl ?_
 exact ⟨by first | rfl | (simp [errW_none,errW_some] <;> rfl) | (simp [*,errW_none,errW_some] <;> rfl),by repeat (first | (with_reducible first | exact HB.out | apply below_alloc | apply pw_below_drewN | apply below_drew1 | refine below_set ?_ (IsS59.ge HI105.out) | refine below_set ?_ GE101.out | refine below_set ?_ GE110.out) | exact HB.out)⟩
def spec_DrawIsProperGame.f (k : Nat) (l0 : List Int) : Option (Int × Int) := (spec_l1New.f k l0).bind fun bt102 => ((spec_l17Draw.f k bt102.1 bt102.2.1 bt102.2.2).bind fun bt106 => (some (bt106.1,bt106.2.1)))
set_option maxHeartbeats 8000000 in
set_option maxRecDepth 100000 in
theorem spec_DrawIsProperGame.calls (k : Nat) (A0 : Option Addr) (c0 : Nat) (l0 : List Int) (r1 : Int) (r2 : Int) (w : World) (hr0 : Kd.C (Kd.int .u8) w A0 l0.length l0) (hc0 : l0.length ≤ c0) (h : spec_DrawIsProperGame.f k l0 = some (r1,r2)) :
  Calls Try.prog 25 #[.slice A0 l0.length c0] w fun e w' => e = .returned (.agg #[.int .i64 r1,.int .i64 r2]) ∧ Below w.heap.size w w' := by
 have hu25 := Try.underlying25
 have HR0 := aZ_ hr0
 have HC0 := aZ_ hc0
 clear hr0 hc0
 have HB := aZ_ (Below.refl w.heap.size w)
 have H : ((spec_l1New.f k l0).bind fun bt102 => ((spec_l17Draw.f k bt102.1 bt102.2.1 bt102.2.2).bind fun bt106 => (some (bt106.1,bt106.2.1)))) = some (r1,r2) := h
 clear h
 replace H := Option.bind_eq_some_iff.mp H
 obtain ⟨⟨t102,t103,t104⟩,A20,H⟩ := H
 replace H : ((spec_l17Draw.f k t102 t103 t104).bind fun bt106 => (some (bt106.1,bt106.2.1))) = some (r1,r2) := H
 have A2 := aZ_ A20
 clear A20
 replace H := Option.bind_eq_some_iff.mp H
 obtain ⟨⟨t106,t107,t108,t109⟩,A30,H⟩ := H
 replace H : (some (t106,t107)) = some (r1,r2) := H
 have A3 := aZ_ A30
 clear A30
 simp only [Option.some.injEq,Prod.mk.injEq] at H
 obtain ⟨rfl,rfl⟩ := H
 go_enter Try.func25,Try.ntmps25
 go_wp2_with (first | ((with_reducible refine gate_dst (N := 2) rfl ?_);refine box_event ?hg (N := 2) ?hd (cs := #[.int .i64 0,.int .i64 0]) (t := 25) ?hr ?_;(case hd => rfl);(case hg => rfl);(case hr => first | (go_simp;done) | (go_simp;rfl));intro gb101 hg w4 hbox hb;have n0_ := aZ_ (below_step T5_ hb);have n1_ := aZ_ (hbox);have n2_ := aZ_ ((T3_ : w.heap.size ≤ gb101));have n3_ := aZ_ ((T3_ : w.heap.size ≤ gb101));clear HB;have HB := n0_;have BK101 := n1_;have GW101 := n2_;have GE101 := n3_;clear n0_ n1_ n2_ n3_;clear hb hbox hg) | ((with_reducible refine gate_callee (f := 28) rfl ?_);refine goesL_ (some 4) rfl rfl Try.func28 T12_ rfl #[.slice A0 l0.length c0] rfl T4_ ?_;(with_reducible refine (spec_l1New.calls k _ _ l0 t102 t103 t104 w _ ?side1 ?side2 ?side3 A2.out).mono ?_);(case side1 => repeat (first | (with_reducible first | exact HB.out | apply below_alloc | apply pw_below_drewN | apply below_drew1 | refine below_set ?_ GE101.out) | exact HB.out));(case side2 => exact HR0.out);(case side3 => exact HC0.out);rintro e w5 ⟨g105,rfl,hi,hb,hb2⟩;refine ⟨_,rfl,?_⟩;have n0_ := aZ_ (blk_below (g := gb101) (o := .cells #[.int .i64 0,.int .i64 0] 25 (0,0)) T2_ hb2);have n1_ := aZ_ (hb);have n2_ := aZ_ (hi);have n3_ := aZ_ (IsS59.ne_blk hi (blk_below (g := gb101) (o := .cells #[.int .i64 0,.int .i64 0] 25 (0,0)) T2_ hb2) T35_);have n4_ := aZ_ (Ne.symm (IsS59.ne_blk hi (blk_below (g := gb101) (o := .cells #[.int .i64 0,.int .i64 0] 25 (0,0)) T2_ hb2) T35_));clear BK101;clear HB;have BK101 := n0_;have HB := n1_;have HI105 := n2_;have NB105_101 := n3_;have NB101_105 := n4_;clear n0_ n1_ n2_ n3_ n4_;(try clear hb);(try clear hb2);(try clear hk);(try clear hi)) | ((with_reducible refine gate_callee (f := 27) rfl ?_);refine goesL_ (some 5) rfl rfl Try.func27 T12_ rfl #[.pointer (some ⟨g105,0,none⟩)] rfl T4_ ?_;(with_reducible refine (spec_l17Draw.calls k g105 t102 t103 t104 t106 t107 t108 t109 w _ ?side1 ?side2 A3.out).mono ?_);(case side1 => repeat (first | (with_reducible first | exact HI105.out | apply IsS59.alloc | apply IsS59.drewN | apply IsS59.drew | apply IsS59.set_1 | apply IsS59.set_2 | refine IsS59.far ?_ NB105_101.out _) | exact HI105.out));(case side2 => repeat (first | (with_reducible first | exact HB.out | apply below_alloc | apply pw_below_drewN | apply below_drew1 | refine below_set ?_ (IsS59.ge HI105.out) | refine below_set ?_ GE101.out) | exact HB.out));rintro e w6 ⟨rfl,hi,hb,hk⟩;refine ⟨_,rfl,?_⟩;have n0_ := aZ_ (KeepBut.blk hk (g' := gb101) (o := .cells #[.int .i64 0,.int .i64 0] 25 (0,0)) T2_ NB101_105.out T40_);have n1_ := aZ_ (hb);have n2_ := aZ_ (hi);clear BK101;clear HB;clear HI105;have BK101 := n0_;have HB := n1_;have HI105 := n2_;clear n0_ n1_ n2_;(try clear hb);(try clear hb2);(try clear hk);(try clear hi);have hnb7 := NB101_105.out;have hnc7 := NB105_101.out;have hcz8_0 : w6.cell? ⟨gb101,0,none⟩ = some (.int .i64 0) := (blk_cell BK101.out 0).trans rfl;have hcz8_1 : w6.cell? ⟨gb101,1,none⟩ = some (.int .i64 0) := (blk_cell BK101.out 1).trans rfl;have hfz8_0 := blk_frozen BK101.out 0;have hfz8_1 := blk_frozen BK101.out 1))
 refine bodyPost_ret (results_cell_row rfl _ _ gb101 25 #[.int .i64 t106,.int .i64 t107] (0,0) _ rfl T24_ Try.underlying25 rfl T12_) rfl ?_
 exact ⟨by first | rfl | (simp [errW_none,errW_some] <;> rfl) | (simp [*,errW_none,errW_some] <;> rfl),by repeat (first | (with_reducible first | exact HB.out | apply below_alloc | apply pw_below_drewN | apply below_drew1 | refine below_set ?_ (IsS59.ge HI105.out) | refine below_set ?_ GE101.out) | exact HB.out)⟩
mutual
def spec_DesirabilityOf.j0 : Nat → Int → Int → Bool → Int → Int → Option (Int)
 | 0,_,_,_,_,_ => none
 | k + 1,x1,x2,x30,x102000,x102001 => if x30 = true then (some (-2)) else (spec_DesirabilityOf.l0 k x1 x2 true true 0 x102000 x102001)
def spec_DesirabilityOf.l0 : Nat → Int → Int → Bool → Bool → Int → Int → Int → Option (Int)
 | 0,_,_,_,_,_,_,_ => none
 | k + 1,x1,x2,x7,x8,x9,x102000,x102001 => if 0 ≤ x102000 then (if x9 < (shl .i64 1 x102000) then (if 0 ≤ x1 then (if (Go.bits .and .i64 (shr .i64 x9 x1) 1) = 1 then (spec_DesirabilityOf.l0 k x1 x2 x7 x8 (wrap64 (x9 + 1)) x102000 x102001) else (if 0 ≤ x2 then (if (Go.bits .and .i64 (shr .i64 x9 x2) 1) = 1 then (spec_DesirabilityOf.l0 k x1 x2 x7 x8 (wrap64 (x9 + 1)) x102000 x102001) else (if 0 ≤ (Go.bits .or .i64 x9 (shl .i64 1 x1)) then (if 0 ≤ (Go.bits .or .i64 x9 (shl .i64 1 x2)) then (if x7 = true then (if x8 = true then (spec_DesirabilityOf.l0 k x1 x2 (decide ((Go.bits .and .i64 (shr .i64 x102001 (Go.bits .or .i64 x9 (shl .i64 1 x1))) 1) ≥ (Go.bits .and .i64 (shr .i64 x102001 (Go.bits .or .i64 x9 (shl .i64 1 x2))) 1))) (decide ((Go.bits .and .i64 (shr .i64 x102001 (Go.bits .or .i64 x9 (shl .i64 1 x2))) 1) ≥ (Go.bits .and .i64 (shr .i64 x102001 (Go.bits .or .i64 x9 (shl .i64 1 x1))) 1))) (wrap64 (x9 + 1)) x102000 x102001) else (spec_DesirabilityOf.l0 k x1 x2 (decide ((Go.bits .and .i64 (shr .i64 x102001 (Go.bits .or .i64 x9 (shl .i64 1 x1))) 1) ≥ (Go.bits .and .i64 (shr .i64 x102001 (Go.bits .or .i64 x9 (shl .i64 1 x2))) 1))) false (wrap64 (x9 + 1)) x102000 x102001)) else (if x8 = true then (spec_DesirabilityOf.l0 k x1 x2 false (decide ((Go.bits .and .i64 (shr .i64 x102001 (Go.bits .or .i64 x9 (shl .i64 1 x2))) 1) ≥ (Go.bits .and .i64 (shr .i64 x102001 (Go.bits .or .i64 x9 (shl .i64 1 x1))) 1))) (wrap64 (x9 + 1)) x102000 x102001) else (spec_DesirabilityOf.l0 k x1 x2 false false (wrap64 (x9 + 1)) x102000 x102001))) else (none)) else (none))) else (none))) else (none)) else (if x7 = true then (spec_DesirabilityOf.j2 k x7 x8 x8) else (spec_DesirabilityOf.j2 k x7 x8 false))) else (none)
def spec_DesirabilityOf.j2 : Nat → Bool → Bool → Bool → Option (Int)
 | 0,_,_,_ => none
 | k + 1,x7,x8,x78 => if x78 = true then (some 0) else (if x7 = true then (some 1) else (if x8 = true then (some (-1)) else (some 2)))
end
def spec_DesirabilityOf.f (k : Nat) (a0_0 : Int) (a0_1 : Int) (a1 : Int) (a2 : Int) : Option (Int) := (spec_IsSimpleGame.f k a0_0 a0_1).bind fun t102 => (if t102 = true then ((spec_l1In.f a1 0 (wrap64 (a0_0 - 1))).bind fun t103 => (if t103 = true then ((spec_l1In.f a2 0 (wrap64 (a0_0 - 1))).bind fun t104 => (spec_DesirabilityOf.j0 k a1 a2 (!t104) a0_0 a0_1)) else (spec_DesirabilityOf.j0 k a1 a2 true a0_0 a0_1))) else (spec_DesirabilityOf.j0 k a1 a2 true a0_0 a0_1))
set_option maxHeartbeats 8000000 in
set_option maxRecDepth 100000 in
theorem spec_DesirabilityOf.calls (k : Nat) (a0_0 : Int) (a0_1 : Int) (a1 : Int) (a2 : Int) (r : Int) (w : World) (h : spec_DesirabilityOf.f k a0_0 a0_1 a1 a2 = some r) :
  Calls Try.prog 26 #[.agg #[.int .i64 a0_0,.int .i64 a0_1],.int .i64 a1,.int .i64 a2] w fun e w' => e = .returned (.int .i64 r) ∧ Below w.heap.size w w' := by
 have hu25 := Try.underlying25
 have HB := aZ_ (Below.refl w.heap.size w)
 have H : ((spec_IsSimpleGame.f k a0_0 a0_1).bind fun t102 => (if t102 = true then ((spec_l1In.f a1 0 (wrap64 (a0_0 - 1))).bind fun t103 => (if t103 = true then ((spec_l1In.f a2 0 (wrap64 (a0_0 - 1))).bind fun t104 => (spec_DesirabilityOf.j0 k a1 a2 (!t104) a0_0 a0_1)) else (spec_DesirabilityOf.j0 k a1 a2 true a0_0 a0_1))) else (spec_DesirabilityOf.j0 k a1 a2 true a0_0 a0_1))) = some r := h
 clear h
 have HC4 := aZ_ H
 clear H
 go_enter Try.func26,Try.ntmps26
 go_upto_region 1 with (first | ((with_reducible refine gate_dst (N := 3) rfl ?_);refine box_event ?hg (N := 3) ?hd (cs := #[.int .i64 a0_0,.int .i64 a0_1]) (t := 25) ?hr ?_;(case hd => rfl);(case hg => rfl);(case hr => first | (go_simp;done) | (go_simp;rfl));intro gb101 hg w5 hbox hb;have n0_ := aZ_ (below_step T5_ hb);have n1_ := aZ_ (hbox);have n2_ := aZ_ ((T3_ : w.heap.size ≤ gb101));have n3_ := aZ_ ((T3_ : w.heap.size ≤ gb101));clear HB;have HB := n0_;have BK101 := n1_;have GW101 := n2_;have GE101 := n3_;clear n0_ n1_ n2_ n3_;clear hb hbox hg))
 repeat (go_quiet (first | ((with_reducible refine gate_dst (N := 3) rfl ?_);refine box_event ?hg (N := 3) ?hd (cs := #[.int .i64 a0_0,.int .i64 a0_1]) (t := 25) ?hr ?_;(case hd => rfl);(case hg => rfl);(case hr => first | (go_simp;done) | (go_simp;rfl));intro gb101 hg w5 hbox hb;have n0_ := aZ_ (below_step T5_ hb);have n1_ := aZ_ (hbox);have n2_ := aZ_ ((T3_ : w.heap.size ≤ gb101));have n3_ := aZ_ ((T3_ : w.heap.size ≤ gb101));clear HB;have HB := n0_;have BK101 := n1_;have GW101 := n2_;have GE101 := n3_;clear n0_ n1_ n2_ n3_;clear hb hbox hg));go_upto_region 1 with (first | ((with_reducible refine gate_dst (N := 3) rfl ?_);refine box_event ?hg (N := 3) ?hd (cs := #[.int .i64 a0_0,.int .i64 a0_1]) (t := 25) ?hr ?_;(case hd => rfl);(case hg => rfl);(case hr => first | (go_simp;done) | (go_simp;rfl));intro gb101 hg w5 hbox hb;have n0_ := aZ_ (below_step T5_ hb);have n1_ := aZ_ (hbox);have n2_ := aZ_ ((T3_ : w.heap.size ≤ gb101));have n3_ := aZ_ ((T3_ : w.heap.size ≤ gb101));clear HB;have HB := n0_;have BK101 := n1_;have GW101 := n2_;have GE101 := n3_;clear n0_ n1_ n2_ n3_;clear hb hbox hg)))
 (try simp only [Act.put,List.setIfInBounds_toArray,List.set_cons_zero,List.set_cons_succ])
 go_cut [30] (fun v30 wc => ∃ (kq : Nat) (x30_3 : Bool),v30 = .bool x30_3 ∧ Aside0 (spec_DesirabilityOf.j0 kq a1 a2 x30_3 a0_0 a0_1 = some r) ∧ Aside0 (kq ≤ k) ∧ Aside0 (wc.heap[gb101]? = some (.cells #[.int .i64 a0_0,.int .i64 a0_1] 25 (0,0))) ∧ Aside0 (Below w.heap.size w wc))
 case first =>
  have H := HC4.out
  clear HC4
  replace H := Option.bind_eq_some_iff.mp H
  obtain ⟨t102,A60,H⟩ := H
  replace H : (if t102 = true then ((spec_l1In.f a1 0 (wrap64 (a0_0 - 1))).bind fun t103 => (if t103 = true then ((spec_l1In.f a2 0 (wrap64 (a0_0 - 1))).bind fun t104 => (spec_DesirabilityOf.j0 k a1 a2 (!t104) a0_0 a0_1)) else (spec_DesirabilityOf.j0 k a1 a2 true a0_0 a0_1))) else (spec_DesirabilityOf.j0 k a1 a2 true a0_0 a0_1)) = some r := H
  have A6 := aZ_ A60
  clear A60
  by_cases c7 : t102 = true
  ·subst c7
   have H1 : ((spec_l1In.f a1 0 (wrap64 (a0_0 - 1))).bind fun t103 => (if t103 = true then ((spec_l1In.f a2 0 (wrap64 (a0_0 - 1))).bind fun t104 => (spec_DesirabilityOf.j0 k a1 a2 (!t104) a0_0 a0_1)) else (spec_DesirabilityOf.j0 k a1 a2 true a0_0 a0_1))) = some r := by rw [if_pos rfl] at H;exact H
   clear H
   have H := H1
   clear H1
   replace H := Option.bind_eq_some_iff.mp H
   obtain ⟨t103,A80,H⟩ := H
   replace H : (if t103 = true then ((spec_l1In.f a2 0 (wrap64 (a0_0 - 1))).bind fun t104 => (spec_DesirabilityOf.j0 k a1 a2 (!t104) a0_0 a0_1)) else (spec_DesirabilityOf.j0 k a1 a2 true a0_0 a0_1)) = some r := H
   have A8 := aZ_ A80
   clear A80
   by_cases c9 : t103 = true
   ·subst c9
    have H1 : ((spec_l1In.f a2 0 (wrap64 (a0_0 - 1))).bind fun t104 => (spec_DesirabilityOf.j0 k a1 a2 (!t104) a0_0 a0_1)) = some r := by rw [if_pos rfl] at H;exact H
    clear H
    have H := H1
    clear H1
    replace H := Option.bind_eq_some_iff.mp H
    obtain ⟨t104,A100,H⟩ := H
    replace H : (spec_DesirabilityOf.j0 k a1 a2 (!t104) a0_0 a0_1) = some r := H
    have A10 := aZ_ A100
    clear A100
    have H' := aZ_ H
    clear H
    have hcz11_0 : w5.cell? ⟨gb101,0,none⟩ = some (.int .i64 a0_0) := (blk_cell BK101.out 0).trans rfl
    have hcz11_1 : w5.cell? ⟨gb101,1,none⟩ = some (.int .i64 a0_1) := (blk_cell BK101.out 1).trans rfl
    have hfz11_0 := blk_frozen BK101.out 0
    have hfz11_1 := blk_frozen BK101.out 1
    go_wp2_with (first | (go_at_call 16;(with_reducible refine (spec_IsSimpleGame.calls k a0_0 a0_1 true _ A6.out).mono ?_);rintro e w12 ⟨rfl,hb⟩;have n0_ := aZ_ (blk_below (g := gb101) (o := .cells #[.int .i64 a0_0,.int .i64 a0_1] 25 (0,0)) T2_ hb);have n1_ := aZ_ (below_step T1_ hb);clear BK101;clear HB;have BK101 := n0_;have HB := n1_;clear n0_ n1_;(try clear hb);(try clear hb2);(try clear hk);(try clear hi);have hcz13_0 : w12.cell? ⟨gb101,0,none⟩ = some (.int .i64 a0_0) := (blk_cell BK101.out 0).trans rfl;have hcz13_1 : w12.cell? ⟨gb101,1,none⟩ = some (.int .i64 a0_1) := (blk_cell BK101.out 1).trans rfl;have hfz13_0 := blk_frozen BK101.out 0;have hfz13_1 := blk_frozen BK101.out 1) | (go_at_call 50;(with_reducible refine (spec_l1In.calls a1 0 (wrap64 (a0_0 - 1)) true _ A8.out).mono ?_);rintro e w' ⟨rfl,⟨nd,rfl⟩⟩;(try first | exact ⟨rfl,_,World.drewN_drewN _ _ _⟩ | exact ⟨rfl,_,Eq.trans (World.drewN_drewN _ _ _) (congrArg (World.drewN _) (Nat.add_assoc _ _ _))⟩)) | (go_at_call 50;(with_reducible refine (spec_l1In.calls a2 0 (wrap64 (a0_0 - 1)) t104 _ A10.out).mono ?_);rintro e w' ⟨rfl,⟨nd,rfl⟩⟩;(try first | exact ⟨rfl,_,World.drewN_drewN _ _ _⟩ | exact ⟨rfl,_,Eq.trans (World.drewN_drewN _ _ _) (congrArg (World.drewN _) (Nat.add_assoc _ _ _))⟩)))
    repeat (go_quiet (first | (go_at_call 16;(with_reducible refine (spec_IsSimpleGame.calls k a0_0 a0_1 true _ A6.out).mono ?_);rintro e w12 ⟨rfl,hb⟩;have n0_ := aZ_ (blk_below (g := gb101) (o := .cells #[.int .i64 a0_0,.int .i64 a0_1] 25 (0,0)) T2_ hb);have n1_ := aZ_ (below_step T1_ hb);clear BK101;clear HB;have BK101 := n0_;have HB := n1_;clear n0_ n1_;(try clear hb);(try clear hb2);(try clear hk);(try clear hi);have hcz13_0 : w12.cell? ⟨gb101,0,none⟩ = some (.int .i64 a0_0) := (blk_cell BK101.out 0).trans rfl;have hcz13_1 : w12.cell? ⟨gb101,1,none⟩ = some (.int .i64 a0_1) := (blk_cell BK101.out 1).trans rfl;have hfz13_0 := blk_frozen BK101.out 0;have hfz13_1 := blk_frozen BK101.out 1) | (go_at_call 50;(with_reducible refine (spec_l1In.calls a1 0 (wrap64 (a0_0 - 1)) true _ A8.out).mono ?_);rintro e w' ⟨rfl,⟨nd,rfl⟩⟩;(try first | exact ⟨rfl,_,World.drewN_drewN _ _ _⟩ | exact ⟨rfl,_,Eq.trans (World.drewN_drewN _ _ _) (congrArg (World.drewN _) (Nat.add_assoc _ _ _))⟩)) | (go_at_call 50;(with_reducible refine (spec_l1In.calls a2 0 (wrap64 (a0_0 - 1)) t104 _ A10.out).mono ?_);rintro e w' ⟨rfl,⟨nd,rfl⟩⟩;(try first | exact ⟨rfl,_,World.drewN_drewN _ _ _⟩ | exact ⟨rfl,_,Eq.trans (World.drewN_drewN _ _ _) (congrArg (World.drewN _) (Nat.add_assoc _ _ _))⟩)));try go_wp2_with (first | (go_at_call 16;(with_reducible refine (spec_IsSimpleGame.calls k a0_0 a0_1 true _ A6.out).mono ?_);rintro e w12 ⟨rfl,hb⟩;have n0_ := aZ_ (blk_below (g := gb101) (o := .cells #[.int .i64 a0_0,.int .i64 a0_1] 25 (0,0)) T2_ hb);have n1_ := aZ_ (below_step T1_ hb);clear BK101;clear HB;have BK101 := n0_;have HB := n1_;clear n0_ n1_;(try clear hb);(try clear hb2);(try clear hk);(try clear hi);have hcz13_0 : w12.cell? ⟨gb101,0,none⟩ = some (.int .i64 a0_0) := (blk_cell BK101.out 0).trans rfl;have hcz13_1 : w12.cell? ⟨gb101,1,none⟩ = some (.int .i64 a0_1) := (blk_cell BK101.out 1).trans rfl;have hfz13_0 := blk_frozen BK101.out 0;have hfz13_1 := blk_frozen BK101.out 1) | (go_at_call 50;(with_reducible refine (spec_l1In.calls a1 0 (wrap64 (a0_0 - 1)) true _ A8.out).mono ?_);rintro e w' ⟨rfl,⟨nd,rfl⟩⟩;(try first | exact ⟨rfl,_,World.drewN_drewN _ _ _⟩ | exact ⟨rfl,_,Eq.trans (World.drewN_drewN _ _ _) (congrArg (World.drewN _) (Nat.add_assoc _ _ _))⟩)) | (go_at_call 50;(with_reducible refine (spec_l1In.calls a2 0 (wrap64 (a0_0 - 1)) t104 _ A10.out).mono ?_);rintro e w' ⟨rfl,⟨nd,rfl⟩⟩;(try first | exact ⟨rfl,_,World.drewN_drewN _ _ _⟩ | exact ⟨rfl,_,Eq.trans (World.drewN_drewN _ _ _) (congrArg (World.drewN _) (Nat.add_assoc _ _ _))⟩))))
    go_meet
    case rel => exact ⟨_,(!t104),T6_,H',⟨by first | omega | exact Nat.le_refl _⟩,⟨by (with_reducible repeat (first | refine blk_drewN ?_ _ | refine blk_drew ?_ | refine blk_alloc ?_ _));exact BK101.out⟩,⟨by repeat (first | (with_reducible first | exact HB.out | apply below_alloc | apply pw_below_drewN | apply below_drew1 | refine below_set ?_ GE101.out) | exact HB.out)⟩⟩
   ·replace c9 := Bool.eq_false_iff.mpr c9
    subst c9
    have H1 : (spec_DesirabilityOf.j0 k a1 a2 true a0_0 a0_1) = some r := by rw [if_neg (show ¬ (false = true) by decide)] at H;exact H
    clear H
    have H := H1
    clear H1
    have H' := aZ_ H
    clear H
    have hcz14_0 : w5.cell? ⟨gb101,0,none⟩ = some (.int .i64 a0_0) := (blk_cell BK101.out 0).trans rfl
    have hcz14_1 : w5.cell? ⟨gb101,1,none⟩ = some (.int .i64 a0_1) := (blk_cell BK101.out 1).trans rfl
    have hfz14_0 := blk_frozen BK101.out 0
    have hfz14_1 := blk_frozen BK101.out 1
    go_wp2_with (first | (go_at_call 16;(with_reducible refine (spec_IsSimpleGame.calls k a0_0 a0_1 true _ A6.out).mono ?_);rintro e w15 ⟨rfl,hb⟩;have n0_ := aZ_ (blk_below (g := gb101) (o := .cells #[.int .i64 a0_0,.int .i64 a0_1] 25 (0,0)) T2_ hb);have n1_ := aZ_ (below_step T1_ hb);clear BK101;clear HB;have BK101 := n0_;have HB := n1_;clear n0_ n1_;(try clear hb);(try clear hb2);(try clear hk);(try clear hi);have hcz16_0 : w15.cell? ⟨gb101,0,none⟩ = some (.int .i64 a0_0) := (blk_cell BK101.out 0).trans rfl;have hcz16_1 : w15.cell? ⟨gb101,1,none⟩ = some (.int .i64 a0_1) := (blk_cell BK101.out 1).trans rfl;have hfz16_0 := blk_frozen BK101.out 0;have hfz16_1 := blk_frozen BK101.out 1) | (go_at_call 50;(with_reducible refine (spec_l1In.calls a1 0 (wrap64 (a0_0 - 1)) false _ A8.out).mono ?_);rintro e w' ⟨rfl,⟨nd,rfl⟩⟩;(try first | exact ⟨rfl,_,World.drewN_drewN _ _ _⟩ | exact ⟨rfl,_,Eq.trans (World.drewN_drewN _ _ _) (congrArg (World.drewN _) (Nat.add_assoc _ _ _))⟩)))
    repeat (go_quiet (first | (go_at_call 16;(with_reducible refine (spec_IsSimpleGame.calls k a0_0 a0_1 true _ A6.out).mono ?_);rintro e w15 ⟨rfl,hb⟩;have n0_ := aZ_ (blk_below (g := gb101) (o := .cells #[.int .i64 a0_0,.int .i64 a0_1] 25 (0,0)) T2_ hb);have n1_ := aZ_ (below_step T1_ hb);clear BK101;clear HB;have BK101 := n0_;have HB := n1_;clear n0_ n1_;(try clear hb);(try clear hb2);(try clear hk);(try clear hi);have hcz16_0 : w15.cell? ⟨gb101,0,none⟩ = some (.int .i64 a0_0) := (blk_cell BK101.out 0).trans rfl;have hcz16_1 : w15.cell? ⟨gb101,1,none⟩ = some (.int .i64 a0_1) := (blk_cell BK101.out 1).trans rfl;have hfz16_0 := blk_frozen BK101.out 0;have hfz16_1 := blk_frozen BK101.out 1) | (go_at_call 50;(with_reducible refine (spec_l1In.calls a1 0 (wrap64 (a0_0 - 1)) false _ A8.out).mono ?_);rintro e w' ⟨rfl,⟨nd,rfl⟩⟩;(try first | exact ⟨rfl,_,World.drewN_drewN _ _ _⟩ | exact ⟨rfl,_,Eq.trans (World.drewN_drewN _ _ _) (congrArg (World.drewN _) (Nat.add_assoc _ _ _))⟩)));try go_wp2_with (first | (go_at_call 16;(with_reducible refine (spec_IsSimpleGame.calls k a0_0 a0_1 true _ A6.out).mono ?_);rintro e w15 ⟨rfl,hb⟩;have n0_ := aZ_ (blk_below (g := gb101) (o := .cells #[.int .i64 a0_0,.int .i64 a0_1] 25 (0,0)) T2_ hb);have n1_ := aZ_ (below_step T1_ hb);clear BK101;clear HB;have BK101 := n0_;have HB := n1_;clear n0_ n1_;(try clear hb);(try clear hb2);(try clear hk);(try clear hi);have hcz16_0 : w15.cell? ⟨gb101,0,none⟩ = some (.int .i64 a0_0) := (blk_cell BK101.out 0).trans rfl;have hcz16_1 : w15.cell? ⟨gb101,1,none⟩ = some (.int .i64 a0_1) := (blk_cell BK101.out 1).trans rfl;have hfz16_0 := blk_frozen BK101.out 0;have hfz16_1 := blk_frozen BK101.out 1) | (go_at_call 50;(with_reducible refine (spec_l1In.calls a1 0 (wrap64 (a0_0 - 1)) false _ A8.out).mono ?_);rintro e w' ⟨rfl,⟨nd,rfl⟩⟩;(try first | exact ⟨rfl,_,World.drewN_drewN _ _ _⟩ | exact ⟨rfl,_,Eq.trans (World.drewN_drewN _ _ _) (congrArg (World.drewN _) (Nat.add_assoc _ _ _))⟩))))
    go_meet
    case rel => exact ⟨_,(true),T6_,H',⟨by first | omega | exact Nat.le_refl _⟩,⟨by (with_reducible repeat (first | refine blk_drewN ?_ _ | refine blk_drew ?_ | refine blk_alloc ?_ _));exact BK101.out⟩,⟨by repeat (first | (with_reducible first | exact HB.out | apply below_alloc | apply pw_below_drewN | apply below_drew1 | refine below_set ?_ GE101.out) | exact HB.out)⟩⟩
  ·replace c7 := Bool.eq_false_iff.mpr c7
   subst c7
   have H1 : (spec_DesirabilityOf.j0 k a1 a2 true a0_0 a0_1) = some r := by rw [if_neg (show ¬ (false = true) by decide)] at H;exact H
   clear H
   have H := H1
   clear H1
   have H' := aZ_ H
   clear H
   have hcz17_0 : w5.cell? ⟨gb101,0,none⟩ = some (.int .i64 a0_0) := (blk_cell BK101.out 0).trans rfl
   have hcz17_1 : w5.cell? ⟨gb101,1,none⟩ = some (.int .i64 a0_1) := (blk_cell BK101.out 1).trans rfl
   have hfz17_0 := blk_frozen BK101.out 0
   have hfz17_1 := blk_frozen BK101.out 1
   go_wp2_with (first | (go_at_call 16;(with_reducible refine (spec_IsSimpleGame.calls k a0_0 a0_1 false _ A6.out).mono ?_);rintro e w18 ⟨rfl,hb⟩;have n0_ := aZ_ (blk_below (g := gb101) (o := .cells #[.int .i64 a0_0,.int .i64 a0_1] 25 (0,0)) T2_ hb);have n1_ := aZ_ (below_step T1_ hb);clear BK101;clear HB;have BK101 := n0_;have HB := n1_;clear n0_ n1_;(try clear hb);(try clear hb2);(try clear hk);(try clear hi)))
   repeat (go_quiet (first | (go_at_call 16;(with_reducible refine (spec_IsSimpleGame.calls k a0_0 a0_1 false _ A6.out).mono ?_);rintro e w18 ⟨rfl,hb⟩;have n0_ := aZ_ (blk_below (g := gb101) (o := .cells #[.int .i64 a0_0,.int .i64 a0_1] 25 (0,0)) T2_ hb);have n1_ := aZ_ (below_step T1_ hb);clear BK101;clear HB;have BK101 := n0_;have HB := n1_;clear n0_ n1_;(try clear hb);(try clear hb2);(try clear hk);(try clear hi)));try go_wp2_with (first | (go_at_call 16;(with_reducible refine (spec_IsSimpleGame.calls k a0_0 a0_1 false _ A6.out).mono ?_);rintro e w18 ⟨rfl,hb⟩;have n0_ := aZ_ (blk_below (g := gb101) (o := .cells #[.int .i64 a0_0,.int .i64 a0_1] 25 (0,0)) T2_ hb);have n1_ := aZ_ (below_step T1_ hb);clear BK101;clear HB;have BK101 := n0_;have HB := n1_;clear n0_ n1_;(try clear hb);(try clear hb2);(try clear hk);(try clear hi))))
   go_meet
   case rel => exact ⟨_,(true),T6_,H',⟨by first | omega | exact Nat.le_refl _⟩,⟨by (with_reducible repeat (first | refine blk_drewN ?_ _ | refine blk_drew ?_ | refine blk_alloc ?_ _));exact BK101.out⟩,⟨by repeat (first | (with_reducible first | exact HB.out | apply below_alloc | apply pw_below_drewN | apply below_drew1 | refine below_set ?_ GE101.out) | exact HB.out)⟩⟩
 case rest =>
  clear HC4
  try clear c2
  try clear p2
  try clear p6
  try clear c7
  try clear c9
  try clear hcz11_0
  try clear hcz11_1
  try clear hcz13_0
  try clear hcz13_1
  try clear hcz14_0
  try clear hcz14_1
  try clear hcz16_0
  try clear hcz16_1
  try clear hcz17_0
  try clear hcz17_1
  try clear hfz11_0
  try clear hfz11_1
  try clear hfz13_0
  try clear hfz13_1
  try clear hfz14_0
  try clear hfz14_1
  try clear hfz16_0
  try clear hfz16_1
  try clear hfz17_0
  try clear hfz17_1
  obtain ⟨kq,x30_3,rfl,HA,HJ3,BK101,HB⟩ := hcut
  cases kq with
  | zero => exact absurd HA.out (by simp [spec_DesirabilityOf.j0])
  | succ kj3 =>
   have H := HA.out
   clear HA
   simp only [spec_DesirabilityOf.j0] at H
   by_cases c19 : x30_3 = true
   ·subst c19
    have H1 : (some (-2)) = some r := by rw [if_pos rfl] at H;exact H
    clear H
    have H := H1
    clear H1
    obtain rfl := Option.some.inj H
    go_wp2
    repeat (go_quiet (fail);try go_wp2)
    go_ret
    exact ⟨by first | rfl | (simp [errW_none,errW_some] <;> rfl) | (simp [*,errW_none,errW_some] <;> rfl),by repeat (first | (with_reducible first | exact HB.out | apply below_alloc | apply pw_below_drewN | apply below_drew1 | refine below_set ?_ GE101.out) | exact HB.out)⟩
   ·replace c19 := Bool.eq_false_iff.mpr c19
    subst c19
    have H1 : (spec_DesirabilityOf.l0 kj3 a1 a2 true true 0 a0_0 a0_1) = some r := by rw [if_neg (show ¬ (false = true) by decide)] at H;exact H
    clear H
    have H := H1
    clear H1
    have H' := aZ_ H
    clear H
    go_wp2
    repeat (go_quiet (fail);try go_wp2)
    go_loopg [7,8,9] kj3 (fun kq v7 v8 v9 w' => ∃ (x7_2 : Bool) (x8_2 : Bool) (x9_2 : Int),v7 = .bool x7_2 ∧ v8 = .bool x8_2 ∧ v9 = .int .i64 x9_2 ∧ Aside0 (spec_DesirabilityOf.l0 kq a1 a2 x7_2 x8_2 x9_2 a0_0 a0_1 = some r) ∧ Aside0 (kq ≤ kj3) ∧ Aside0 (w'.heap[gb101]? = some (.cells #[.int .i64 a0_0,.int .i64 a0_1] 25 (0,0))) ∧ Aside0 (Below w.heap.size w w'))
    case atStart => exact ⟨(true),(true),(0),T6_,T6_,T6_,H',⟨Nat.le_refl _⟩,⟨by (with_reducible repeat (first | refine blk_drewN ?_ _ | refine blk_drew ?_ | refine blk_alloc ?_ _));exact BK101.out⟩,⟨by repeat (first | (with_reducible first | exact HB.out | apply below_alloc | apply pw_below_drewN | apply below_drew1 | refine below_set ?_ GE101.out) | exact HB.out)⟩⟩
    case round =>
     clear H'
     try clear c1
     try clear c2
     try clear p2
     try clear p6
     try clear c7
     try clear c9
     try clear c19
     try clear hcz11_0
     try clear hcz11_1
     try clear hcz13_0
     try clear hcz13_1
     try clear hcz14_0
     try clear hcz14_1
     try clear hcz16_0
     try clear hcz16_1
     try clear hcz17_0
     try clear hcz17_1
     try clear hfz11_0
     try clear hfz11_1
     try clear hfz13_0
     try clear hfz13_1
     try clear hfz14_0
     try clear hfz14_1
     try clear hfz16_0
     try clear hfz16_1
     try clear hfz17_0
     try clear hfz17_1
     try clear p2
     try clear p6
     obtain ⟨x7_2,x8_2,x9_2,rfl,rfl,rfl,HA,HK2,BK101,HB⟩ := hrel
     cases gk with
     | zero => exact absurd HA.out (by simp [spec_DesirabilityOf.l0])
     | succ k2 =>
      have H := HA.out
      clear HA
      simp only [spec_DesirabilityOf.l0] at H
      by_cases c20 : 0 ≤ a0_0
      ·rw [if_pos c20] at H
       have c20b0 := eq_true c20
       have c20b1 : decide (0 ≤ a0_0) = true := decide_eq_true c20
       clear c20
       obtain ⟨ji21,hji21⟩ : ∃ j_ : Int,(shl .i64 1 a0_0) = j_ := ⟨_,rfl⟩
       replace H : (if x9_2 < (ji21) then (if 0 ≤ a1 then (if (Go.bits .and .i64 (shr .i64 x9_2 a1) 1) = 1 then (spec_DesirabilityOf.l0 k2 a1 a2 x7_2 x8_2 (wrap64 (x9_2 + 1)) a0_0 a0_1) else (if 0 ≤ a2 then (if (Go.bits .and .i64 (shr .i64 x9_2 a2) 1) = 1 then (spec_DesirabilityOf.l0 k2 a1 a2 x7_2 x8_2 (wrap64 (x9_2 + 1)) a0_0 a0_1) else (if 0 ≤ (Go.bits .or .i64 x9_2 (shl .i64 1 a1)) then (if 0 ≤ (Go.bits .or .i64 x9_2 (shl .i64 1 a2)) then (if x7_2 = true then (if x8_2 = true then (spec_DesirabilityOf.l0 k2 a1 a2 (decide ((Go.bits .and .i64 (shr .i64 a0_1 (Go.bits .or .i64 x9_2 (shl .i64 1 a1))) 1) ≥ (Go.bits .and .i64 (shr .i64 a0_1 (Go.bits .or .i64 x9_2 (shl .i64 1 a2))) 1))) (decide ((Go.bits .and .i64 (shr .i64 a0_1 (Go.bits .or .i64 x9_2 (shl .i64 1 a2))) 1) ≥ (Go.bits .and .i64 (shr .i64 a0_1 (Go.bits .or .i64 x9_2 (shl .i64 1 a1))) 1))) (wrap64 (x9_2 + 1)) a0_0 a0_1) else (spec_DesirabilityOf.l0 k2 a1 a2 (decide ((Go.bits .and .i64 (shr .i64 a0_1 (Go.bits .or .i64 x9_2 (shl .i64 1 a1))) 1) ≥ (Go.bits .and .i64 (shr .i64 a0_1 (Go.bits .or .i64 x9_2 (shl .i64 1 a2))) 1))) false (wrap64 (x9_2 + 1)) a0_0 a0_1)) else (if x8_2 = true then (spec_DesirabilityOf.l0 k2 a1 a2 false (decide ((Go.bits .and .i64 (shr .i64 a0_1 (Go.bits .or .i64 x9_2 (shl .i64 1 a2))) 1) ≥ (Go.bits .and .i64 (shr .i64 a0_1 (Go.bits .or .i64 x9_2 (shl .i64 1 a1))) 1))) (wrap64 (x9_2 + 1)) a0_0 a0_1) else (spec_DesirabilityOf.l0 k2 a1 a2 false false (wrap64 (x9_2 + 1)) a0_0 a0_1))) else (none)) else (none))) else (none))) else (none)) else (if x7_2 = true then (spec_DesirabilityOf.j2 k2 x7_2 x8_2 x8_2) else (spec_DesirabilityOf.j2 k2 x7_2 x8_2 false))) = some r := by first | (rw [hji21] at H;exact H) | (simp only [hji21] at H ⊢;exact H)
       have hji21_ : (IntKind.i64.wrap (1 * 2 ^ min a0_0.toNat 64)) = ji21 := hji21
       have hji21z : a0_0 ≤ 64 → (IntKind.i64.wrap (1 * 2 ^ a0_0.toNat)) = ji21 := shl_small hji21
       have hji21u : (IntKind.i64.wrap (2 ^ min a0_0.toNat 64)) = ji21 := by have h_ := hji21_;rw [Int.one_mul] at h_;exact h_
       have hji21v : a0_0 ≤ 64 → (IntKind.i64.wrap (2 ^ a0_0.toNat)) = ji21 := fun hle_ => by have h_ := hji21z hle_;rw [Int.one_mul] at h_;exact h_
       have hji21y : (wrap64 (1 * 2 ^ min a0_0.toNat 64)) = ji21 := (i64_w _).symm.trans hji21_
       have hji21x : a0_0 ≤ 64 → (wrap64 (1 * 2 ^ a0_0.toNat)) = ji21 := fun h_ => (i64_w _).symm.trans (hji21z h_)
       by_cases c22 : x9_2 < (ji21)
       ·rw [if_pos c22] at H
        have c22b0 : decide (x9_2 < (ji21)) = true := decide_eq_true c22
        clear c22
        by_cases c23 : 0 ≤ a1
        ·rw [if_pos c23] at H
         have c23b0 := eq_true c23
         have c23b1 : decide (0 ≤ a1) = true := decide_eq_true c23
         clear c23
         obtain ⟨ji24,hji24⟩ : ∃ j_ : Int,(shr .i64 x9_2 a1) = j_ := ⟨_,rfl⟩
         replace H : (if (Go.bits .and .i64 (ji24) 1) = 1 then (spec_DesirabilityOf.l0 k2 a1 a2 x7_2 x8_2 (wrap64 (x9_2 + 1)) a0_0 a0_1) else (if 0 ≤ a2 then (if (Go.bits .and .i64 (shr .i64 x9_2 a2) 1) = 1 then (spec_DesirabilityOf.l0 k2 a1 a2 x7_2 x8_2 (wrap64 (x9_2 + 1)) a0_0 a0_1) else (if 0 ≤ (Go.bits .or .i64 x9_2 (shl .i64 1 a1)) then (if 0 ≤ (Go.bits .or .i64 x9_2 (shl .i64 1 a2)) then (if x7_2 = true then (if x8_2 = true then (spec_DesirabilityOf.l0 k2 a1 a2 (decide ((Go.bits .and .i64 (shr .i64 a0_1 (Go.bits .or .i64 x9_2 (shl .i64 1 a1))) 1) ≥ (Go.bits .and .i64 (shr .i64 a0_1 (Go.bits .or .i64 x9_2 (shl .i64 1 a2))) 1))) (decide ((Go.bits .and .i64 (shr .i64 a0_1 (Go.bits .or .i64 x9_2 (shl .i64 1 a2))) 1) ≥ (Go.bits .and .i64 (shr .i64 a0_1 (Go.bits .or .i64 x9_2 (shl .i64 1 a1))) 1))) (wrap64 (x9_2 + 1)) a0_0 a0_1) else (spec_DesirabilityOf.l0 k2 a1 a2 (decide ((Go.bits .and .i64 (shr .i64 a0_1 (Go.bits .or .i64 x9_2 (shl .i64 1 a1))) 1) ≥ (Go.bits .and .i64 (shr .i64 a0_1 (Go.bits .or .i64 x9_2 (shl .i64 1 a2))) 1))) false (wrap64 (x9_2 + 1)) a0_0 a0_1)) else (if x8_2 = true then (spec_DesirabilityOf.l0 k2 a1 a2 false (decide ((Go.bits .and .i64 (shr .i64 a0_1 (Go.bits .or .i64 x9_2 (shl .i64 1 a2))) 1) ≥ (Go.bits .and .i64 (shr .i64 a0_1 (Go.bits .or .i64 x9_2 (shl .i64 1 a1))) 1))) (wrap64 (x9_2 + 1)) a0_0 a0_1) else (spec_DesirabilityOf.l0 k2 a1 a2 false false (wrap64 (x9_2 + 1)) a0_0 a0_1))) else (none)) else (none))) else (none))) = some r := by first | (rw [hji24] at H;exact H) | (simp only [hji24] at H ⊢;exact H)
         have hji24_ : (x9_2 / 2 ^ min a1.toNat 64) = ji24 := hji24
         have hji24z : a1 ≤ 64 → (x9_2 / 2 ^ a1.toNat) = ji24 := shr_small hji24
         by_cases c25 : (Go.bits .and .i64 (ji24) 1) = 1
         ·rw [if_pos c25] at H
          have c25b0 : ((Go.bits .and .i64 (ji24) 1) == 1) = true := beq_iff_eq.mpr c25
          have c25b1 : ((Go.bits .and .i64 (ji24) 1) != 1) = false := bne_eq_false_iff_eq.mpr c25
          clear c25
          have H' := aZ_ H
          clear H
          have hcz26_0 : wr.cell? ⟨gb101,0,none⟩ = some (.int .i64 a0_0) := (blk_cell BK101.out 0).trans rfl
          have hcz26_1 : wr.cell? ⟨gb101,1,none⟩ = some (.int .i64 a0_1) := (blk_cell BK101.out 1).trans rfl
          have hfz26_0 := blk_frozen BK101.out 0
          have hfz26_1 := blk_frozen BK101.out 1
          go_wp2
          repeat (go_quiet (fail);try go_wp2)
          go_roundg k2
          case measure => have := HJ3.out;have := HK2.out;omega
          case rel => exact ⟨(x7_2),(x8_2),(wrap64 (x9_2 + 1)),T6_,T6_,T6_,H',⟨by have := HJ3.out;have := HK2.out;omega⟩,⟨by (with_reducible repeat (first | refine blk_drewN ?_ _ | refine blk_drew ?_ | refine blk_alloc ?_ _));exact BK101.out⟩,⟨by repeat (first | (with_reducible first | exact HB.out | apply below_alloc | apply pw_below_drewN | apply below_drew1 | refine below_set ?_ GE101.out) | exact HB.out)⟩⟩
         ·rw [if_neg c25] at H
          have c25b0 : ((Go.bits .and .i64 (ji24) 1) == 1) = false := beq_eq_false_iff_ne.mpr c25
          have c25b1 : ((Go.bits .and .i64 (ji24) 1) != 1) = true := bne_iff_ne.mpr c25
          by_cases c27 : 0 ≤ a2
          ·rw [if_pos c27] at H
           have c27b0 := eq_true c27
           have c27b1 : decide (0 ≤ a2) = true := decide_eq_true c27
           clear c27
           obtain ⟨ji28,hji28⟩ : ∃ j_ : Int,(shr .i64 x9_2 a2) = j_ := ⟨_,rfl⟩
           replace H : (if (Go.bits .and .i64 (ji28) 1) = 1 then (spec_DesirabilityOf.l0 k2 a1 a2 x7_2 x8_2 (wrap64 (x9_2 + 1)) a0_0 a0_1) else (if 0 ≤ (Go.bits .or .i64 x9_2 (shl .i64 1 a1)) then (if 0 ≤ (Go.bits .or .i64 x9_2 (shl .i64 1 a2)) then (if x7_2 = true then (if x8_2 = true then (spec_DesirabilityOf.l0 k2 a1 a2 (decide ((Go.bits .and .i64 (shr .i64 a0_1 (Go.bits .or .i64 x9_2 (shl .i64 1 a1))) 1) ≥ (Go.bits .and .i64 (shr .i64 a0_1 (Go.bits .or .i64 x9_2 (shl .i64 1 a2))) 1))) (decide ((Go.bits .and .i64 (shr .i64 a0_1 (Go.bits .or .i64 x9_2 (shl .i64 1 a2))) 1) ≥ (Go.bits .and .i64 (shr .i64 a0_1 (Go.bits .or .i64 x9_2 (shl .i64 1 a1))) 1))) (wrap64 (x9_2 + 1)) a0_0 a0_1) else (spec_DesirabilityOf.l0 k2 a1 a2 (decide ((Go.bits .and .i64 (shr .i64 a0_1 (Go.bits .or .i64 x9_2 (shl .i64 1 a1))) 1) ≥ (Go.bits .and .i64 (shr .i64 a0_1 (Go.bits .or .i64 x9_2 (shl .i64 1 a2))) 1))) false (wrap64 (x9_2 + 1)) a0_0 a0_1)) else (if x8_2 = true then (spec_DesirabilityOf.l0 k2 a1 a2 false (decide ((Go.bits .and .i64 (shr .i64 a0_1 (Go.bits .or .i64 x9_2 (shl .i64 1 a2))) 1) ≥ (Go.bits .and .i64 (shr .i64 a0_1 (Go.bits .or .i64 x9_2 (shl .i64 1 a1))) 1))) (wrap64 (x9_2 + 1)) a0_0 a0_1) else (spec_DesirabilityOf.l0 k2 a1 a2 false false (wrap64 (x9_2 + 1)) a0_0 a0_1))) else (none)) else (none))) = some r := by first | (rw [hji28] at H;exact H) | (simp only [hji28] at H ⊢;exact H)
           have hji28_ : (x9_2 / 2 ^ min a2.toNat 64) = ji28 := hji28
           have hji28z : a2 ≤ 64 → (x9_2 / 2 ^ a2.toNat) = ji28 := shr_small hji28
           by_cases c29 : (Go.bits .and .i64 (ji28) 1) = 1
           ·rw [if_pos c29] at H
            have c29b0 : ((Go.bits .and .i64 (ji28) 1) == 1) = true := beq_iff_eq.mpr c29
            have c29b1 : ((Go.bits .and .i64 (ji28) 1) != 1) = false := bne_eq_false_iff_eq.mpr c29
            clear c29
            have H' := aZ_ H
            clear H
            have hcz30_0 : wr.cell? ⟨gb101,0,none⟩ = some (.int .i64 a0_0) := (blk_cell BK101.out 0).trans rfl
            have hcz30_1 : wr.cell? ⟨gb101,1,none⟩ = some (.int .i64 a0_1) := (blk_cell BK101.out 1).trans rfl
            have hfz30_0 := blk_frozen BK101.out 0
            have hfz30_1 := blk_frozen BK101.out 1
            go_wp2
            repeat (go_quiet (fail);try go_wp2)
            go_roundg k2
            case measure => have := HJ3.out;have := HK2.out;omega
            case rel => exact ⟨(x7_2),(x8_2),(wrap64 (x9_2 + 1)),T6_,T6_,T6_,H',⟨by have := HJ3.out;have := HK2.out;omega⟩,⟨by (with_reducible repeat (first | refine blk_drewN ?_ _ | refine blk_drew ?_ | refine blk_alloc ?_ _));exact BK101.out⟩,⟨by repeat (first | (with_reducible first | exact HB.out | apply below_alloc | apply pw_below_drewN | apply below_drew1 | refine below_set ?_ GE101.out) | exact HB.out)⟩⟩
           ·rw [if_neg c29] at H
            have c29b0 : ((Go.bits .and .i64 (ji28) 1) == 1) = false := beq_eq_false_iff_ne.mpr c29
            have c29b1 : ((Go.bits .and .i64 (ji28) 1) != 1) = true := bne_iff_ne.mpr c29
            have c31b0 := eq_true (of_decide_eq_true T13_ : 0 ≤ a1)
            obtain ⟨ji32,hji32⟩ : ∃ j_ : Int,(shl .i64 1 a1) = j_ := ⟨_,rfl⟩
            replace H : (if 0 ≤ (Go.bits .or .i64 x9_2 (ji32)) then (if 0 ≤ (Go.bits .or .i64 x9_2 (shl .i64 1 a2)) then (if x7_2 = true then (if x8_2 = true then (spec_DesirabilityOf.l0 k2 a1 a2 (decide ((Go.bits .and .i64 (shr .i64 a0_1 (Go.bits .or .i64 x9_2 (ji32))) 1) ≥ (Go.bits .and .i64 (shr .i64 a0_1 (Go.bits .or .i64 x9_2 (shl .i64 1 a2))) 1))) (decide ((Go.bits .and .i64 (shr .i64 a0_1 (Go.bits .or .i64 x9_2 (shl .i64 1 a2))) 1) ≥ (Go.bits .and .i64 (shr .i64 a0_1 (Go.bits .or .i64 x9_2 (ji32))) 1))) (wrap64 (x9_2 + 1)) a0_0 a0_1) else (spec_DesirabilityOf.l0 k2 a1 a2 (decide ((Go.bits .and .i64 (shr .i64 a0_1 (Go.bits .or .i64 x9_2 (ji32))) 1) ≥ (Go.bits .and .i64 (shr .i64 a0_1 (Go.bits .or .i64 x9_2 (shl .i64 1 a2))) 1))) false (wrap64 (x9_2 + 1)) a0_0 a0_1)) else (if x8_2 = true then (spec_DesirabilityOf.l0 k2 a1 a2 false (decide ((Go.bits .and .i64 (shr .i64 a0_1 (Go.bits .or .i64 x9_2 (shl .i64 1 a2))) 1) ≥ (Go.bits .and .i64 (shr .i64 a0_1 (Go.bits .or .i64 x9_2 (ji32))) 1))) (wrap64 (x9_2 + 1)) a0_0 a0_1) else (spec_DesirabilityOf.l0 k2 a1 a2 false false (wrap64 (x9_2 + 1)) a0_0 a0_1))) else (none)) else (none)) = some r := by first | (rw [hji32] at H;exact H) | (simp only [hji32] at H ⊢;exact H)
            have hji32_ : (IntKind.i64.wrap (1 * 2 ^ min a1.toNat 64)) = ji32 := hji32
            have hji32z : a1 ≤ 64 → (IntKind.i64.wrap (1 * 2 ^ a1.toNat)) = ji32 := shl_small hji32
            have hji32u : (IntKind.i64.wrap (2 ^ min a1.toNat 64)) = ji32 := by have h_ := hji32_;rw [Int.one_mul] at h_;exact h_
            have hji32v : a1 ≤ 64 → (IntKind.i64.wrap (2 ^ a1.toNat)) = ji32 := fun hle_ => by have h_ := hji32z hle_;rw [Int.one_mul] at h_;exact h_
            have hji32y : (wrap64 (1 * 2 ^ min a1.toNat 64)) = ji32 := (i64_w _).symm.trans hji32_
            have hji32x : a1 ≤ 64 → (wrap64 (1 * 2 ^ a1.toNat)) = ji32 := fun h_ => (i64_w _).symm.trans (hji32z h_)
            by_cases c33 : 0 ≤ (Go.bits .or .i64 x9_2 (ji32))
            ·rw [if_pos c33] at H
             have c33b0 := eq_true c33
             have c33b1 : decide (0 ≤ (Go.bits .or .i64 x9_2 (ji32))) = true := decide_eq_true c33
             clear c33
             obtain ⟨ji34,hji34⟩ : ∃ j_ : Int,(shr .i64 a0_1 (Go.bits .or .i64 x9_2 (ji32))) = j_ := ⟨_,rfl⟩
             replace H : (if 0 ≤ (Go.bits .or .i64 x9_2 (shl .i64 1 a2)) then (if x7_2 = true then (if x8_2 = true then (spec_DesirabilityOf.l0 k2 a1 a2 (decide ((Go.bits .and .i64 (ji34) 1) ≥ (Go.bits .and .i64 (shr .i64 a0_1 (Go.bits .or .i64 x9_2 (shl .i64 1 a2))) 1))) (decide ((Go.bits .and .i64 (shr .i64 a0_1 (Go.bits .or .i64 x9_2 (shl .i64 1 a2))) 1) ≥ (Go.bits .and .i64 (ji34) 1))) (wrap64 (x9_2 + 1)) a0_0 a0_1) else (spec_DesirabilityOf.l0 k2 a1 a2 (decide ((Go.bits .and .i64 (ji34) 1) ≥ (Go.bits .and .i64 (shr .i64 a0_1 (Go.bits .or .i64 x9_2 (shl .i64 1 a2))) 1))) false (wrap64 (x9_2 + 1)) a0_0 a0_1)) else (if x8_2 = true then (spec_DesirabilityOf.l0 k2 a1 a2 false (decide ((Go.bits .and .i64 (shr .i64 a0_1 (Go.bits .or .i64 x9_2 (shl .i64 1 a2))) 1) ≥ (Go.bits .and .i64 (ji34) 1))) (wrap64 (x9_2 + 1)) a0_0 a0_1) else (spec_DesirabilityOf.l0 k2 a1 a2 false false (wrap64 (x9_2 + 1)) a0_0 a0_1))) else (none)) = some r := by first | (rw [hji34] at H;exact H) | (simp only [hji34] at H ⊢;exact H)
             have hji34_ : (a0_1 / 2 ^ min (Go.bits .or .i64 x9_2 (ji32)).toNat 64) = ji34 := hji34
             have hji34z : (Go.bits .or .i64 x9_2 (ji32)) ≤ 64 → (a0_1 / 2 ^ (Go.bits .or .i64 x9_2 (ji32)).toNat) = ji34 := shr_small hji34
             have c35b0 := eq_true (of_decide_eq_true T13_ : 0 ≤ a2)
             obtain ⟨ji36,hji36⟩ : ∃ j_ : Int,(shl .i64 1 a2) = j_ := ⟨_,rfl⟩
             replace H : (if 0 ≤ (Go.bits .or .i64 x9_2 (ji36)) then (if x7_2 = true then (if x8_2 = true then (spec_DesirabilityOf.l0 k2 a1 a2 (decide ((Go.bits .and .i64 (ji34) 1) ≥ (Go.bits .and .i64 (shr .i64 a0_1 (Go.bits .or .i64 x9_2 (ji36))) 1))) (decide ((Go.bits .and .i64 (shr .i64 a0_1 (Go.bits .or .i64 x9_2 (ji36))) 1) ≥ (Go.bits .and .i64 (ji34) 1))) (wrap64 (x9_2 + 1)) a0_0 a0_1) else (spec_DesirabilityOf.l0 k2 a1 a2 (decide ((Go.bits .and .i64 (ji34) 1) ≥ (Go.bits .and .i64 (shr .i64 a0_1 (Go.bits .or .i64 x9_2 (ji36))) 1))) false (wrap64 (x9_2 + 1)) a0_0 a0_1)) else (if x8_2 = true then (spec_DesirabilityOf.l0 k2 a1 a2 false (decide ((Go.bits .and .i64 (shr .i64 a0_1 (Go.bits .or .i64 x9_2 (ji36))) 1) ≥ (Go.bits .and .i64 (ji34) 1))) (wrap64 (x9_2 + 1)) a0_0 a0_1) else (spec_DesirabilityOf.l0 k2 a1 a2 false false (wrap64 (x9_2 + 1)) a0_0 a0_1))) else (none)) = some r := by first | (rw [hji36] at H;exact H) | (simp only [hji36] at H ⊢;exact H)
             have hji36_ : (IntKind.i64.wrap (1 * 2 ^ min a2.toNat 64)) = ji36 := hji36
             have hji36z : a2 ≤ 64 → (IntKind.i64.wrap (1 * 2 ^ a2.toNat)) = ji36 := shl_small hji36
             have hji36u : (IntKind.i64.wrap (2 ^ min a2.toNat 64)) = ji36 := by have h_ := hji36_;rw [Int.one_mul] at h_;exact h_
             have hji36v : a2 ≤ 64 → (IntKind.i64.wrap (2 ^ a2.toNat)) = ji36 := fun hle_ => by have h_ := hji36z hle_;rw [Int.one_mul] at h_;exact h_
             have hji36y : (wrap64 (1 * 2 ^ min a2.toNat 64)) = ji36 := (i64_w _).symm.trans hji36_
             have hji36x : a2 ≤ 64 → (wrap64 (1 * 2 ^ a2.toNat)) = ji36 := fun h_ => (i64_w _).symm.trans (hji36z h_)
             by_cases c37 : 0 ≤ (Go.bits .or .i64 x9_2 (ji36))
             ·rw [if_pos c37] at H
              have c37b0 := eq_true c37
              have c37b1 : decide (0 ≤ (Go.bits .or .i64 x9_2 (ji36))) = true := decide_eq_true c37
              clear c37
              obtain ⟨ji38,hji38⟩ : ∃ j_ : Int,(shr .i64 a0_1 (Go.bits .or .i64 x9_2 (ji36))) = j_ := ⟨_,rfl⟩
              replace H : (if x7_2 = true then (if x8_2 = true then (spec_DesirabilityOf.l0 k2 a1 a2 (decide ((Go.bits .and .i64 (ji34) 1) ≥ (Go.bits .and .i64 (ji38) 1))) (decide ((Go.bits .and .i64 (ji38) 1) ≥ (Go.bits .and .i64 (ji34) 1))) (wrap64 (x9_2 + 1)) a0_0 a0_1) else (spec_DesirabilityOf.l0 k2 a1 a2 (decide ((Go.bits .and .i64 (ji34) 1) ≥ (Go.bits .and .i64 (ji38) 1))) false (wrap64 (x9_2 + 1)) a0_0 a0_1)) else (if x8_2 = true then (spec_DesirabilityOf.l0 k2 a1 a2 false (decide ((Go.bits .and .i64 (ji38) 1) ≥ (Go.bits .and .i64 (ji34) 1))) (wrap64 (x9_2 + 1)) a0_0 a0_1) else (spec_DesirabilityOf.l0 k2 a1 a2 false false (wrap64 (x9_2 + 1)) a0_0 a0_1))) = some r := by first | (rw [hji38] at H;exact H) | (simp only [hji38] at H ⊢;exact H)
              have hji38_ : (a0_1 / 2 ^ min (Go.bits .or .i64 x9_2 (ji36)).toNat 64) = ji38 := hji38
              have hji38z : (Go.bits .or .i64 x9_2 (ji36)) ≤ 64 → (a0_1 / 2 ^ (Go.bits .or .i64 x9_2 (ji36)).toNat) = ji38 := shr_small hji38
              by_cases c39 : x7_2 = true
              ·subst c39
               have H1 : (if x8_2 = true then (spec_DesirabilityOf.l0 k2 a1 a2 (decide ((Go.bits .and .i64 (ji34) 1) ≥ (Go.bits .and .i64 (ji38) 1))) (decide ((Go.bits .and .i64 (ji38) 1) ≥ (Go.bits .and .i64 (ji34) 1))) (wrap64 (x9_2 + 1)) a0_0 a0_1) else (spec_DesirabilityOf.l0 k2 a1 a2 (decide ((Go.bits .and .i64 (ji34) 1) ≥ (Go.bits .and .i64 (ji38) 1))) false (wrap64 (x9_2 + 1)) a0_0 a0_1)) = some r := by rw [if_pos rfl] at H;exact H
               clear H
               have H := H1
               clear H1
               by_cases c40 : x8_2 = true
               ·subst c40
                have H1 : (spec_DesirabilityOf.l0 k2 a1 a2 (decide ((Go.bits .and .i64 (ji34) 1) ≥ (Go.bits .and .i64 (ji38) 1))) (decide ((Go.bits .and .i64 (ji38) 1) ≥ (Go.bits .and .i64 (ji34) 1))) (wrap64 (x9_2 + 1)) a0_0 a0_1) = some r := by rw [if_pos rfl] at H;exact H
                clear H
                have H := H1
                clear H1
                have H' := aZ_ H
                clear H
                have hcz41_0 : wr.cell? ⟨gb101,0,none⟩ = some (.int .i64 a0_0) := (blk_cell BK101.out 0).trans rfl
                have hcz41_1 : wr.cell? ⟨gb101,1,none⟩ = some (.int .i64 a0_1) := (blk_cell BK101.out 1).trans rfl
                have hfz41_0 := blk_frozen BK101.out 0
                have hfz41_1 := blk_frozen BK101.out 1
                go_wp2
                repeat (go_quiet (fail);try go_wp2)
                go_roundg k2
                case measure => have := HJ3.out;have := HK2.out;omega
                case rel => exact ⟨(decide ((Go.bits .and .i64 (ji34) 1) ≥ (Go.bits .and .i64 (ji38) 1))),(decide ((Go.bits .and .i64 (ji38) 1) ≥ (Go.bits .and .i64 (ji34) 1))),(wrap64 (x9_2 + 1)),T49_,T49_,T6_,H',⟨by have := HJ3.out;have := HK2.out;omega⟩,⟨by (with_reducible repeat (first | refine blk_drewN ?_ _ | refine blk_drew ?_ | refine blk_alloc ?_ _));exact BK101.out⟩,⟨by repeat (first | (with_reducible first | exact HB.out | apply below_alloc | apply pw_below_drewN | apply below_drew1 | refine below_set ?_ GE101.out) | exact HB.out)⟩⟩
               ·replace c40 := Bool.eq_false_iff.mpr c40
                subst c40
                have H1 : (spec_DesirabilityOf.l0 k2 a1 a2 (decide ((Go.bits .and .i64 (ji34) 1) ≥ (Go.bits .and .i64 (ji38) 1))) false (wrap64 (x9_2 + 1)) a0_0 a0_1) = some r := by rw [if_neg (show ¬ (false = true) by decide)] at H;exact H
                clear H
                have H := H1
                clear H1
                have H' := aZ_ H
                clear H
                have hcz42_0 : wr.cell? ⟨gb101,0,none⟩ = some (.int .i64 a0_0) := (blk_cell BK101.out 0).trans rfl
                have hcz42_1 : wr.cell? ⟨gb101,1,none⟩ = some (.int .i64 a0_1) := (blk_cell BK101.out 1).trans rfl
                have hfz42_0 := blk_frozen BK101.out 0
                have hfz42_1 := blk_frozen BK101.out 1
                go_wp2
                repeat (go_quiet (fail);try go_wp2)
                go_roundg k2
                case measure => have := HJ3.out;have := HK2.out;omega
                case rel => exact ⟨(decide ((Go.bits .and .i64 (ji34) 1) ≥ (Go.bits .and .i64 (ji38) 1))),(false),(wrap64 (x9_2 + 1)),T49_,T6_,T6_,H',⟨by have := HJ3.out;have := HK2.out;omega⟩,⟨by (with_reducible repeat (first | refine blk_drewN ?_ _ | refine blk_drew ?_ | refine blk_alloc ?_ _));exact BK101.out⟩,⟨by repeat (first | (with_reducible first | exact HB.out | apply below_alloc | apply pw_below_drewN | apply below_drew1 | refine below_set ?_ GE101.out) | exact HB.out)⟩⟩
              ·replace c39 := Bool.eq_false_iff.mpr c39
               subst c39
               have H1 : (if x8_2 = true then (spec_DesirabilityOf.l0 k2 a1 a2 false (decide ((Go.bits .and .i64 (ji38) 1) ≥ (Go.bits .and .i64 (ji34) 1))) (wrap64 (x9_2 + 1)) a0_0 a0_1) else (spec_DesirabilityOf.l0 k2 a1 a2 false false (wrap64 (x9_2 + 1)) a0_0 a0_1)) = some r := by rw [if_neg (show ¬ (false = true) by decide)] at H;exact H
               clear H
               have H := H1
               clear H1
               by_cases c43 : x8_2 = true
               ·subst c43
                have H1 : (spec_DesirabilityOf.l0 k2 a1 a2 false (decide ((Go.bits .and .i64 (ji38) 1) ≥ (Go.bits .and .i64 (ji34) 1))) (wrap64 (x9_2 + 1)) a0_0 a0_1) = some r := by rw [if_pos rfl] at H;exact H
                clear H
                have H := H1
                clear H1
                have H' := aZ_ H
                clear H
                have hcz44_0 : wr.cell? ⟨gb101,0,none⟩ = some (.int .i64 a0_0) := (blk_cell BK101.out 0).trans rfl
                have hcz44_1 : wr.cell? ⟨gb101,1,none⟩ = some (.int .i64 a0_1) := (blk_cell BK101.out 1).trans rfl
                have hfz44_0 := blk_frozen BK101.out 0
                have hfz44_1 := blk_frozen BK101.out 1
                go_wp2
                repeat (go_quiet (fail);try go_wp2)
                go_roundg k2
                case measure => have := HJ3.out;have := HK2.out;omega
                case rel => exact ⟨(false),(decide ((Go.bits .and .i64 (ji38) 1) ≥ (Go.bits .and .i64 (ji34) 1))),(wrap64 (x9_2 + 1)),T6_,T49_,T6_,H',⟨by have := HJ3.out;have := HK2.out;omega⟩,⟨by (with_reducible repeat (first | refine blk_drewN ?_ _ | refine blk_drew ?_ | refine blk_alloc ?_ _));exact BK101.out⟩,⟨by repeat (first | (with_reducible first | exact HB.out | apply below_alloc | apply pw_below_drewN | apply below_drew1 | refine below_set ?_ GE101.out) | exact HB.out)⟩⟩
               ·replace c43 := Bool.eq_false_iff.mpr c43
                subst c43
                have H1 : (spec_DesirabilityOf.l0 k2 a1 a2 false false (wrap64 (x9_2 + 1)) a0_0 a0_1) = some r := by rw [if_neg (show ¬ (false = true) by decide)] at H;exact H
                clear H
                have H := H1
                clear H1
                have H' := aZ_ H
                clear H
                have hcz45_0 : wr.cell? ⟨gb101,0,none⟩ = some (.int .i64 a0_0) := (blk_cell BK101.out 0).trans rfl
                have hcz45_1 : wr.cell? ⟨gb101,1,none⟩ = some (.int .i64 a0_1) := (blk_cell BK101.out 1).trans rfl
                have hfz45_0 := blk_frozen BK101.out 0
                have hfz45_1 := blk_frozen BK101.out 1
                go_wp2
                repeat (go_quiet (fail);try go_wp2)
                go_roundg k2
                case measure => have := HJ3.out;have := HK2.out;omega
                case rel => exact ⟨(false),(false),(wrap64 (x9_2 + 1)),T6_,T6_,T6_,H',⟨by have := HJ3.out;have := HK2.out;omega⟩,⟨by (with_reducible repeat (first | refine blk_drewN ?_ _ | refine blk_drew ?_ | refine blk_alloc ?_ _));exact BK101.out⟩,⟨by repeat (first | (with_reducible first | exact HB.out | apply below_alloc | apply pw_below_drewN | apply below_drew1 | refine below_set ?_ GE101.out) | exact HB.out)⟩⟩
             ·rw [if_neg c37] at H
              exact absurd H T40_
            ·rw [if_neg c33] at H
             exact absurd H T40_
          ·rw [if_neg c27] at H
           exact absurd H T40_
        ·rw [if_neg c23] at H
         exact absurd H T40_
       ·rw [if_neg c22] at H
        have c22b0 : decide (x9_2 < (ji21)) = false := decide_eq_false c22
        clear c22
        have HC46 := aZ_ H
        clear H
        have hcz47_0 : wr.cell? ⟨gb101,0,none⟩ = some (.int .i64 a0_0) := (blk_cell BK101.out 0).trans rfl
        have hcz47_1 : wr.cell? ⟨gb101,1,none⟩ = some (.int .i64 a0_1) := (blk_cell BK101.out 1).trans rfl
        have hfz47_0 := blk_frozen BK101.out 0
        have hfz47_1 := blk_frozen BK101.out 1
        go_upto_region 13 with (fail)
        repeat (go_quiet (fail);go_upto_region 13 with (fail))
        go_cut [78] (fun v78 wc => ∃ (kq : Nat) (x78_45 : Bool),v78 = .bool x78_45 ∧ Aside0 (spec_DesirabilityOf.j2 kq x7_2 x8_2 x78_45 = some r) ∧ Aside0 (kq ≤ k2) ∧ Aside0 (wc.heap[gb101]? = some (.cells #[.int .i64 a0_0,.int .i64 a0_1] 25 (0,0))) ∧ Aside0 (Below w.heap.size w wc))
        case first =>
         have H := HC46.out
         clear HC46
         by_cases c48 : x7_2 = true
         ·subst c48
          have H1 : (spec_DesirabilityOf.j2 k2 true x8_2 x8_2) = some r := by rw [if_pos rfl] at H;exact H
          clear H
          have H := H1
          clear H1
          have H' := aZ_ H
          clear H
          go_wp2
          repeat (go_quiet (fail);try go_wp2)
          go_meet
          case rel => exact ⟨_,(x8_2),T6_,H',⟨by have := HJ3.out;have := HK2.out;first | omega | exact Nat.le_refl _⟩,⟨by (with_reducible repeat (first | refine blk_drewN ?_ _ | refine blk_drew ?_ | refine blk_alloc ?_ _));exact BK101.out⟩,⟨by repeat (first | (with_reducible first | exact HB.out | apply below_alloc | apply pw_below_drewN | apply below_drew1 | refine below_set ?_ GE101.out) | exact HB.out)⟩⟩
         ·replace c48 := Bool.eq_false_iff.mpr c48
          subst c48
          have H1 : (spec_DesirabilityOf.j2 k2 false x8_2 false) = some r := by rw [if_neg (show ¬ (false = true) by decide)] at H;exact H
          clear H
          have H := H1
          clear H1
          have H' := aZ_ H
          clear H
          go_wp2
          repeat (go_quiet (fail);try go_wp2)
          go_meet
          case rel => exact ⟨_,(false),T6_,H',⟨by have := HJ3.out;have := HK2.out;first | omega | exact Nat.le_refl _⟩,⟨by (with_reducible repeat (first | refine blk_drewN ?_ _ | refine blk_drew ?_ | refine blk_alloc ?_ _));exact BK101.out⟩,⟨by repeat (first | (with_reducible first | exact HB.out | apply below_alloc | apply pw_below_drewN | apply below_drew1 | refine below_set ?_ GE101.out) | exact HB.out)⟩⟩
        case rest =>
         clear HC46
         try clear c1
         try clear c2
         try clear p2
         try clear c3
         try clear c4
         try clear p6
         try clear c7
         try clear c9
         try clear c19
         try clear c20
         try clear c20b0
         try clear c20b1
         try clear c22
         try clear c22b0
         try clear c23
         try clear c23b0
         try clear c23b1
         try clear c25
         try clear c25b0
         try clear c25b1
         try clear c26
         try clear c27
         try clear c27b0
         try clear c27b1
         try clear c29
         try clear c29b0
         try clear c29b1
         try clear c31
         try clear c31b0
         try clear c33
         try clear c33b0
         try clear c33b1
         try clear c35
         try clear c35b0
         try clear c37
         try clear c37b0
         try clear c37b1
         try clear c39
         try clear c40
         try clear c43
         try clear c48
         try clear hcz11_0
         try clear hcz11_1
         try clear hcz13_0
         try clear hcz13_1
         try clear hcz14_0
         try clear hcz14_1
         try clear hcz16_0
         try clear hcz16_1
         try clear hcz17_0
         try clear hcz17_1
         try clear hcz26_0
         try clear hcz26_1
         try clear hcz30_0
         try clear hcz30_1
         try clear hcz41_0
         try clear hcz41_1
         try clear hcz42_0
         try clear hcz42_1
         try clear hcz44_0
         try clear hcz44_1
         try clear hcz45_0
         try clear hcz45_1
         try clear hcz47_0
         try clear hcz47_1
         try clear hfz11_0
         try clear hfz11_1
         try clear hfz13_0
         try clear hfz13_1
         try clear hfz14_0
         try clear hfz14_1
         try clear hfz16_0
         try clear hfz16_1
         try clear hfz17_0
         try clear hfz17_1
         try clear hfz26_0
         try clear hfz26_1
         try clear hfz30_0
         try clear hfz30_1
         try clear hfz41_0
         try clear hfz41_1
         try clear hfz42_0
         try clear hfz42_1
         try clear hfz44_0
         try clear hfz44_1
         try clear hfz45_0
         try clear hfz45_1
         try clear hfz47_0
         try clear hfz47_1
         try clear p2
         try clear p6
         obtain ⟨kq,x78_45,rfl,HA,HJ45,BK101,HB⟩ := hcut
         cases kq with
         | zero => exact absurd HA.out (by simp [spec_DesirabilityOf.j2])
         | succ kj45 =>
          have H := HA.out
          clear HA
          simp only [spec_DesirabilityOf.j2] at H
          by_cases c49 : x78_45 = true
          ·subst c49
           have H1 : (some 0) = some r := by rw [if_pos rfl] at H;exact H
           clear H
           have H := H1
           clear H1
           obtain rfl := Option.some.inj H
           go_wp2
           repeat (go_quiet (fail);try go_wp2)
           go_ret
           exact ⟨by first | rfl | (simp [errW_none,errW_some] <;> rfl) | (simp only [← hji21];first | rfl | (simp [errW_none,errW_some] <;> rfl)) | (simp [*,errW_none,errW_some] <;> rfl),by repeat (first | (with_reducible first | exact HB.out | apply below_alloc | apply pw_below_drewN | apply below_drew1 | refine below_set ?_ GE101.out) | exact HB.out)⟩
          ·replace c49 := Bool.eq_false_iff.mpr c49
           subst c49
           have H1 : (if x7_2 = true then (some 1) else (if x8_2 = true then (some (-1)) else (some 2))) = some r := by rw [if_neg (show ¬ (false = true) by decide)] at H;exact H
           clear H
           have H := H1
           clear H1
           by_cases c50 : x7_2 = true
           ·subst c50
            have H1 : (some 1) = some r := by rw [if_pos rfl] at H;exact H
            clear H
            have H := H1
            clear H1
            obtain rfl := Option.some.inj H
            go_wp2
            repeat (go_quiet (fail);try go_wp2)
            go_ret
            exact ⟨by first | rfl | (simp [errW_none,errW_some] <;> rfl) | (simp only [← hji21];first | rfl | (simp [errW_none,errW_some] <;> rfl)) | (simp [*,errW_none,errW_some] <;> rfl),by repeat (first | (with_reducible first | exact HB.out | apply below_alloc | apply pw_below_drewN | apply below_drew1 | refine below_set ?_ GE101.out) | exact HB.out)⟩
           ·replace c50 := Bool.eq_false_iff.mpr c50
            subst c50
            have H1 : (if x8_2 = true then (some (-1)) else (some 2)) = some r := by rw [if_neg (show ¬ (false = true) by decide)] at H;exact H
            clear H
            have H := H1
            clear H1
            by_cases c51 : x8_2 = true
            ·subst c51
             have H1 : (some (-1)) = some r := by rw [if_pos rfl] at H;exact H
             clear H
             have H := H1
             clear H1
             obtain rfl := Option.some.inj H
             go_wp2
             repeat (go_quiet (fail);try go_wp2)
             go_ret
             exact ⟨by first | rfl | (simp [errW_none,errW_some] <;> rfl) | (simp only [← hji21];first | rfl | (simp [errW_none,errW_some] <;> rfl)) | (simp [*,errW_none,errW_some] <;> rfl),by repeat (first | (with_reducible first | exact HB.out | apply below_alloc | apply pw_below_drewN | apply below_drew1 | refine below_set ?_ GE101.out) | exact HB.out)⟩
            ·replace c51 := Bool.eq_false_iff.mpr c51
             subst c51
             have H1 : (some 2) = some r := by rw [if_neg (show ¬ (false = true) by decide)] at H;exact H
             clear H
             have H := H1
             clear H1
             obtain rfl := Option.some.inj H
             go_wp2
             repeat (go_quiet (fail);try go_wp2)
             go_ret
             exact ⟨by first | rfl | (simp [errW_none,errW_some] <;> rfl) | (simp only [← hji21];first | rfl | (simp [errW_none,errW_some] <;> rfl)) | (simp [*,errW_none,errW_some] <;> rfl),by repeat (first | (with_reducible first | exact HB.out | apply below_alloc | apply pw_below_drewN | apply below_drew1 | refine below_set ?_ GE101.out) | exact HB.out)⟩
      ·rw [if_neg c20] at H
       exact absurd H T40_
end Go.Proofs.Ytmmdcbdchifniaa.F
