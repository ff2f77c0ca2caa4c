/- Walks of Go functions and lemmas on what they compute, for the row of FnPower (a part of several): each call ends as the Lean function of its name tells; the conditions are those of each theorem. -/
import Derived.Test.YtmmdcbdchifniaaM1FnPower
import Derived.Test.YtmmdcbdchifniaaM2FnPower
import Derived.Test.YtmmdcbdchifniaaM3FnPower
import Derived.Test.YtmmdcbdchifniaaM4FnPower
import Derived.Test.YtmmdcbdchifniaaM7FnPower
namespace Go.Proofs.Ytmmdcbdchifniaa.F
open Go.RowKit Go.Proofs.YtmmdcbdchifniaaW.PrintWords Go.Proofs.YtmmdcbdchifniaaW.PrintLast Go.Proofs.YtmmdcbdchifniaaW.PrintMore
attribute [local go_sem] max2_int min2_int max_two min_two max_three min_three max_four min_four 
set_option linter.unusedVariables false
set_option linter.unusedSimpArgs false
def impl_Table_isMonotone.l0 : Nat → Int → Int → Int → Int → Option (Bool)
 | 0,_,_,_,_ => none
 | k + 1,x5,x6,x102000,x102001 => if x6 < x5 then ((impl_Table_restrict.f x102000 x102001 x6 0).bind fun bt102 => ((impl_Table_restrict.f x102000 x102001 x6 1).bind fun bt104 => (if (Go.bits .andNot .i64 bt102.2 bt104.2) = 0 then (impl_Table_isMonotone.l0 k x5 (wrap64 (x6 + 1)) x102000 x102001) else (some false)))) else (some true)
def impl_Table_isMonotone.f (k : Nat) (a0_0 : Int) (a0_1 : Int) : Option (Bool) := impl_Table_isMonotone.l0 k a0_0 0 a0_0 a0_1
def impl_Table_isMonotone.T4 : Bool × List (List Nat × List Nat) := (true,[([],[]),([],[]),([0,1],[0,1]),([2],[2]),([],[]),([],[]),([4,5,2],[4,5]),([6],[6]),([3,7],[3,7]),([8],[8])])
def impl_Table_isMonotone.B4 : List Nat := [0,0,3,7,0,0,55,119,255,511]
theorem impl_Table_isMonotone.tab4 : rtab .any (opsOf Try.f59 4) = impl_Table_isMonotone.T4 := by kernel_rfl
theorem impl_Table_isMonotone.bits4 : waitsOk impl_Table_isMonotone.T4.2 impl_Table_isMonotone.B4 = true := by kernel_rfl
set_option maxHeartbeats 8000000 in
set_option maxRecDepth 100000 in
theorem impl_Table_isMonotone.calls (k : Nat) (a0_0 : Int) (a0_1 : Int) (r : Bool) (w : World) (h : impl_Table_isMonotone.f k a0_0 a0_1 = some r) :
  Calls Try.prog 59 #[.agg #[.int .i64 a0_0,.int .i64 a0_1]] w fun e w' => e = .returned (.bool r) ∧ Below w.heap.size w w' := by
 have hu25 := Try.underlying25
 have hfd25_1 : ∀ (x0_ x1_ : Int) (W : World),(Instr.field 25 (.agg #[.int .i64 x0_,.int .i64 x1_]) 1).run Try.prog W = .ok (.int .i64 x1_) W := fun _ _ _ => by kernel_rfl
 have HB := aZ_ (Below.refl w.heap.size w)
 have H : (impl_Table_isMonotone.l0 k a0_0 0 a0_0 a0_1) = some r := h
 clear h
 have H' := aZ_ H
 clear H
 go_enter Try.func59,Try.ntmps59
 go_wp2_with (first | ((with_reducible refine gate_dst (N := 1) rfl ?_);refine box_event ?hg (N := 1) ?hd (cs := #[.int .i64 a0_0,.int .i64 a0_1]) (t := 25) ?hr ?_;(case hd => rfl);(case hg => rfl);(case hr => first | (go_simp;done) | (go_simp;rfl));intro gb101 hg w2 hbox hb;have n0_ := aZ_ (below_step T5_ hb);have n1_ := aZ_ (hbox);have n2_ := aZ_ ((T3_ : w.heap.size ≤ gb101));have n3_ := aZ_ ((T3_ : w.heap.size ≤ gb101));clear HB;have HB := n0_;have BK101 := n1_;have GW101 := n2_;have GE101 := n3_;clear n0_ n1_ n2_ n3_;clear hb hbox hg;have hcz3_0 : w2.cell? ⟨gb101,0,none⟩ = some (.int .i64 a0_0) := (blk_cell BK101.out 0).trans rfl;have hcz3_1 : w2.cell? ⟨gb101,1,none⟩ = some (.int .i64 a0_1) := (blk_cell BK101.out 1).trans rfl;have hfz3_0 := blk_frozen BK101.out 0;have hfz3_1 := blk_frozen BK101.out 1))
 go_loopg [6] k (fun kq v6 w' => ∃ (x6_1 : Int),v6 = .int .i64 x6_1 ∧ Aside0 (impl_Table_isMonotone.l0 kq a0_0 x6_1 a0_0 a0_1 = some r) ∧ Aside0 (kq ≤ k) ∧ Aside0 (w'.heap[gb101]? = some (.cells #[.int .i64 a0_0,.int .i64 a0_1] 25 (0,0))) ∧ Aside0 (Below w.heap.size w w'))
 case atStart => exact ⟨(0),T6_,H',⟨Nat.le_refl _⟩,⟨by (with_reducible repeat (first | refine blk_drewN ?_ _ | refine blk_drew ?_ | refine blk_alloc ?_ _));exact BK101.out⟩,⟨by repeat (first | (with_reducible first | exact HB.out | apply below_alloc | apply pw_below_drewN | apply below_drew1 | refine below_set ?_ GE101.out) | exact HB.out)⟩⟩
 case round =>
  clear H'
  try clear p2
  try clear hcz3_0
  try clear hcz3_1
  try clear hfz3_0
  try clear hfz3_1
  obtain ⟨x6_1,rfl,HA,HK1,BK101,HB⟩ := hrel
  cases gk with
  | zero => exact absurd HA.out (by simp [impl_Table_isMonotone.l0])
  | succ k1 =>
   have H := HA.out
   clear HA
   simp only [impl_Table_isMonotone.l0] at H
   by_cases c4 : x6_1 < a0_0
   ·rw [if_pos c4] at H
    have c4b0 : decide (x6_1 < a0_0) = true := decide_eq_true c4
    clear c4
    replace H := Option.bind_eq_some_iff.mp H
    obtain ⟨⟨t102,t103⟩,A50,H⟩ := H
    replace H : ((impl_Table_restrict.f a0_0 a0_1 x6_1 1).bind fun bt104 => (if (Go.bits .andNot .i64 t103 bt104.2) = 0 then (impl_Table_isMonotone.l0 k1 a0_0 (wrap64 (x6_1 + 1)) a0_0 a0_1) else (some false))) = some r := H
    have A5 := aZ_ A50
    clear A50
    replace H := Option.bind_eq_some_iff.mp H
    obtain ⟨⟨t104,t105⟩,A60,H⟩ := H
    replace H : (if (Go.bits .andNot .i64 t103 t105) = 0 then (impl_Table_isMonotone.l0 k1 a0_0 (wrap64 (x6_1 + 1)) a0_0 a0_1) else (some false)) = some r := H
    have A6 := aZ_ A60
    clear A60
    by_cases c7 : (Go.bits .andNot .i64 t103 t105) = 0
    ·rw [if_pos c7] at H
     have c7b0 : ((Go.bits .andNot .i64 t103 t105) == 0) = true := beq_iff_eq.mpr c7
     have c7b1 : ((Go.bits .andNot .i64 t103 t105) != 0) = false := bne_eq_false_iff_eq.mpr c7
     clear c7
     have H' := aZ_ H
     clear H
     try go_wp2
     have n0_ := aZ_ (blk_drew BK101.out)
     have n1_ := aZ_ (below_drew1 HB.out)
     clear BK101
     clear HB
     have BK101 := n0_
     have HB := n1_
     clear n0_ n1_
     refine start_ (n := 10) (S := fun w' => w'.cell? ⟨gb101,0,none⟩ = some (.int .i64 a0_0) ∧ w'.cell? ⟨gb101,1,none⟩ = some (.int .i64 a0_1)) (ds := []) #[false,false,false,false,false,false,false,false,false,false] T12_ rfl rfl ⟨(blk_cell BK101.out 0).trans rfl,(blk_cell BK101.out 1).trans rfl⟩ (fun hHeld => ?_);refine with_tabW impl_Table_isMonotone.tab4 impl_Table_isMonotone.bits4 (fun HT_ HW_ => ?_)
     generalize wr.drew = w8 at BK101 HB hHeld ⊢
     refine pZ_ 1 (some 10) #[false,true,false,false,false,false,false,false,false,false] ?_
     refine pZ_ 5 (some 14) #[false,true,false,false,false,true,false,false,false,false] ?_
     refine tZ2_ 0 (some 9) #[true,true,false,false,false,true,false,false,false,false] hHeld ?_
     refine tZ2_ 4 (some 13) #[true,true,false,false,true,true,false,false,false,false] hHeld ?_
     refine one_ (i := 2) (N := some 11) #[true,true,true,false,true,true,false,false,false,false] rfl rfl (one_of HT_.out T12_) T35_ (fun K hK => ?_)
     refine gZ_ Try.func33 #[.agg #[.int .i64 a0_0,.int .i64 a0_1],.int .i64 x6_1,.int .i64 0] ?_
     with_reducible refine (impl_Table_restrict.calls a0_0 a0_1 x6_1 0 t102 t103 _ A5.out).mono ?_
     rintro e w9 ⟨rfl,hb⟩
     refine ⟨_,rfl,?_⟩
     have n0_ := aZ_ (blk_below (g := gb101) (o := .cells #[.int .i64 a0_0,.int .i64 a0_1] 25 (0,0)) T2_ hb)
     have n1_ := aZ_ (below_step T1_ hb)
     clear BK101
     clear HB
     have BK101 := n0_
     have HB := n1_
     clear n0_ n1_
     (try clear hb)
     (try clear hb2)
     (try clear hk)
     (try clear hi)
     refine hK.out _ _ ⟨(blk_cell BK101.out 0).trans rfl,(blk_cell BK101.out 1).trans rfl⟩ (fun hHeld => ?_)
     clear hK K
     refine norm_ (a' := ?_) ?_ ?_
     rotate_left
     ·show Act.put _ (some 11) _ = _
      simp only [Act.put,List.setIfInBounds_toArray,List.set_cons_zero,List.set_cons_succ,i64_w,i32_w]
      rfl
     refine pZ_ 3 (some 12) #[true,true,true,true,true,true,false,false,false,false] ?_
     refine one_ (i := 6) (N := some 15) #[true,true,true,true,true,true,true,false,false,false] rfl rfl (one_of HT_.out T12_) T35_ (fun K hK => ?_)
     refine gZ_ Try.func33 #[.agg #[.int .i64 a0_0,.int .i64 a0_1],.int .i64 x6_1,.int .i64 1] ?_
     with_reducible refine (impl_Table_restrict.calls a0_0 a0_1 x6_1 1 t104 t105 _ A6.out).mono ?_
     rintro e w10 ⟨rfl,hb⟩
     refine ⟨_,rfl,?_⟩
     have n0_ := aZ_ (blk_below (g := gb101) (o := .cells #[.int .i64 a0_0,.int .i64 a0_1] 25 (0,0)) T2_ hb)
     have n1_ := aZ_ (below_step T1_ hb)
     clear BK101
     clear HB
     have BK101 := n0_
     have HB := n1_
     clear n0_ n1_
     (try clear hb)
     (try clear hb2)
     (try clear hk)
     (try clear hi)
     refine hK.out _ _ ⟨(blk_cell BK101.out 0).trans rfl,(blk_cell BK101.out 1).trans rfl⟩ (fun hHeld => ?_)
     clear hK K
     refine norm_ (a' := ?_) ?_ ?_
     rotate_left
     ·show Act.put _ (some 15) _ = _
      simp only [Act.put,List.setIfInBounds_toArray,List.set_cons_zero,List.set_cons_succ,i64_w,i32_w]
      rfl
     refine pZ_ 7 (some 16) #[true,true,true,true,true,true,true,true,false,false] ?_
     refine pZ_ 8 (some 17) #[true,true,true,true,true,true,true,true,true,false] ?_
     refine pZ_ 9 (some 18) #[true,true,true,true,true,true,true,true,true,true] ?_
     refine done_ (done_of HT_.out T12_) ?_
     try go_wp2
     go_roundg k1
     case measure => have := HK1.out;omega
     case rel => exact ⟨(wrap64 (x6_1 + 1)),T6_,H',⟨by have := HK1.out;omega⟩,⟨by (with_reducible repeat (first | refine blk_drewN ?_ _ | refine blk_drew ?_ | refine blk_alloc ?_ _));exact BK101.out⟩,⟨by repeat (first | (with_reducible first | exact HB.out | apply below_alloc | apply pw_below_drewN | apply below_drew1 | refine below_set ?_ GE101.out) | exact HB.out)⟩⟩
    ·rw [if_neg c7] at H
     have c7b0 : ((Go.bits .andNot .i64 t103 t105) == 0) = false := beq_eq_false_iff_ne.mpr c7
     have c7b1 : ((Go.bits .andNot .i64 t103 t105) != 0) = true := bne_iff_ne.mpr c7
     obtain rfl := Option.some.inj H
     try go_wp2
     have n0_ := aZ_ (blk_drew BK101.out)
     have n1_ := aZ_ (below_drew1 HB.out)
     clear BK101
     clear HB
     have BK101 := n0_
     have HB := n1_
     clear n0_ n1_
     refine start_ (n := 10) (S := fun w' => w'.cell? ⟨gb101,0,none⟩ = some (.int .i64 a0_0) ∧ w'.cell? ⟨gb101,1,none⟩ = some (.int .i64 a0_1)) (ds := []) #[false,false,false,false,false,false,false,false,false,false] T12_ rfl rfl ⟨(blk_cell BK101.out 0).trans rfl,(blk_cell BK101.out 1).trans rfl⟩ (fun hHeld => ?_);refine with_tabW impl_Table_isMonotone.tab4 impl_Table_isMonotone.bits4 (fun HT_ HW_ => ?_)
     generalize wr.drew = w11 at BK101 HB hHeld ⊢
     refine pZ_ 1 (some 10) #[false,true,false,false,false,false,false,false,false,false] ?_
     refine pZ_ 5 (some 14) #[false,true,false,false,false,true,false,false,false,false] ?_
     refine tZ2_ 0 (some 9) #[true,true,false,false,false,true,false,false,false,false] hHeld ?_
     refine tZ2_ 4 (some 13) #[true,true,false,false,true,true,false,false,false,false] hHeld ?_
     refine one_ (i := 2) (N := some 11) #[true,true,true,false,true,true,false,false,false,false] rfl rfl (one_of HT_.out T12_) T35_ (fun K hK => ?_)
     refine gZ_ Try.func33 #[.agg #[.int .i64 a0_0,.int .i64 a0_1],.int .i64 x6_1,.int .i64 0] ?_
     with_reducible refine (impl_Table_restrict.calls a0_0 a0_1 x6_1 0 t102 t103 _ A5.out).mono ?_
     rintro e w12 ⟨rfl,hb⟩
     refine ⟨_,rfl,?_⟩
     have n0_ := aZ_ (blk_below (g := gb101) (o := .cells #[.int .i64 a0_0,.int .i64 a0_1] 25 (0,0)) T2_ hb)
     have n1_ := aZ_ (below_step T1_ hb)
     clear BK101
     clear HB
     have BK101 := n0_
     have HB := n1_
     clear n0_ n1_
     (try clear hb)
     (try clear hb2)
     (try clear hk)
     (try clear hi)
     refine hK.out _ _ ⟨(blk_cell BK101.out 0).trans rfl,(blk_cell BK101.out 1).trans rfl⟩ (fun hHeld => ?_)
     clear hK K
     refine norm_ (a' := ?_) ?_ ?_
     rotate_left
     ·show Act.put _ (some 11) _ = _
      simp only [Act.put,List.setIfInBounds_toArray,List.set_cons_zero,List.set_cons_succ,i64_w,i32_w]
      rfl
     refine pZ_ 3 (some 12) #[true,true,true,true,true,true,false,false,false,false] ?_
     refine one_ (i := 6) (N := some 15) #[true,true,true,true,true,true,true,false,false,false] rfl rfl (one_of HT_.out T12_) T35_ (fun K hK => ?_)
     refine gZ_ Try.func33 #[.agg #[.int .i64 a0_0,.int .i64 a0_1],.int .i64 x6_1,.int .i64 1] ?_
     with_reducible refine (impl_Table_restrict.calls a0_0 a0_1 x6_1 1 t104 t105 _ A6.out).mono ?_
     rintro e w13 ⟨rfl,hb⟩
     refine ⟨_,rfl,?_⟩
     have n0_ := aZ_ (blk_below (g := gb101) (o := .cells #[.int .i64 a0_0,.int .i64 a0_1] 25 (0,0)) T2_ hb)
     have n1_ := aZ_ (below_step T1_ hb)
     clear BK101
     clear HB
     have BK101 := n0_
     have HB := n1_
     clear n0_ n1_
     (try clear hb)
     (try clear hb2)
     (try clear hk)
     (try clear hi)
     refine hK.out _ _ ⟨(blk_cell BK101.out 0).trans rfl,(blk_cell BK101.out 1).trans rfl⟩ (fun hHeld => ?_)
     clear hK K
     refine norm_ (a' := ?_) ?_ ?_
     rotate_left
     ·show Act.put _ (some 15) _ = _
      simp only [Act.put,List.setIfInBounds_toArray,List.set_cons_zero,List.set_cons_succ,i64_w,i32_w]
      rfl
     refine pZ_ 7 (some 16) #[true,true,true,true,true,true,true,true,false,false] ?_
     refine pZ_ 8 (some 17) #[true,true,true,true,true,true,true,true,true,false] ?_
     refine pZ_ 9 (some 18) #[true,true,true,true,true,true,true,true,true,true] ?_
     refine done_ (done_of HT_.out T12_) ?_
     try go_wp2
     go_ret
     exact ⟨by first | rfl | (simp [errW_none,errW_some] <;> rfl) | (simp [*,errW_none,errW_some] <;> rfl),by repeat (first | (with_reducible first | exact HB.out | apply below_alloc | apply pw_below_drewN | apply below_drew1 | refine below_set ?_ GE101.out) | exact HB.out)⟩
   ·rw [if_neg c4] at H
    have c4b0 : decide (x6_1 < a0_0) = false := decide_eq_false c4
    clear c4
    obtain rfl := Option.some.inj H
    go_wp2
    go_ret
    exact ⟨by first | rfl | (simp [errW_none,errW_some] <;> rfl) | (simp [*,errW_none,errW_some] <;> rfl),by repeat (first | (with_reducible first | exact HB.out | apply below_alloc | apply pw_below_drewN | apply below_drew1 | refine below_set ?_ GE101.out) | exact HB.out)⟩
end Go.Proofs.Ytmmdcbdchifniaa.F
namespace Go.Proofs.Ytmmdcbdchifniaa.F
open Go.RowKit Go.Proofs.YtmmdcbdchifniaaW.PrintWords Go.Proofs.YtmmdcbdchifniaaW.PrintLast Go.Proofs.YtmmdcbdchifniaaW.PrintMore
attribute [local go_sem] max2_int min2_int max_two min_two max_three min_three max_four min_four 
set_option linter.unusedVariables false
set_option linter.unusedSimpArgs false
def impl_IsMonotone.f (k : Nat) (a0_0 : Int) (a0_1 : Int) : Option (Bool) := (impl_IsTable.f a0_0 a0_1).bind fun t102 => (if t102 = true then ((impl_Table_isMonotone.f k a0_0 a0_1).bind fun t103 => (some t103)) else (some false))
set_option maxHeartbeats 8000000 in
set_option maxRecDepth 100000 in
theorem impl_IsMonotone.calls (k : Nat) (a0_0 : Int) (a0_1 : Int) (r : Bool) (w : World) (h : impl_IsMonotone.f k a0_0 a0_1 = some r) :
  Calls Try.prog 35 #[.agg #[.int .i64 a0_0,.int .i64 a0_1]] w fun e w' => e = .returned (.bool r) ∧ Below w.heap.size w w' := by
 have hu25 := Try.underlying25
 have HB := aZ_ (Below.refl w.heap.size w)
 have H : ((impl_IsTable.f a0_0 a0_1).bind fun t102 => (if t102 = true then ((impl_Table_isMonotone.f k a0_0 a0_1).bind fun t103 => (some t103)) else (some false))) = some r := h
 clear h
 replace H := Option.bind_eq_some_iff.mp H
 obtain ⟨t102,A20,H⟩ := H
 replace H : (if t102 = true then ((impl_Table_isMonotone.f k a0_0 a0_1).bind fun t103 => (some t103)) else (some false)) = some r := H
 have A2 := aZ_ A20
 clear A20
 by_cases c3 : t102 = true
 ·subst c3
  have H1 : ((impl_Table_isMonotone.f k a0_0 a0_1).bind fun t103 => (some t103)) = some r := by rw [if_pos rfl] at H;exact H
  clear H
  have H := H1
  clear H1
  replace H := Option.bind_eq_some_iff.mp H
  obtain ⟨t103,A40,H⟩ := H
  replace H : (some t103) = some r := H
  have A4 := aZ_ A40
  clear A40
  obtain rfl := Option.some.inj H
  go_enter Try.func35,Try.ntmps35
  go_wp2_with (first | ((with_reducible refine gate_dst (N := 1) rfl ?_);refine box_event ?hg (N := 1) ?hd (cs := #[.int .i64 a0_0,.int .i64 a0_1]) (t := 25) ?hr ?_;(case hd => rfl);(case hg => rfl);(case hr => first | (go_simp;done) | (go_simp;rfl));intro gb101 hg w5 hbox hb;have n0_ := aZ_ (below_step T5_ hb);have n1_ := aZ_ (hbox);have n2_ := aZ_ ((T3_ : w.heap.size ≤ gb101));have n3_ := aZ_ ((T3_ : w.heap.size ≤ gb101));clear HB;have HB := n0_;have BK101 := n1_;have GW101 := n2_;have GE101 := n3_;clear n0_ n1_ n2_ n3_;clear hb hbox hg;have hcz6_0 : w5.cell? ⟨gb101,0,none⟩ = some (.int .i64 a0_0) := (blk_cell BK101.out 0).trans rfl;have hcz6_1 : w5.cell? ⟨gb101,1,none⟩ = some (.int .i64 a0_1) := (blk_cell BK101.out 1).trans rfl;have hfz6_0 := blk_frozen BK101.out 0;have hfz6_1 := blk_frozen BK101.out 1) | ((with_reducible refine gate_callee (f := 45) rfl ?_);refine goesL_ (some 4) rfl rfl Try.func45 T12_ rfl #[.agg #[.int .i64 a0_0,.int .i64 a0_1]] rfl T4_ ?_;(with_reducible refine (impl_IsTable.calls a0_0 a0_1 true _ A2.out).mono ?_);rintro e w7 ⟨rfl,hb⟩;refine ⟨_,rfl,?_⟩;have n0_ := aZ_ (blk_below (g := gb101) (o := .cells #[.int .i64 a0_0,.int .i64 a0_1] 25 (0,0)) T2_ hb);have n1_ := aZ_ (below_step T1_ hb);clear BK101;clear HB;have BK101 := n0_;have HB := n1_;clear n0_ n1_;(try clear hb);(try clear hb2);(try clear hk);(try clear hi);have hcz8_0 : w7.cell? ⟨gb101,0,none⟩ = some (.int .i64 a0_0) := (blk_cell BK101.out 0).trans rfl;have hcz8_1 : w7.cell? ⟨gb101,1,none⟩ = some (.int .i64 a0_1) := (blk_cell BK101.out 1).trans rfl;have hfz8_0 := blk_frozen BK101.out 0;have hfz8_1 := blk_frozen BK101.out 1) | (go_at_call 59;(with_reducible refine (impl_Table_isMonotone.calls k a0_0 a0_1 t103 _ A4.out).mono ?_);rintro e w9 ⟨rfl,hb⟩;have n0_ := aZ_ (blk_below (g := gb101) (o := .cells #[.int .i64 a0_0,.int .i64 a0_1] 25 (0,0)) T2_ hb);have n1_ := aZ_ (below_step T1_ hb);clear BK101;clear HB;have BK101 := n0_;have HB := n1_;clear n0_ n1_;(try clear hb);(try clear hb2);(try clear hk);(try clear hi)))
  go_ret
  exact ⟨by first | rfl | (simp [errW_none,errW_some] <;> rfl) | (simp [*,errW_none,errW_some] <;> rfl),by repeat (first | (with_reducible first | exact HB.out | apply below_alloc | apply pw_below_drewN | apply below_drew1 | refine below_set ?_ GE101.out) | exact HB.out)⟩
 ·replace c3 := Bool.eq_false_iff.mpr c3
  subst c3
  have H1 : (some false) = some r := by rw [if_neg (show ¬ (false = true) by decide)] at H;exact H
  clear H
  have H := H1
  clear H1
  obtain rfl := Option.some.inj H
  go_enter Try.func35,Try.ntmps35
  go_wp2_with (first | ((with_reducible refine gate_dst (N := 1) rfl ?_);refine box_event ?hg (N := 1) ?hd (cs := #[.int .i64 a0_0,.int .i64 a0_1]) (t := 25) ?hr ?_;(case hd => rfl);(case hg => rfl);(case hr => first | (go_simp;done) | (go_simp;rfl));intro gb101 hg w10 hbox hb;have n0_ := aZ_ (below_step T5_ hb);have n1_ := aZ_ (hbox);have n2_ := aZ_ ((T3_ : w.heap.size ≤ gb101));have n3_ := aZ_ ((T3_ : w.heap.size ≤ gb101));clear HB;have HB := n0_;have BK101 := n1_;have GW101 := n2_;have GE101 := n3_;clear n0_ n1_ n2_ n3_;clear hb hbox hg;have hcz11_0 : w10.cell? ⟨gb101,0,none⟩ = some (.int .i64 a0_0) := (blk_cell BK101.out 0).trans rfl;have hcz11_1 : w10.cell? ⟨gb101,1,none⟩ = some (.int .i64 a0_1) := (blk_cell BK101.out 1).trans rfl;have hfz11_0 := blk_frozen BK101.out 0;have hfz11_1 := blk_frozen BK101.out 1) | ((with_reducible refine gate_callee (f := 45) rfl ?_);refine goesL_ (some 4) rfl rfl Try.func45 T12_ rfl #[.agg #[.int .i64 a0_0,.int .i64 a0_1]] rfl T4_ ?_;(with_reducible refine (impl_IsTable.calls a0_0 a0_1 false _ A2.out).mono ?_);rintro e w12 ⟨rfl,hb⟩;refine ⟨_,rfl,?_⟩;have n0_ := aZ_ (blk_below (g := gb101) (o := .cells #[.int .i64 a0_0,.int .i64 a0_1] 25 (0,0)) T2_ hb);have n1_ := aZ_ (below_step T1_ hb);clear BK101;clear HB;have BK101 := n0_;have HB := n1_;clear n0_ n1_;(try clear hb);(try clear hb2);(try clear hk);(try clear hi)))
  go_ret
  exact ⟨by first | rfl | (simp [errW_none,errW_some] <;> rfl) | (simp [*,errW_none,errW_some] <;> rfl),by repeat (first | (with_reducible first | exact HB.out | apply below_alloc | apply pw_below_drewN | apply below_drew1 | refine below_set ?_ GE101.out) | exact HB.out)⟩
end Go.Proofs.Ytmmdcbdchifniaa.F
namespace Go.Proofs.Ytmmdcbdchifniaa.F
open Go.RowKit Go.Proofs.YtmmdcbdchifniaaW.PrintWords Go.Proofs.YtmmdcbdchifniaaW.PrintLast Go.Proofs.YtmmdcbdchifniaaW.PrintMore
attribute [local go_sem] max2_int min2_int max_two min_two max_three min_three max_four min_four 
set_option linter.unusedVariables false
set_option linter.unusedSimpArgs false
def impl_IsSimpleGame.f (k : Nat) (a0_0 : Int) (a0_1 : Int) : Option (Bool) := (impl_IsMonotone.f k a0_0 a0_1).bind fun t102 => (if t102 = true then ((impl_Table_at.f a0_0 a0_1 0).bind fun t103 => (if t103 = 0 then ((impl_Table_size.f a0_0 a0_1).bind fun t104 => ((impl_Table_at.f a0_0 a0_1 (wrap64 (t104 - 1))).bind fun t105 => (some (t105 == 1)))) else (some false))) else (some false))
def impl_IsSimpleGame.T1 : Bool × List (List Nat × List Nat) := (true,[([],[]),([0],[0]),([1,1],[1]),([2],[2]),([3,2,2],[2,3]),([4,2],[2,4]),([2,5],[2,5]),([6,4],[6]),([7],[7]),([7],[7]),([9,7,7],[7,9]),([10,7],[7,10]),([8,11,10,7],[7,8,11]),([12,7],[7,12]),([7,13],[7,13]),([14,12,0,1,2,3,4,5,6,7,8,9,10,11,12,13,14],[14])])
def impl_IsSimpleGame.B1 : List Nat := [0,1,3,7,15,31,63,127,255,255,767,1791,4095,8191,16383,32767]
theorem impl_IsSimpleGame.tab1 : rtab .any (opsOf Try.f10 1) = impl_IsSimpleGame.T1 := by kernel_rfl
theorem impl_IsSimpleGame.bits1 : waitsOk impl_IsSimpleGame.T1.2 impl_IsSimpleGame.B1 = true := by kernel_rfl
set_option maxHeartbeats 8000000 in
set_option maxRecDepth 100000 in
theorem impl_IsSimpleGame.calls (k : Nat) (a0_0 : Int) (a0_1 : Int) (r : Bool) (w : World) (h : impl_IsSimpleGame.f k a0_0 a0_1 = some r) :
  Calls Try.prog 10 #[.agg #[.int .i64 a0_0,.int .i64 a0_1]] w fun e w' => e = .returned (.bool r) ∧ Below w.heap.size w w' := by
 have hu25 := Try.underlying25
 have HB := aZ_ (Below.refl w.heap.size w)
 have H : ((impl_IsMonotone.f k a0_0 a0_1).bind fun t102 => (if t102 = true then ((impl_Table_at.f a0_0 a0_1 0).bind fun t103 => (if t103 = 0 then ((impl_Table_size.f a0_0 a0_1).bind fun t104 => ((impl_Table_at.f a0_0 a0_1 (wrap64 (t104 - 1))).bind fun t105 => (some (t105 == 1)))) else (some false))) else (some false))) = some r := h
 clear h
 replace H := Option.bind_eq_some_iff.mp H
 obtain ⟨t102,A20,H⟩ := H
 replace H : (if t102 = true then ((impl_Table_at.f a0_0 a0_1 0).bind fun t103 => (if t103 = 0 then ((impl_Table_size.f a0_0 a0_1).bind fun t104 => ((impl_Table_at.f a0_0 a0_1 (wrap64 (t104 - 1))).bind fun t105 => (some (t105 == 1)))) else (some false))) else (some false)) = some r := H
 have A2 := aZ_ A20
 clear A20
 by_cases c3 : t102 = true
 ·subst c3
  have H1 : ((impl_Table_at.f a0_0 a0_1 0).bind fun t103 => (if t103 = 0 then ((impl_Table_size.f a0_0 a0_1).bind fun t104 => ((impl_Table_at.f a0_0 a0_1 (wrap64 (t104 - 1))).bind fun t105 => (some (t105 == 1)))) else (some false))) = some r := by rw [if_pos rfl] at H;exact H
  clear H
  have H := H1
  clear H1
  replace H := Option.bind_eq_some_iff.mp H
  obtain ⟨t103,A40,H⟩ := H
  replace H : (if t103 = 0 then ((impl_Table_size.f a0_0 a0_1).bind fun t104 => ((impl_Table_at.f a0_0 a0_1 (wrap64 (t104 - 1))).bind fun t105 => (some (t105 == 1)))) else (some false)) = some r := H
  have A4 := aZ_ A40
  clear A40
  by_cases c5 : t103 = 0
  ·rw [if_pos c5] at H
   have c5b0 : (t103 == 0) = true := beq_iff_eq.mpr c5
   have c5b1 : (t103 != 0) = false := bne_eq_false_iff_eq.mpr c5
   clear c5
   replace H := Option.bind_eq_some_iff.mp H
   obtain ⟨t104,A60,H⟩ := H
   replace H : ((impl_Table_at.f a0_0 a0_1 (wrap64 (t104 - 1))).bind fun t105 => (some (t105 == 1))) = some r := H
   have A6 := aZ_ A60
   clear A60
   replace H := Option.bind_eq_some_iff.mp H
   obtain ⟨t105,A70,H⟩ := H
   replace H : (some (t105 == 1)) = some r := H
   have A7 := aZ_ A70
   clear A70
   obtain rfl := Option.some.inj H
   go_enter Try.func10,Try.ntmps10
   try go_wp2_with (first | ((with_reducible refine gate_dst (N := 1) rfl ?_);refine box_event ?hg (N := 1) ?hd (cs := #[.int .i64 a0_0,.int .i64 a0_1]) (t := 25) ?hr ?_;(case hd => rfl);(case hg => rfl);(case hr => first | (go_simp;done) | (go_simp;rfl));intro gb101 hg w8 hbox hb;have n0_ := aZ_ (below_step T5_ hb);have n1_ := aZ_ (hbox);have n2_ := aZ_ ((T3_ : w.heap.size ≤ gb101));have n3_ := aZ_ ((T3_ : w.heap.size ≤ gb101));clear HB;have HB := n0_;have BK101 := n1_;have GW101 := n2_;have GE101 := n3_;clear n0_ n1_ n2_ n3_;clear hb hbox hg))
   have n0_ := aZ_ (blk_drew BK101.out)
   have n1_ := aZ_ (below_drew1 HB.out)
   clear BK101
   clear HB
   have BK101 := n0_
   have HB := n1_
   clear n0_ n1_
   refine start_ (n := 16) (S := fun w' => w'.cell? ⟨gb101,0,none⟩ = some (.int .i64 a0_0) ∧ w'.cell? ⟨gb101,1,none⟩ = some (.int .i64 a0_1)) (ds := []) #[false,false,false,false,false,false,false,false,false,false,false,false,false,false,false,false] T12_ rfl rfl ⟨(blk_cell BK101.out 0).trans rfl,(blk_cell BK101.out 1).trans rfl⟩ (fun hHeld => ?_);refine with_tabW impl_IsSimpleGame.tab1 impl_IsSimpleGame.bits1 (fun HT_ HW_ => ?_)
   generalize w8.drew = w9 at BK101 HB hHeld ⊢
   refine tZ2_ 0 (some 3) #[true,false,false,false,false,false,false,false,false,false,false,false,false,false,false,false] hHeld ?_
   refine one_ (i := 1) (N := some 4) #[true,true,false,false,false,false,false,false,false,false,false,false,false,false,false,false] rfl rfl (one_of HT_.out T12_) T35_ (fun K hK => ?_)
   refine gZ_ Try.func35 #[.agg #[.int .i64 a0_0,.int .i64 a0_1]] ?_
   with_reducible refine (impl_IsMonotone.calls k a0_0 a0_1 true _ A2.out).mono ?_
   rintro e w10 ⟨rfl,hb⟩
   refine ⟨_,rfl,?_⟩
   have n0_ := aZ_ (blk_below (g := gb101) (o := .cells #[.int .i64 a0_0,.int .i64 a0_1] 25 (0,0)) T2_ hb)
   have n1_ := aZ_ (below_step T1_ hb)
   clear BK101
   clear HB
   have BK101 := n0_
   have HB := n1_
   clear n0_ n1_
   (try clear hb)
   (try clear hb2)
   (try clear hk)
   (try clear hi)
   refine hK.out _ _ ⟨(blk_cell BK101.out 0).trans rfl,(blk_cell BK101.out 1).trans rfl⟩ (fun hHeld => ?_)
   clear hK K
   refine norm_ (a' := ?_) ?_ ?_
   rotate_left
   ·show Act.put _ (some 4) _ = _
    simp only [Act.put,List.setIfInBounds_toArray,List.set_cons_zero,List.set_cons_succ,i64_w,i32_w]
    rfl
   refine pZ_ 2 (some 5) #[true,true,true,false,false,false,false,false,false,false,false,false,false,false,false,false] ?_
   refine tZ2_ 3 (some 6) #[true,true,true,true,false,false,false,false,false,false,false,false,false,false,false,false] hHeld ?_
   refine one_ (i := 4) (N := some 7) #[true,true,true,true,true,false,false,false,false,false,false,false,false,false,false,false] rfl rfl (one_of HT_.out T12_) T35_ (fun K hK => ?_)
   refine gZ_ Try.func36 #[.agg #[.int .i64 a0_0,.int .i64 a0_1],.int .i64 0] ?_
   with_reducible refine (impl_Table_at.calls a0_0 a0_1 0 t103 _ A4.out).mono ?_
   rintro e w11 ⟨rfl,hb⟩
   refine ⟨_,rfl,?_⟩
   have n0_ := aZ_ (blk_below (g := gb101) (o := .cells #[.int .i64 a0_0,.int .i64 a0_1] 25 (0,0)) T2_ hb)
   have n1_ := aZ_ (below_step T1_ hb)
   clear BK101
   clear HB
   have BK101 := n0_
   have HB := n1_
   clear n0_ n1_
   (try clear hb)
   (try clear hb2)
   (try clear hk)
   (try clear hi)
   refine hK.out _ _ ⟨(blk_cell BK101.out 0).trans rfl,(blk_cell BK101.out 1).trans rfl⟩ (fun hHeld => ?_)
   clear hK K
   refine norm_ (a' := ?_) ?_ ?_
   rotate_left
   ·show Act.put _ (some 7) _ = _
    simp only [Act.put,List.setIfInBounds_toArray,List.set_cons_zero,List.set_cons_succ,i64_w,i32_w]
    rfl
   refine pZ_ 5 (some 8) #[true,true,true,true,true,true,false,false,false,false,false,false,false,false,false,false] ?_
   refine pZ_ 6 (some 9) #[true,true,true,true,true,true,true,false,false,false,false,false,false,false,false,false] ?_
   refine pZ_ 7 (some 10) #[true,true,true,true,true,true,true,true,false,false,false,false,false,false,false,false] ?_
   refine tZ2_ 8 (some 11) #[true,true,true,true,true,true,true,true,true,false,false,false,false,false,false,false] hHeld ?_
   refine tZ2_ 9 (some 12) #[true,true,true,true,true,true,true,true,true,true,false,false,false,false,false,false] hHeld ?_
   refine one_ (i := 10) (N := some 13) #[true,true,true,true,true,true,true,true,true,true,true,false,false,false,false,false] rfl rfl (one_of HT_.out T12_) T35_ (fun K hK => ?_)
   refine gZ_ Try.func37 #[.agg #[.int .i64 a0_0,.int .i64 a0_1]] ?_
   with_reducible refine (impl_Table_size.calls a0_0 a0_1 t104 _ A6.out).mono ?_
   rintro e w12 ⟨rfl,hb⟩
   refine ⟨_,rfl,?_⟩
   have n0_ := aZ_ (blk_below (g := gb101) (o := .cells #[.int .i64 a0_0,.int .i64 a0_1] 25 (0,0)) T2_ hb)
   have n1_ := aZ_ (below_step T1_ hb)
   clear BK101
   clear HB
   have BK101 := n0_
   have HB := n1_
   clear n0_ n1_
   (try clear hb)
   (try clear hb2)
   (try clear hk)
   (try clear hi)
   refine hK.out _ _ ⟨(blk_cell BK101.out 0).trans rfl,(blk_cell BK101.out 1).trans rfl⟩ (fun hHeld => ?_)
   clear hK K
   refine norm_ (a' := ?_) ?_ ?_
   rotate_left
   ·show Act.put _ (some 13) _ = _
    simp only [Act.put,List.setIfInBounds_toArray,List.set_cons_zero,List.set_cons_succ,i64_w,i32_w]
    rfl
   refine pZ_ 11 (some 14) #[true,true,true,true,true,true,true,true,true,true,true,true,false,false,false,false] ?_
   refine one_ (i := 12) (N := some 15) #[true,true,true,true,true,true,true,true,true,true,true,true,true,false,false,false] rfl rfl (one_of HT_.out T12_) T35_ (fun K hK => ?_)
   refine gZ_ Try.func36 #[.agg #[.int .i64 a0_0,.int .i64 a0_1],.int .i64 (wrap64 (t104 - 1))] ?_
   with_reducible refine (impl_Table_at.calls a0_0 a0_1 (wrap64 (t104 - 1)) t105 _ A7.out).mono ?_
   rintro e w13 ⟨rfl,hb⟩
   refine ⟨_,rfl,?_⟩
   have n0_ := aZ_ (blk_below (g := gb101) (o := .cells #[.int .i64 a0_0,.int .i64 a0_1] 25 (0,0)) T2_ hb)
   have n1_ := aZ_ (below_step T1_ hb)
   clear BK101
   clear HB
   have BK101 := n0_
   have HB := n1_
   clear n0_ n1_
   (try clear hb)
   (try clear hb2)
   (try clear hk)
   (try clear hi)
   refine hK.out _ _ ⟨(blk_cell BK101.out 0).trans rfl,(blk_cell BK101.out 1).trans rfl⟩ (fun hHeld => ?_)
   clear hK K
   refine norm_ (a' := ?_) ?_ ?_
   rotate_left
   ·show Act.put _ (some 15) _ = _
    simp only [Act.put,List.setIfInBounds_toArray,List.set_cons_zero,List.set_cons_succ,i64_w,i32_w]
    rfl
   refine pZ_ 13 (some 16) #[true,true,true,true,true,true,true,true,true,true,true,true,true,true,false,false] ?_
   refine pZ_ 14 (some 17) #[true,true,true,true,true,true,true,true,true,true,true,true,true,true,true,false] ?_
   refine pZ_ 15 (some 2) #[true,true,true,true,true,true,true,true,true,true,true,true,true,true,true,true] ?_
   refine done_ (done_of HT_.out T12_) ?_
   try go_wp2
   go_ret
   exact ⟨by first | rfl | (simp [errW_none,errW_some] <;> rfl) | (simp [*,errW_none,errW_some] <;> rfl),by repeat (first | (with_reducible first | exact HB.out | apply below_alloc | apply pw_below_drewN | apply below_drew1 | refine below_set ?_ GE101.out) | exact HB.out)⟩
  ·rw [if_neg c5] at H
   have c5b0 : (t103 == 0) = false := beq_eq_false_iff_ne.mpr c5
   have c5b1 : (t103 != 0) = true := bne_iff_ne.mpr c5
   obtain rfl := Option.some.inj H
   go_enter Try.func10,Try.ntmps10
   try go_wp2_with (first | ((with_reducible refine gate_dst (N := 1) rfl ?_);refine box_event ?hg (N := 1) ?hd (cs := #[.int .i64 a0_0,.int .i64 a0_1]) (t := 25) ?hr ?_;(case hd => rfl);(case hg => rfl);(case hr => first | (go_simp;done) | (go_simp;rfl));intro gb101 hg w14 hbox hb;have n0_ := aZ_ (below_step T5_ hb);have n1_ := aZ_ (hbox);have n2_ := aZ_ ((T3_ : w.heap.size ≤ gb101));have n3_ := aZ_ ((T3_ : w.heap.size ≤ gb101));clear HB;have HB := n0_;have BK101 := n1_;have GW101 := n2_;have GE101 := n3_;clear n0_ n1_ n2_ n3_;clear hb hbox hg))
   have n0_ := aZ_ (blk_drew BK101.out)
   have n1_ := aZ_ (below_drew1 HB.out)
   clear BK101
   clear HB
   have BK101 := n0_
   have HB := n1_
   clear n0_ n1_
   refine start_ (n := 16) (S := fun w' => w'.cell? ⟨gb101,0,none⟩ = some (.int .i64 a0_0) ∧ w'.cell? ⟨gb101,1,none⟩ = some (.int .i64 a0_1)) (ds := []) #[false,false,false,false,false,false,false,false,false,false,false,false,false,false,false,false] T12_ rfl rfl ⟨(blk_cell BK101.out 0).trans rfl,(blk_cell BK101.out 1).trans rfl⟩ (fun hHeld => ?_);refine with_tabW impl_IsSimpleGame.tab1 impl_IsSimpleGame.bits1 (fun HT_ HW_ => ?_)
   generalize w14.drew = w15 at BK101 HB hHeld ⊢
   refine tZ2_ 0 (some 3) #[true,false,false,false,false,false,false,false,false,false,false,false,false,false,false,false] hHeld ?_
   refine one_ (i := 1) (N := some 4) #[true,true,false,false,false,false,false,false,false,false,false,false,false,false,false,false] rfl rfl (one_of HT_.out T12_) T35_ (fun K hK => ?_)
   refine gZ_ Try.func35 #[.agg #[.int .i64 a0_0,.int .i64 a0_1]] ?_
   with_reducible refine (impl_IsMonotone.calls k a0_0 a0_1 true _ A2.out).mono ?_
   rintro e w16 ⟨rfl,hb⟩
   refine ⟨_,rfl,?_⟩
   have n0_ := aZ_ (blk_below (g := gb101) (o := .cells #[.int .i64 a0_0,.int .i64 a0_1] 25 (0,0)) T2_ hb)
   have n1_ := aZ_ (below_step T1_ hb)
   clear BK101
   clear HB
   have BK101 := n0_
   have HB := n1_
   clear n0_ n1_
   (try clear hb)
   (try clear hb2)
   (try clear hk)
   (try clear hi)
   refine hK.out _ _ ⟨(blk_cell BK101.out 0).trans rfl,(blk_cell BK101.out 1).trans rfl⟩ (fun hHeld => ?_)
   clear hK K
   refine norm_ (a' := ?_) ?_ ?_
   rotate_left
   ·show Act.put _ (some 4) _ = _
    simp only [Act.put,List.setIfInBounds_toArray,List.set_cons_zero,List.set_cons_succ,i64_w,i32_w]
    rfl
   refine pZ_ 2 (some 5) #[true,true,true,false,false,false,false,false,false,false,false,false,false,false,false,false] ?_
   refine tZ2_ 3 (some 6) #[true,true,true,true,false,false,false,false,false,false,false,false,false,false,false,false] hHeld ?_
   refine one_ (i := 4) (N := some 7) #[true,true,true,true,true,false,false,false,false,false,false,false,false,false,false,false] rfl rfl (one_of HT_.out T12_) T35_ (fun K hK => ?_)
   refine gZ_ Try.func36 #[.agg #[.int .i64 a0_0,.int .i64 a0_1],.int .i64 0] ?_
   with_reducible refine (impl_Table_at.calls a0_0 a0_1 0 t103 _ A4.out).mono ?_
   rintro e w17 ⟨rfl,hb⟩
   refine ⟨_,rfl,?_⟩
   have n0_ := aZ_ (blk_below (g := gb101) (o := .cells #[.int .i64 a0_0,.int .i64 a0_1] 25 (0,0)) T2_ hb)
   have n1_ := aZ_ (below_step T1_ hb)
   clear BK101
   clear HB
   have BK101 := n0_
   have HB := n1_
   clear n0_ n1_
   (try clear hb)
   (try clear hb2)
   (try clear hk)
   (try clear hi)
   refine hK.out _ _ ⟨(blk_cell BK101.out 0).trans rfl,(blk_cell BK101.out 1).trans rfl⟩ (fun hHeld => ?_)
   clear hK K
   refine norm_ (a' := ?_) ?_ ?_
   rotate_left
   ·show Act.put _ (some 7) _ = _
    simp only [Act.put,List.setIfInBounds_toArray,List.set_cons_zero,List.set_cons_succ,i64_w,i32_w]
    rfl
   refine pZ_ 5 (some 8) #[true,true,true,true,true,true,false,false,false,false,false,false,false,false,false,false] ?_
   refine pZ_ 6 (some 9) #[true,true,true,true,true,true,true,false,false,false,false,false,false,false,false,false] ?_
   refine pZ_ 7 (some 10) #[true,true,true,true,true,true,true,true,false,false,false,false,false,false,false,false] ?_
   refine oZ_ 8 (some 11) #[true,true,true,true,true,true,true,true,true,false,false,false,false,false,false,false] ?_
   refine oZ_ 9 (some 12) #[true,true,true,true,true,true,true,true,true,true,false,false,false,false,false,false] ?_
   refine oZ_ 10 (some 13) #[true,true,true,true,true,true,true,true,true,true,true,false,false,false,false,false] ?_
   refine oZ_ 11 (some 14) #[true,true,true,true,true,true,true,true,true,true,true,true,false,false,false,false] ?_
   refine oZ_ 12 (some 15) #[true,true,true,true,true,true,true,true,true,true,true,true,true,false,false,false] ?_
   refine oZ_ 13 (some 16) #[true,true,true,true,true,true,true,true,true,true,true,true,true,true,false,false] ?_
   refine pZ_ 14 (some 17) #[true,true,true,true,true,true,true,true,true,true,true,true,true,true,true,false] ?_
   refine pZ_ 15 (some 2) #[true,true,true,true,true,true,true,true,true,true,true,true,true,true,true,true] ?_
   refine done_ (done_of HT_.out T12_) ?_
   try go_wp2
   go_ret
   exact ⟨by first | rfl | (simp [errW_none,errW_some] <;> rfl) | (simp [*,errW_none,errW_some] <;> rfl),by repeat (first | (with_reducible first | exact HB.out | apply below_alloc | apply pw_below_drewN | apply below_drew1 | refine below_set ?_ GE101.out) | exact HB.out)⟩
 ·replace c3 := Bool.eq_false_iff.mpr c3
  subst c3
  have H1 : (some false) = some r := by rw [if_neg (show ¬ (false = true) by decide)] at H;exact H
  clear H
  have H := H1
  clear H1
  obtain rfl := Option.some.inj H
  go_enter Try.func10,Try.ntmps10
  try go_wp2_with (first | ((with_reducible refine gate_dst (N := 1) rfl ?_);refine box_event ?hg (N := 1) ?hd (cs := #[.int .i64 a0_0,.int .i64 a0_1]) (t := 25) ?hr ?_;(case hd => rfl);(case hg => rfl);(case hr => first | (go_simp;done) | (go_simp;rfl));intro gb101 hg w18 hbox hb;have n0_ := aZ_ (below_step T5_ hb);have n1_ := aZ_ (hbox);have n2_ := aZ_ ((T3_ : w.heap.size ≤ gb101));have n3_ := aZ_ ((T3_ : w.heap.size ≤ gb101));clear HB;have HB := n0_;have BK101 := n1_;have GW101 := n2_;have GE101 := n3_;clear n0_ n1_ n2_ n3_;clear hb hbox hg))
  have n0_ := aZ_ (blk_drew BK101.out)
  have n1_ := aZ_ (below_drew1 HB.out)
  clear BK101
  clear HB
  have BK101 := n0_
  have HB := n1_
  clear n0_ n1_
  refine start_ (n := 16) (S := fun w' => w'.cell? ⟨gb101,0,none⟩ = some (.int .i64 a0_0) ∧ w'.cell? ⟨gb101,1,none⟩ = some (.int .i64 a0_1)) (ds := []) #[false,false,false,false,false,false,false,false,false,false,false,false,false,false,false,false] T12_ rfl rfl ⟨(blk_cell BK101.out 0).trans rfl,(blk_cell BK101.out 1).trans rfl⟩ (fun hHeld => ?_);refine with_tabW impl_IsSimpleGame.tab1 impl_IsSimpleGame.bits1 (fun HT_ HW_ => ?_)
  generalize w18.drew = w19 at BK101 HB hHeld ⊢
  refine tZ2_ 0 (some 3) #[true,false,false,false,false,false,false,false,false,false,false,false,false,false,false,false] hHeld ?_
  refine one_ (i := 1) (N := some 4) #[true,true,false,false,false,false,false,false,false,false,false,false,false,false,false,false] rfl rfl (one_of HT_.out T12_) T35_ (fun K hK => ?_)
  refine gZ_ Try.func35 #[.agg #[.int .i64 a0_0,.int .i64 a0_1]] ?_
  with_reducible refine (impl_IsMonotone.calls k a0_0 a0_1 false _ A2.out).mono ?_
  rintro e w20 ⟨rfl,hb⟩
  refine ⟨_,rfl,?_⟩
  have n0_ := aZ_ (blk_below (g := gb101) (o := .cells #[.int .i64 a0_0,.int .i64 a0_1] 25 (0,0)) T2_ hb)
  have n1_ := aZ_ (below_step T1_ hb)
  clear BK101
  clear HB
  have BK101 := n0_
  have HB := n1_
  clear n0_ n1_
  (try clear hb)
  (try clear hb2)
  (try clear hk)
  (try clear hi)
  refine hK.out _ _ ⟨(blk_cell BK101.out 0).trans rfl,(blk_cell BK101.out 1).trans rfl⟩ (fun hHeld => ?_)
  clear hK K
  refine norm_ (a' := ?_) ?_ ?_
  rotate_left
  ·show Act.put _ (some 4) _ = _
   simp only [Act.put,List.setIfInBounds_toArray,List.set_cons_zero,List.set_cons_succ,i64_w,i32_w]
   rfl
  refine pZ_ 2 (some 5) #[true,true,true,false,false,false,false,false,false,false,false,false,false,false,false,false] ?_
  refine oZ_ 3 (some 6) #[true,true,true,true,false,false,false,false,false,false,false,false,false,false,false,false] ?_
  refine oZ_ 4 (some 7) #[true,true,true,true,true,false,false,false,false,false,false,false,false,false,false,false] ?_
  refine oZ_ 5 (some 8) #[true,true,true,true,true,true,false,false,false,false,false,false,false,false,false,false] ?_
  refine pZ_ 6 (some 9) #[true,true,true,true,true,true,true,false,false,false,false,false,false,false,false,false] ?_
  refine pZ_ 7 (some 10) #[true,true,true,true,true,true,true,true,false,false,false,false,false,false,false,false] ?_
  refine oZ_ 8 (some 11) #[true,true,true,true,true,true,true,true,true,false,false,false,false,false,false,false] ?_
  refine oZ_ 9 (some 12) #[true,true,true,true,true,true,true,true,true,true,false,false,false,false,false,false] ?_
  refine oZ_ 10 (some 13) #[true,true,true,true,true,true,true,true,true,true,true,false,false,false,false,false] ?_
  refine oZ_ 11 (some 14) #[true,true,true,true,true,true,true,true,true,true,true,true,false,false,false,false] ?_
  refine oZ_ 12 (some 15) #[true,true,true,true,true,true,true,true,true,true,true,true,true,false,false,false] ?_
  refine oZ_ 13 (some 16) #[true,true,true,true,true,true,true,true,true,true,true,true,true,true,false,false] ?_
  refine pZ_ 14 (some 17) #[true,true,true,true,true,true,true,true,true,true,true,true,true,true,true,false] ?_
  refine pZ_ 15 (some 2) #[true,true,true,true,true,true,true,true,true,true,true,true,true,true,true,true] ?_
  refine done_ (done_of HT_.out T12_) ?_
  try go_wp2
  go_ret
  exact ⟨by first | rfl | (simp [errW_none,errW_some] <;> rfl) | (simp [*,errW_none,errW_some] <;> rfl),by repeat (first | (with_reducible first | exact HB.out | apply below_alloc | apply pw_below_drewN | apply below_drew1 | refine below_set ?_ GE101.out) | exact HB.out)⟩
end Go.Proofs.Ytmmdcbdchifniaa.F
namespace Go.Proofs.Ytmmdcbdchifniaa.F
open Go.RowKit Go.Proofs.YtmmdcbdchifniaaW.PrintWords Go.Proofs.YtmmdcbdchifniaaW.PrintLast Go.Proofs.YtmmdcbdchifniaaW.PrintMore
attribute [local go_sem] max2_int min2_int max_two min_two max_three min_three max_four min_four 
set_option linter.unusedVariables false
set_option linter.unusedSimpArgs false
def spec_l3Insert.f (a0 : Int) (a1 : Int) (a2 : Int) : Option (Int) := if 0 ≤ a1 then (if 0 ≤ (wrap64 (a1 + 1)) then (some (Go.bits .or .i64 (Go.bits .or .i64 (shl .i64 (shr .i64 a0 a1) (wrap64 (a1 + 1))) (shl .i64 a2 a1)) (Go.bits .and .i64 a0 (wrap64 ((shl .i64 1 a1) - 1))))) else (none)) else (none)
set_option maxHeartbeats 8000000 in
set_option maxRecDepth 100000 in
theorem spec_l3Insert.calls (a0 : Int) (a1 : Int) (a2 : Int) (r : Int) (w : World) (h : spec_l3Insert.f a0 a1 a2 = some r) :
  Calls Try.prog 68 #[.int .i64 a0,.int .i64 a1,.int .i64 a2] w fun e w' => e = .returned (.int .i64 r) ∧ Drawn0 w w' := by
 have H : (if 0 ≤ a1 then (if 0 ≤ (wrap64 (a1 + 1)) then (some (Go.bits .or .i64 (Go.bits .or .i64 (shl .i64 (shr .i64 a0 a1) (wrap64 (a1 + 1))) (shl .i64 a2 a1)) (Go.bits .and .i64 a0 (wrap64 ((shl .i64 1 a1) - 1))))) else (none)) else (none)) = some r := h
 clear h
 by_cases c4 : 0 ≤ a1
 ·rw [if_pos c4] at H
  have c4b0 := eq_true c4
  have c4b1 : decide (0 ≤ a1) = true := decide_eq_true c4
  clear c4
  obtain ⟨ji5,hji5⟩ : ∃ j_ : Int,(shl .i64 1 a1) = j_ := ⟨_,rfl⟩
  replace H : (if 0 ≤ (wrap64 (a1 + 1)) then (some (Go.bits .or .i64 (Go.bits .or .i64 (shl .i64 (shr .i64 a0 a1) (wrap64 (a1 + 1))) (shl .i64 a2 a1)) (Go.bits .and .i64 a0 (wrap64 ((ji5) - 1))))) else (none)) = some r := by first | (rw [hji5] at H;exact H) | (simp only [hji5] at H ⊢;exact H)
  have hji5_ : (IntKind.i64.wrap (1 * 2 ^ min a1.toNat 64)) = ji5 := hji5
  have hji5z : a1 ≤ 64 → (IntKind.i64.wrap (1 * 2 ^ a1.toNat)) = ji5 := shl_small hji5
  have hji5u : (IntKind.i64.wrap (2 ^ min a1.toNat 64)) = ji5 := by have h_ := hji5_;rw [Int.one_mul] at h_;exact h_
  have hji5v : a1 ≤ 64 → (IntKind.i64.wrap (2 ^ a1.toNat)) = ji5 := fun hle_ => by have h_ := hji5z hle_;rw [Int.one_mul] at h_;exact h_
  have hji5y : (wrap64 (1 * 2 ^ min a1.toNat 64)) = ji5 := (i64_w _).symm.trans hji5_
  have hji5x : a1 ≤ 64 → (wrap64 (1 * 2 ^ a1.toNat)) = ji5 := fun h_ => (i64_w _).symm.trans (hji5z h_)
  have c6b0 := eq_true (of_decide_eq_true T13_ : 0 ≤ a1)
  obtain ⟨ji7,hji7⟩ : ∃ j_ : Int,(shr .i64 a0 a1) = j_ := ⟨_,rfl⟩
  replace H : (if 0 ≤ (wrap64 (a1 + 1)) then (some (Go.bits .or .i64 (Go.bits .or .i64 (shl .i64 (ji7) (wrap64 (a1 + 1))) (shl .i64 a2 a1)) (Go.bits .and .i64 a0 (wrap64 ((ji5) - 1))))) else (none)) = some r := by first | (rw [hji7] at H;exact H) | (simp only [hji7] at H ⊢;exact H)
  have hji7_ : (a0 / 2 ^ min a1.toNat 64) = ji7 := hji7
  have hji7z : a1 ≤ 64 → (a0 / 2 ^ a1.toNat) = ji7 := shr_small hji7
  obtain ⟨ji8,hji8⟩ : ∃ j_ : Int,(wrap64 (a1 + 1)) = j_ := ⟨_,rfl⟩
  replace H : (if 0 ≤ (ji8) then (some (Go.bits .or .i64 (Go.bits .or .i64 (shl .i64 (ji7) (ji8)) (shl .i64 a2 a1)) (Go.bits .and .i64 a0 (wrap64 ((ji5) - 1))))) else (none)) = some r := by first | (rw [hji8] at H;exact H) | (simp only [hji8] at H ⊢;exact H)
  have hji8w : (IntKind.i64.wrap (a1 + 1)) = ji8 := (i64_w _).trans hji8
  by_cases c9 : 0 ≤ (ji8)
  ·rw [if_pos c9] at H
   have c9b0 := eq_true c9
   have c9b1 : decide (0 ≤ (ji8)) = true := decide_eq_true c9
   clear c9
   obtain ⟨ji10,hji10⟩ : ∃ j_ : Int,(shl .i64 (ji7) (ji8)) = j_ := ⟨_,rfl⟩
   replace H : (some (Go.bits .or .i64 (Go.bits .or .i64 (ji10) (shl .i64 a2 a1)) (Go.bits .and .i64 a0 (wrap64 ((ji5) - 1))))) = some r := by first | (rw [hji10] at H;exact H) | (simp only [hji10] at H ⊢;exact H)
   have hji10_ : (IntKind.i64.wrap ((ji7) * 2 ^ min (ji8).toNat 64)) = ji10 := hji10
   have hji10z : (ji8) ≤ 64 → (IntKind.i64.wrap ((ji7) * 2 ^ (ji8).toNat)) = ji10 := shl_small hji10
   have hji10y : (wrap64 ((ji7) * 2 ^ min (ji8).toNat 64)) = ji10 := (i64_w _).symm.trans hji10_
   have hji10x : (ji8) ≤ 64 → (wrap64 ((ji7) * 2 ^ (ji8).toNat)) = ji10 := fun h_ => (i64_w _).symm.trans (hji10z h_)
   have c11b0 := eq_true (of_decide_eq_true T13_ : 0 ≤ a1)
   obtain ⟨ji12,hji12⟩ : ∃ j_ : Int,(shl .i64 a2 a1) = j_ := ⟨_,rfl⟩
   replace H : (some (Go.bits .or .i64 (Go.bits .or .i64 (ji10) (ji12)) (Go.bits .and .i64 a0 (wrap64 ((ji5) - 1))))) = some r := by first | (rw [hji12] at H;exact H) | (simp only [hji12] at H ⊢;exact H)
   have hji12_ : (IntKind.i64.wrap (a2 * 2 ^ min a1.toNat 64)) = ji12 := hji12
   have hji12z : a1 ≤ 64 → (IntKind.i64.wrap (a2 * 2 ^ a1.toNat)) = ji12 := shl_small hji12
   have hji12y : (wrap64 (a2 * 2 ^ min a1.toNat 64)) = ji12 := (i64_w _).symm.trans hji12_
   have hji12x : a1 ≤ 64 → (wrap64 (a2 * 2 ^ a1.toNat)) = ji12 := fun h_ => (i64_w _).symm.trans (hji12z h_)
   obtain rfl := Option.some.inj H
   go_enter Try.func68,Try.ntmps68
   go_wp2
   repeat (go_quiet (fail);try go_wp2)
   go_ret
   exact ⟨by first | rfl | (simp;done) | (simp only [← hji5,← hji7,← hji8,← hji10,← hji12] <;> (first | rfl | simp)) | (simp [*];done),by repeat (first | exact Drawn0.refl _ | apply Drawn0.step)⟩
  ·rw [if_neg c9] at H
   exact absurd H T40_
 ·rw [if_neg c4] at H
  exact absurd H T40_
end Go.Proofs.Ytmmdcbdchifniaa.F
namespace Go.Proofs.Ytmmdcbdchifniaa.F
open Go.RowKit Go.Proofs.YtmmdcbdchifniaaW.PrintWords Go.Proofs.YtmmdcbdchifniaaW.PrintLast Go.Proofs.YtmmdcbdchifniaaW.PrintMore
attribute [local go_sem] max2_int min2_int max_two min_two max_three min_three max_four min_four 
set_option linter.unusedVariables false
set_option linter.unusedSimpArgs false
def spec_l3Restrict.l0 : Nat → Int → Int → Int → Int → Int → Int → Option (Int × Int)
 | 0,_,_,_,_,_,_ => none
 | k + 1,x1,x2,x7,x8,x102000,x102001 => if 0 ≤ (wrap64 (x102000 - 1)) then (if x8 < (shl .i64 1 (wrap64 (x102000 - 1))) then ((spec_l3Insert.f x8 x1 x2).bind fun t103 => (if 0 ≤ t103 then (if 0 ≤ x8 then (spec_l3Restrict.l0 k x1 x2 (Go.bits .or .i64 x7 (shl .i64 (Go.bits .and .i64 (shr .i64 x102001 t103) 1) x8)) (wrap64 (x8 + 1)) x102000 x102001) else (none)) else (none))) else (some (wrap64 (x102000 - 1),x7))) else (none)
def spec_l3Restrict.f (k : Nat) (a0_0 : Int) (a0_1 : Int) (a1 : Int) (a2 : Int) : Option (Int × Int) := spec_l3Restrict.l0 k a1 a2 0 0 a0_0 a0_1
theorem spec_l3Restrict.mono_l : ∀ k,(∀ y0 y1 y2 y3 y4 y5,LeO (spec_l3Restrict.l0 k y0 y1 y2 y3 y4 y5) (spec_l3Restrict.l0 (k + 1) y0 y1 y2 y3 y4 y5))
 | 0 => fun _ _ _ _ _ _ r h => by simp [spec_l3Restrict.l0] at h
 | k + 1 => by
  have ih0 := spec_l3Restrict.mono_l k
  ·intro y0 y1 y2 y3 y4 y5
   unfold spec_l3Restrict.l0
   repeat' first
   | (with_reducible exact ih0 _ _ _ _ _ _)
   | (with_reducible exact LeO.refl _)
   | (with_reducible exact LeO.none _)
   | (with_reducible refine LeO.ite ?_ ?_)
   | (with_reducible refine LeO.bind ?_ (fun _ => ?_))
   | exact ih0 _ _ _ _ _ _
   | exact LeO.none _
   | refine LeO.ite ?_ ?_
   | refine LeO.bind ?_ (fun _ => ?_)
theorem spec_l3Restrict.mono : ∀ a0 a1 a2 a3 k,LeO (spec_l3Restrict.f k a0 a1 a2 a3) (spec_l3Restrict.f (k + 1) a0 a1 a2 a3) := by
 intro a0 a1 a2 a3 k
 have ih0 := spec_l3Restrict.mono_l k
 unfold spec_l3Restrict.f
 repeat' first
   | (with_reducible exact ih0 _ _ _ _ _ _)
   | (with_reducible exact LeO.refl _)
   | (with_reducible exact LeO.none _)
   | (with_reducible refine LeO.ite ?_ ?_)
   | (with_reducible refine LeO.bind ?_ (fun _ => ?_))
   | exact ih0 _ _ _ _ _ _
   | exact LeO.none _
   | refine LeO.ite ?_ ?_
   | refine LeO.bind ?_ (fun _ => ?_)
def spec_l3Restrict.T5 : Bool × List (List Nat × List Nat) := (true,[([],[]),([],[]),([1],[1]),([],[]),([],[]),([],[]),([3,4,5],[3,4,5]),([2,6],[2,6]),([7],[7]),([],[]),([8,9],[8,9]),([0,10],[0,10]),([11,6,0,1,2,3,4,5,6,7,8,9,10,11],[0,11])])
def spec_l3Restrict.B5 : List Nat := [0,0,2,0,0,0,56,126,254,0,1022,2047,4095]
theorem spec_l3Restrict.tab5 : rtab .any (opsOf Try.f60 5) = spec_l3Restrict.T5 := by kernel_rfl
theorem spec_l3Restrict.bits5 : waitsOk spec_l3Restrict.T5.2 spec_l3Restrict.B5 = true := by kernel_rfl
set_option maxHeartbeats 8000000 in
set_option maxRecDepth 100000 in
theorem spec_l3Restrict.calls (k : Nat) (a0_0 : Int) (a0_1 : Int) (a1 : Int) (a2 : Int) (r1 : Int) (r2 : Int) (w : World) (h : spec_l3Restrict.f k a0_0 a0_1 a1 a2 = some (r1,r2)) :
  Calls Try.prog 60 #[.agg #[.int .i64 a0_0,.int .i64 a0_1],.int .i64 a1,.int .i64 a2] w fun e w' => e = .returned (.agg #[.int .i64 r1,.int .i64 r2]) ∧ Below w.heap.size w w' := by
 have hu25 := Try.underlying25
 have HB := aZ_ (Below.refl w.heap.size w)
 have H : (spec_l3Restrict.l0 k a1 a2 0 0 a0_0 a0_1) = some (r1,r2) := h
 clear h
 have H' := aZ_ H
 clear H
 go_enter Try.func60,Try.ntmps60
 go_wp2_with (first | ((with_reducible refine gate_dst (N := 3) rfl ?_);refine box_event ?hg (N := 3) ?hd (cs := #[.int .i64 a0_0,.int .i64 a0_1]) (t := 25) ?hr ?_;(case hd => rfl);(case hg => rfl);(case hr => first | (go_simp;done) | (go_simp;rfl));intro gb101 hg w4 hbox hb;have n0_ := aZ_ (below_step T5_ hb);have n1_ := aZ_ (hbox);have n2_ := aZ_ ((T3_ : w.heap.size ≤ gb101));have n3_ := aZ_ ((T3_ : w.heap.size ≤ gb101));clear HB;have HB := n0_;have BK101 := n1_;have GW101 := n2_;have GE101 := n3_;clear n0_ n1_ n2_ n3_;clear hb hbox hg) | ((with_reducible refine gate_dst (N := 6) rfl ?_);refine box_event ?hg (N := 6) ?hd (cs := #[.int .i64 0,.int .i64 0]) (t := 25) ?hr ?_;(case hd => rfl);(case hg => rfl);(case hr => first | (go_simp;done) | (go_simp;rfl));intro gb102 hg w5 hbox hb;have n0_ := aZ_ (blk_below (g := gb101) (o := .cells #[.int .i64 a0_0,.int .i64 a0_1] 25 (0,0)) T2_ hb);have n1_ := aZ_ (below_step T1_ hb);have n2_ := aZ_ (hbox);have n3_ := aZ_ ((T22_ : w.heap.size ≤ gb102));have n4_ := aZ_ ((T22_ : w.heap.size ≤ gb102));have n5_ := aZ_ ((T27_ : gb101 ≠ gb102));have n6_ := aZ_ ((T28_ : gb102 ≠ gb101));clear BK101;clear HB;have BK101 := n0_;have HB := n1_;have BK102 := n2_;have GW102 := n3_;have GE102 := n4_;have NB101_102 := n5_;have NB102_101 := n6_;clear n0_ n1_ n2_ n3_ n4_ n5_ n6_;clear hb hbox hg))
 go_loopg [7,8] k (fun kq v7 v8 w' => ∃ (x7_1 : Int) (x8_1 : Int),v7 = .int .i64 x7_1 ∧ v8 = .int .i64 x8_1 ∧ Aside0 (spec_l3Restrict.l0 kq a1 a2 x7_1 x8_1 a0_0 a0_1 = some (r1,r2)) ∧ Aside0 (kq ≤ k) ∧ Aside0 (w'.heap[gb101]? = some (.cells #[.int .i64 a0_0,.int .i64 a0_1] 25 (0,0))) ∧ Aside0 (w'.heap[gb102]? = some (.cells #[.int .i64 0,.int .i64 0] 25 (0,0))) ∧ Aside0 (Below w.heap.size w w'))
 case atStart => exact ⟨(0),(0),T6_,T6_,H',⟨Nat.le_refl _⟩,⟨by (with_reducible repeat (first | refine blk_drewN ?_ _ | refine blk_drew ?_ | refine blk_alloc ?_ _));exact BK101.out⟩,⟨by (with_reducible repeat (first | refine blk_drewN ?_ _ | refine blk_drew ?_ | refine blk_alloc ?_ _));exact BK102.out⟩,⟨by repeat (first | (with_reducible first | exact HB.out | apply below_alloc | apply pw_below_drewN | apply below_drew1 | refine below_set ?_ GE101.out | refine below_set ?_ GE102.out) | exact HB.out)⟩⟩
 case round =>
  clear H'
  try clear p2
  obtain ⟨x7_1,x8_1,rfl,rfl,HA,HK1,BK101,BK102,HB⟩ := hrel
  cases gk with
  | zero => exact absurd HA.out (by simp [spec_l3Restrict.l0])
  | succ k1 =>
   have H := HA.out
   clear HA
   simp only [spec_l3Restrict.l0] at H
   obtain ⟨ji6,hji6⟩ : ∃ j_ : Int,(wrap64 (a0_0 - 1)) = j_ := ⟨_,rfl⟩
   replace H : (if 0 ≤ (ji6) then (if x8_1 < (shl .i64 1 (ji6)) then ((spec_l3Insert.f x8_1 a1 a2).bind fun t103 => (if 0 ≤ t103 then (if 0 ≤ x8_1 then (spec_l3Restrict.l0 k1 a1 a2 (Go.bits .or .i64 x7_1 (shl .i64 (Go.bits .and .i64 (shr .i64 a0_1 t103) 1) x8_1)) (wrap64 (x8_1 + 1)) a0_0 a0_1) else (none)) else (none))) else (some (ji6,x7_1))) else (none)) = some (r1,r2) := by first | (rw [hji6] at H;exact H) | (simp only [hji6] at H ⊢;exact H)
   have hji6w : (IntKind.i64.wrap (a0_0 - 1)) = ji6 := (i64_w _).trans hji6
   by_cases c7 : 0 ≤ (ji6)
   ·rw [if_pos c7] at H
    have c7b0 := eq_true c7
    have c7b1 : decide (0 ≤ (ji6)) = true := decide_eq_true c7
    clear c7
    obtain ⟨ji8,hji8⟩ : ∃ j_ : Int,(shl .i64 1 (ji6)) = j_ := ⟨_,rfl⟩
    replace H : (if x8_1 < (ji8) then ((spec_l3Insert.f x8_1 a1 a2).bind fun t103 => (if 0 ≤ t103 then (if 0 ≤ x8_1 then (spec_l3Restrict.l0 k1 a1 a2 (Go.bits .or .i64 x7_1 (shl .i64 (Go.bits .and .i64 (shr .i64 a0_1 t103) 1) x8_1)) (wrap64 (x8_1 + 1)) a0_0 a0_1) else (none)) else (none))) else (some (ji6,x7_1))) = some (r1,r2) := by first | (rw [hji8] at H;exact H) | (simp only [hji8] at H ⊢;exact H)
    have hji8_ : (IntKind.i64.wrap (1 * 2 ^ min (ji6).toNat 64)) = ji8 := hji8
    have hji8z : (ji6) ≤ 64 → (IntKind.i64.wrap (1 * 2 ^ (ji6).toNat)) = ji8 := shl_small hji8
    have hji8u : (IntKind.i64.wrap (2 ^ min (ji6).toNat 64)) = ji8 := by have h_ := hji8_;rw [Int.one_mul] at h_;exact h_
    have hji8v : (ji6) ≤ 64 → (IntKind.i64.wrap (2 ^ (ji6).toNat)) = ji8 := fun hle_ => by have h_ := hji8z hle_;rw [Int.one_mul] at h_;exact h_
    have hji8y : (wrap64 (1 * 2 ^ min (ji6).toNat 64)) = ji8 := (i64_w _).symm.trans hji8_
    have hji8x : (ji6) ≤ 64 → (wrap64 (1 * 2 ^ (ji6).toNat)) = ji8 := fun h_ => (i64_w _).symm.trans (hji8z h_)
    by_cases c9 : x8_1 < (ji8)
    ·rw [if_pos c9] at H
     have c9b0 : decide (x8_1 < (ji8)) = true := decide_eq_true c9
     clear c9
     replace H := Option.bind_eq_some_iff.mp H
     obtain ⟨t103,A100,H⟩ := H
     replace H : (if 0 ≤ t103 then (if 0 ≤ x8_1 then (spec_l3Restrict.l0 k1 a1 a2 (Go.bits .or .i64 x7_1 (shl .i64 (Go.bits .and .i64 (shr .i64 a0_1 t103) 1) x8_1)) (wrap64 (x8_1 + 1)) a0_0 a0_1) else (none)) else (none)) = some (r1,r2) := H
     have A10 := aZ_ A100
     clear A100
     by_cases c11 : 0 ≤ t103
     ·rw [if_pos c11] at H
      have c11b0 := eq_true c11
      have c11b1 : decide (0 ≤ t103) = true := decide_eq_true c11
      clear c11
      obtain ⟨ji12,hji12⟩ : ∃ j_ : Int,(shr .i64 a0_1 t103) = j_ := ⟨_,rfl⟩
      replace H : (if 0 ≤ x8_1 then (spec_l3Restrict.l0 k1 a1 a2 (Go.bits .or .i64 x7_1 (shl .i64 (Go.bits .and .i64 (ji12) 1) x8_1)) (wrap64 (x8_1 + 1)) a0_0 a0_1) else (none)) = some (r1,r2) := by first | (rw [hji12] at H;exact H) | (simp only [hji12] at H ⊢;exact H)
      (try rw [hji12] at A10)
      have hji12_ : (a0_1 / 2 ^ min t103.toNat 64) = ji12 := hji12
      have hji12z : t103 ≤ 64 → (a0_1 / 2 ^ t103.toNat) = ji12 := shr_small hji12
      by_cases c13 : 0 ≤ x8_1
      ·rw [if_pos c13] at H
       have c13b0 := eq_true c13
       have c13b1 : decide (0 ≤ x8_1) = true := decide_eq_true c13
       clear c13
       obtain ⟨ji14,hji14⟩ : ∃ j_ : Int,(shl .i64 (Go.bits .and .i64 (ji12) 1) x8_1) = j_ := ⟨_,rfl⟩
       replace H : (spec_l3Restrict.l0 k1 a1 a2 (Go.bits .or .i64 x7_1 (ji14)) (wrap64 (x8_1 + 1)) a0_0 a0_1) = some (r1,r2) := by first | (rw [hji14] at H;exact H) | (simp only [hji14] at H ⊢;exact H)
       (try rw [hji14] at A10)
       have hji14_ : (IntKind.i64.wrap ((Go.bits .and .i64 (ji12) 1) * 2 ^ min x8_1.toNat 64)) = ji14 := hji14
       have hji14z : x8_1 ≤ 64 → (IntKind.i64.wrap ((Go.bits .and .i64 (ji12) 1) * 2 ^ x8_1.toNat)) = ji14 := shl_small hji14
       have hji14y : (wrap64 ((Go.bits .and .i64 (ji12) 1) * 2 ^ min x8_1.toNat 64)) = ji14 := (i64_w _).symm.trans hji14_
       have hji14x : x8_1 ≤ 64 → (wrap64 ((Go.bits .and .i64 (ji12) 1) * 2 ^ x8_1.toNat)) = ji14 := fun h_ => (i64_w _).symm.trans (hji14z h_)
       have H' := aZ_ H
       clear H
       have hnb15 := NB101_102.out
       have hnc15 := NB102_101.out
       have hcz16_0 : wr.cell? ⟨gb101,0,none⟩ = some (.int .i64 a0_0) := (blk_cell BK101.out 0).trans rfl
       have hcz16_1 : wr.cell? ⟨gb101,1,none⟩ = some (.int .i64 a0_1) := (blk_cell BK101.out 1).trans rfl
       have hfz16_0 := blk_frozen BK101.out 0
       have hfz16_1 := blk_frozen BK101.out 1
       try go_wp2
       have n0_ := aZ_ (blk_drew BK101.out)
       have n1_ := aZ_ (blk_drew BK102.out)
       have n2_ := aZ_ (below_drew1 HB.out)
       clear BK101
       clear BK102
       clear HB
       have BK101 := n0_
       have BK102 := n1_
       have HB := n2_
       clear n0_ n1_ n2_
       refine start_ (n := 13) (S := fun w' => w'.cell? ⟨gb101,0,none⟩ = some (.int .i64 a0_0) ∧ w'.cell? ⟨gb101,1,none⟩ = some (.int .i64 a0_1)) (ds := []) #[false,false,false,false,false,false,false,false,false,false,false,false,false] T12_ rfl rfl ⟨(blk_cell BK101.out 0).trans rfl,(blk_cell BK101.out 1).trans rfl⟩ (fun hHeld => ?_);refine with_tabW spec_l3Restrict.tab5 spec_l3Restrict.bits5 (fun HT_ HW_ => ?_)
       generalize wr.drew = w17 at BK101 BK102 HB hHeld ⊢
       refine pZ_ 0 (some 17) #[true,false,false,false,false,false,false,false,false,false,false,false,false] ?_
       refine pZ_ 1 (some 18) #[true,true,false,false,false,false,false,false,false,false,false,false,false] ?_
       refine pZ_ 3 (some 20) #[true,true,false,true,false,false,false,false,false,false,false,false,false] ?_
       refine pZ_ 4 (some 21) #[true,true,false,true,true,false,false,false,false,false,false,false,false] ?_
       refine pZ_ 5 (some 22) #[true,true,false,true,true,true,false,false,false,false,false,false,false] ?_
       refine pZ_ 9 (some 26) #[true,true,false,true,true,true,false,false,false,true,false,false,false] ?_
       refine tZ2_ 2 (some 19) #[true,true,true,true,true,true,false,false,false,true,false,false,false] hHeld ?_
       refine one_ (i := 6) (N := some 23) #[true,true,true,true,true,true,true,false,false,true,false,false,false] rfl rfl (one_of HT_.out T12_) T35_ (fun K hK => ?_)
       refine gZ_ Try.func68 #[.int .i64 x8_1,.int .i64 a1,.int .i64 a2] ?_
       with_reducible refine (spec_l3Insert.calls x8_1 a1 a2 t103 _ A10.out).mono ?_
       rintro e w' ⟨rfl,⟨nd,rfl⟩⟩
       refine ⟨_,rfl,?_⟩
       refine hK.out _ _ ⟨(blk_cell BK101.out 0).trans rfl,(blk_cell BK101.out 1).trans rfl⟩ (fun hHeld => ?_)
       clear hK K
       refine norm_ (a' := ?_) ?_ ?_
       rotate_left
       ·show Act.put _ (some 23) _ = _
        simp only [Act.put,List.setIfInBounds_toArray,List.set_cons_zero,List.set_cons_succ,i64_w,i32_w]
        rfl
       refine pZ_ 7 (some 24) #[true,true,true,true,true,true,true,true,false,true,false,false,false] ?_
       refine pZ_ 8 (some 25) #[true,true,true,true,true,true,true,true,true,true,false,false,false] ?_
       refine pZ_ 10 (some 27) #[true,true,true,true,true,true,true,true,true,true,true,false,false] ?_
       refine pZ_ 11 (some 28) #[true,true,true,true,true,true,true,true,true,true,true,true,false] ?_
       refine pZ_ 12 (some 7) #[true,true,true,true,true,true,true,true,true,true,true,true,true] ?_
       refine done_ (done_of HT_.out T12_) ?_
       try go_wp2
       go_roundg k1
       case measure => have := HK1.out;omega
       case rel => exact ⟨(Go.bits .or .i64 x7_1 (ji14)),(wrap64 (x8_1 + 1)),(by first | rfl | (simp;done) | (simp only [← hji14] <;> (first | rfl | simp)) | (simp [*];done)),T6_,H',⟨by have := HK1.out;omega⟩,⟨by (with_reducible repeat (first | refine blk_drewN ?_ _ | refine blk_drew ?_ | refine blk_alloc ?_ _));exact BK101.out⟩,⟨by (with_reducible repeat (first | refine blk_drewN ?_ _ | refine blk_drew ?_ | refine blk_alloc ?_ _));exact BK102.out⟩,⟨by repeat (first | (with_reducible first | exact HB.out | apply below_alloc | apply pw_below_drewN | apply below_drew1 | refine below_set ?_ GE101.out | refine below_set ?_ GE102.out) | exact HB.out)⟩⟩
      ·rw [if_neg c13] at H
       exact absurd H T40_
     ·rw [if_neg c11] at H
      exact absurd H T40_
    ·rw [if_neg c9] at H
     have c9b0 : decide (x8_1 < (ji8)) = false := decide_eq_false c9
     clear c9
     simp only [Option.some.injEq,Prod.mk.injEq] at H
     obtain ⟨rfl,rfl⟩ := H
     have hnb18 := NB101_102.out
     have hnc18 := NB102_101.out
     have hcz19_0 : wr.cell? ⟨gb101,0,none⟩ = some (.int .i64 a0_0) := (blk_cell BK101.out 0).trans rfl
     have hcz19_1 : wr.cell? ⟨gb101,1,none⟩ = some (.int .i64 a0_1) := (blk_cell BK101.out 1).trans rfl
     have hfz19_0 := blk_frozen BK101.out 0
     have hfz19_1 := blk_frozen BK101.out 1
     have hcz20_0 : wr.cell? ⟨gb102,0,none⟩ = some (.int .i64 0) := (blk_cell BK102.out 0).trans rfl
     have hcz20_1 : wr.cell? ⟨gb102,1,none⟩ = some (.int .i64 0) := (blk_cell BK102.out 1).trans rfl
     have hfz20_0 := blk_frozen BK102.out 0
     have hfz20_1 := blk_frozen BK102.out 1
     go_wp2
     refine bodyPost_ret (results_cell_row rfl _ _ gb102 25 #[.int .i64 ji6,.int .i64 x7_1] (0,0) _ rfl (by (with_reducible repeat (first | refine blk_drewN ?_ _ | refine blk_drew ?_ | refine blk_alloc ?_ _));refine blk_put (cs := #[.int .i64 ji6,.int .i64 0]) ?_ 1 _ rfl;(with_reducible repeat (first | refine blk_drewN ?_ _ | refine blk_drew ?_ | refine blk_alloc ?_ _));refine blk_put (cs := #[.int .i64 0,.int .i64 0]) ?_ 0 _ rfl;(with_reducible repeat (first | refine blk_drewN ?_ _ | refine blk_drew ?_ | refine blk_alloc ?_ _));exact BK102.out) Try.underlying25 rfl T12_) rfl ?_
     exact ⟨by first | rfl | (simp [errW_none,errW_some] <;> rfl) | (simp only [← hji6,← hji8];first | rfl | (simp [errW_none,errW_some] <;> rfl)) | (simp [*,errW_none,errW_some] <;> rfl),by repeat (first | (with_reducible first | exact HB.out | apply below_alloc | apply pw_below_drewN | apply below_drew1 | refine below_set ?_ GE101.out | refine below_set ?_ GE102.out) | exact HB.out)⟩
   ·rw [if_neg c7] at H
    exact absurd H T40_
end Go.Proofs.Ytmmdcbdchifniaa.F
namespace Go.Proofs.Ytmmdcbdchifniaa.F
open Go.RowKit Go.Proofs.YtmmdcbdchifniaaW.PrintWords Go.Proofs.YtmmdcbdchifniaaW.PrintLast Go.Proofs.YtmmdcbdchifniaaW.PrintMore
attribute [local go_sem] max2_int min2_int max_two min_two max_three min_three max_four min_four 
set_option linter.unusedVariables false
set_option linter.unusedSimpArgs false
def spec_l15Monotone.l0 : Nat → Int → Int → Int → Option (Bool)
 | 0,_,_,_ => none
 | k + 1,x3,x102000,x102001 => if x3 < x102000 then ((spec_l3Restrict.f k x102000 x102001 x3 0).bind fun bt102 => ((spec_l3Restrict.f k x102000 x102001 x3 1).bind fun bt104 => (if (Go.bits .and .i64 bt102.2 bt104.2) = bt102.2 then (spec_l15Monotone.l0 k (wrap64 (x3 + 1)) x102000 x102001) else (some false)))) else (some true)
def spec_l15Monotone.f (k : Nat) (a0_0 : Int) (a0_1 : Int) : Option (Bool) := spec_l15Monotone.l0 k 0 a0_0 a0_1
theorem spec_l15Monotone.mono_l : ∀ k,(∀ y0 y1 y2,LeO (spec_l15Monotone.l0 k y0 y1 y2) (spec_l15Monotone.l0 (k + 1) y0 y1 y2))
 | 0 => fun _ _ _ r h => by simp [spec_l15Monotone.l0] at h
 | k + 1 => by
  have ih0 := spec_l15Monotone.mono_l k
  ·intro y0 y1 y2
   unfold spec_l15Monotone.l0
   repeat' first
   | (with_reducible exact ih0 _ _ _)
   | (with_reducible exact spec_l3Restrict.mono _ _ _ _ _)
   | (with_reducible exact LeO.refl _)
   | (with_reducible exact LeO.none _)
   | (with_reducible refine LeO.ite ?_ ?_)
   | (with_reducible refine LeO.bind ?_ (fun _ => ?_))
   | exact ih0 _ _ _
   | exact spec_l3Restrict.mono _ _ _ _ _
   | exact LeO.none _
   | refine LeO.ite ?_ ?_
   | refine LeO.bind ?_ (fun _ => ?_)
theorem spec_l15Monotone.mono : ∀ a0 a1 k,LeO (spec_l15Monotone.f k a0 a1) (spec_l15Monotone.f (k + 1) a0 a1) := by
 intro a0 a1 k
 have ih0 := spec_l15Monotone.mono_l k
 unfold spec_l15Monotone.f
 repeat' first
   | (with_reducible exact ih0 _ _ _)
   | (with_reducible exact spec_l3Restrict.mono _ _ _ _ _)
   | (with_reducible exact LeO.refl _)
   | (with_reducible exact LeO.none _)
   | (with_reducible refine LeO.ite ?_ ?_)
   | (with_reducible refine LeO.bind ?_ (fun _ => ?_))
   | exact ih0 _ _ _
   | exact spec_l3Restrict.mono _ _ _ _ _
   | exact LeO.none _
   | refine LeO.ite ?_ ?_
   | refine LeO.bind ?_ (fun _ => ?_)
set_option maxHeartbeats 8000000 in
set_option maxRecDepth 100000 in
theorem spec_l15Monotone.calls (k : Nat) (a0_0 : Int) (a0_1 : Int) (r : Bool) (w : World) (h : spec_l15Monotone.f k a0_0 a0_1 = some r) :
  Calls Try.prog 43 #[.agg #[.int .i64 a0_0,.int .i64 a0_1]] w fun e w' => e = .returned (.bool r) ∧ Below w.heap.size w w' := by
 have hu25 := Try.underlying25
 have hfd25_1 : ∀ (x0_ x1_ : Int) (W : World),(Instr.field 25 (.agg #[.int .i64 x0_,.int .i64 x1_]) 1).run Try.prog W = .ok (.int .i64 x1_) W := fun _ _ _ => by kernel_rfl
 have HB := aZ_ (Below.refl w.heap.size w)
 have H : (spec_l15Monotone.l0 k 0 a0_0 a0_1) = some r := h
 clear h
 have H' := aZ_ H
 clear H
 go_enter Try.func43,Try.ntmps43
 go_wp2_with (first | ((with_reducible refine gate_dst (N := 1) rfl ?_);refine box_event ?hg (N := 1) ?hd (cs := #[.int .i64 a0_0,.int .i64 a0_1]) (t := 25) ?hr ?_;(case hd => rfl);(case hg => rfl);(case hr => first | (go_simp;done) | (go_simp;rfl));intro gb101 hg w2 hbox hb;have n0_ := aZ_ (below_step T5_ hb);have n1_ := aZ_ (hbox);have n2_ := aZ_ ((T3_ : w.heap.size ≤ gb101));have n3_ := aZ_ ((T3_ : w.heap.size ≤ gb101));clear HB;have HB := n0_;have BK101 := n1_;have GW101 := n2_;have GE101 := n3_;clear n0_ n1_ n2_ n3_;clear hb hbox hg))
 go_loopg [3] k (fun kq v3 w' => ∃ (x3_1 : Int),v3 = .int .i64 x3_1 ∧ Aside0 (spec_l15Monotone.l0 kq x3_1 a0_0 a0_1 = some r) ∧ Aside0 (kq ≤ k) ∧ Aside0 (w'.heap[gb101]? = some (.cells #[.int .i64 a0_0,.int .i64 a0_1] 25 (0,0))) ∧ Aside0 (Below w.heap.size w w'))
 case atStart => exact ⟨(0),T6_,H',⟨Nat.le_refl _⟩,⟨by (with_reducible repeat (first | refine blk_drewN ?_ _ | refine blk_drew ?_ | refine blk_alloc ?_ _));exact BK101.out⟩,⟨by repeat (first | (with_reducible first | exact HB.out | apply below_alloc | apply pw_below_drewN | apply below_drew1 | refine below_set ?_ GE101.out) | exact HB.out)⟩⟩
 case round =>
  clear H'
  try clear p2
  obtain ⟨x3_1,rfl,HA,HK1,BK101,HB⟩ := hrel
  cases gk with
  | zero => exact absurd HA.out (by simp [spec_l15Monotone.l0])
  | succ k1 =>
   have H := HA.out
   clear HA
   simp only [spec_l15Monotone.l0] at H
   by_cases c3 : x3_1 < a0_0
   ·rw [if_pos c3] at H
    have c3b0 : decide (x3_1 < a0_0) = true := decide_eq_true c3
    clear c3
    replace H := Option.bind_eq_some_iff.mp H
    obtain ⟨⟨t102,t103⟩,A40,H⟩ := H
    replace H : ((spec_l3Restrict.f k1 a0_0 a0_1 x3_1 1).bind fun bt104 => (if (Go.bits .and .i64 t103 bt104.2) = t103 then (spec_l15Monotone.l0 k1 (wrap64 (x3_1 + 1)) a0_0 a0_1) else (some false))) = some r := H
    have A4 := aZ_ A40
    clear A40
    replace H := Option.bind_eq_some_iff.mp H
    obtain ⟨⟨t104,t105⟩,A50,H⟩ := H
    replace H : (if (Go.bits .and .i64 t103 t105) = t103 then (spec_l15Monotone.l0 k1 (wrap64 (x3_1 + 1)) a0_0 a0_1) else (some false)) = some r := H
    have A5 := aZ_ A50
    clear A50
    by_cases c6 : (Go.bits .and .i64 t103 t105) = t103
    ·rw [if_pos c6] at H
     have c6b0 : ((Go.bits .and .i64 t103 t105) == t103) = true := beq_iff_eq.mpr c6
     have c6b1 : ((Go.bits .and .i64 t103 t105) != t103) = false := bne_eq_false_iff_eq.mpr c6
     clear c6
     have H' := aZ_ H
     clear H
     have hcz7_0 : wr.cell? ⟨gb101,0,none⟩ = some (.int .i64 a0_0) := (blk_cell BK101.out 0).trans rfl
     have hcz7_1 : wr.cell? ⟨gb101,1,none⟩ = some (.int .i64 a0_1) := (blk_cell BK101.out 1).trans rfl
     have hfz7_0 := blk_frozen BK101.out 0
     have hfz7_1 := blk_frozen BK101.out 1
     go_wp2_with (first | ((with_reducible refine gate_callee (f := 60) rfl ?_);refine goesL_ (some 14) rfl rfl Try.func60 T12_ rfl #[.agg #[.int .i64 a0_0,.int .i64 a0_1],.int .i64 x3_1,.int .i64 0] rfl T4_ ?_;(with_reducible refine (spec_l3Restrict.calls k1 a0_0 a0_1 x3_1 0 t102 t103 _ A4.out).mono ?_);rintro e w8 ⟨rfl,hb⟩;refine ⟨_,rfl,?_⟩;have n0_ := aZ_ (blk_below (g := gb101) (o := .cells #[.int .i64 a0_0,.int .i64 a0_1] 25 (0,0)) T2_ hb);have n1_ := aZ_ (below_step T1_ hb);clear BK101;clear HB;have BK101 := n0_;have HB := n1_;clear n0_ n1_;(try clear hb);(try clear hb2);(try clear hk);(try clear hi);have hcz9_0 : w8.cell? ⟨gb101,0,none⟩ = some (.int .i64 a0_0) := (blk_cell BK101.out 0).trans rfl;have hcz9_1 : w8.cell? ⟨gb101,1,none⟩ = some (.int .i64 a0_1) := (blk_cell BK101.out 1).trans rfl;have hfz9_0 := blk_frozen BK101.out 0;have hfz9_1 := blk_frozen BK101.out 1) | ((with_reducible refine gate_callee (f := 60) rfl ?_);refine goesL_ (some 18) rfl rfl Try.func60 T12_ rfl #[.agg #[.int .i64 a0_0,.int .i64 a0_1],.int .i64 x3_1,.int .i64 1] rfl T4_ ?_;(with_reducible refine (spec_l3Restrict.calls k1 a0_0 a0_1 x3_1 1 t104 t105 _ A5.out).mono ?_);rintro e w10 ⟨rfl,hb⟩;refine ⟨_,rfl,?_⟩;have n0_ := aZ_ (blk_below (g := gb101) (o := .cells #[.int .i64 a0_0,.int .i64 a0_1] 25 (0,0)) T2_ hb);have n1_ := aZ_ (below_step T1_ hb);clear BK101;clear HB;have BK101 := n0_;have HB := n1_;clear n0_ n1_;(try clear hb);(try clear hb2);(try clear hk);(try clear hi)))
     go_roundg k1
     case measure => have := HK1.out;omega
     case rel => exact ⟨(wrap64 (x3_1 + 1)),T6_,H',⟨by have := HK1.out;omega⟩,⟨by (with_reducible repeat (first | refine blk_drewN ?_ _ | refine blk_drew ?_ | refine blk_alloc ?_ _));exact BK101.out⟩,⟨by repeat (first | (with_reducible first | exact HB.out | apply below_alloc | apply pw_below_drewN | apply below_drew1 | refine below_set ?_ GE101.out) | exact HB.out)⟩⟩
    ·rw [if_neg c6] at H
     have c6b0 : ((Go.bits .and .i64 t103 t105) == t103) = false := beq_eq_false_iff_ne.mpr c6
     have c6b1 : ((Go.bits .and .i64 t103 t105) != t103) = true := bne_iff_ne.mpr c6
     obtain rfl := Option.some.inj H
     have hcz11_0 : wr.cell? ⟨gb101,0,none⟩ = some (.int .i64 a0_0) := (blk_cell BK101.out 0).trans rfl
     have hcz11_1 : wr.cell? ⟨gb101,1,none⟩ = some (.int .i64 a0_1) := (blk_cell BK101.out 1).trans rfl
     have hfz11_0 := blk_frozen BK101.out 0
     have hfz11_1 := blk_frozen BK101.out 1
     go_wp2_with (first | ((with_reducible refine gate_callee (f := 60) rfl ?_);refine goesL_ (some 14) rfl rfl Try.func60 T12_ rfl #[.agg #[.int .i64 a0_0,.int .i64 a0_1],.int .i64 x3_1,.int .i64 0] rfl T4_ ?_;(with_reducible refine (spec_l3Restrict.calls k1 a0_0 a0_1 x3_1 0 t102 t103 _ A4.out).mono ?_);rintro e w12 ⟨rfl,hb⟩;refine ⟨_,rfl,?_⟩;have n0_ := aZ_ (blk_below (g := gb101) (o := .cells #[.int .i64 a0_0,.int .i64 a0_1] 25 (0,0)) T2_ hb);have n1_ := aZ_ (below_step T1_ hb);clear BK101;clear HB;have BK101 := n0_;have HB := n1_;clear n0_ n1_;(try clear hb);(try clear hb2);(try clear hk);(try clear hi);have hcz13_0 : w12.cell? ⟨gb101,0,none⟩ = some (.int .i64 a0_0) := (blk_cell BK101.out 0).trans rfl;have hcz13_1 : w12.cell? ⟨gb101,1,none⟩ = some (.int .i64 a0_1) := (blk_cell BK101.out 1).trans rfl;have hfz13_0 := blk_frozen BK101.out 0;have hfz13_1 := blk_frozen BK101.out 1) | ((with_reducible refine gate_callee (f := 60) rfl ?_);refine goesL_ (some 18) rfl rfl Try.func60 T12_ rfl #[.agg #[.int .i64 a0_0,.int .i64 a0_1],.int .i64 x3_1,.int .i64 1] rfl T4_ ?_;(with_reducible refine (spec_l3Restrict.calls k1 a0_0 a0_1 x3_1 1 t104 t105 _ A5.out).mono ?_);rintro e w14 ⟨rfl,hb⟩;refine ⟨_,rfl,?_⟩;have n0_ := aZ_ (blk_below (g := gb101) (o := .cells #[.int .i64 a0_0,.int .i64 a0_1] 25 (0,0)) T2_ hb);have n1_ := aZ_ (below_step T1_ hb);clear BK101;clear HB;have BK101 := n0_;have HB := n1_;clear n0_ n1_;(try clear hb);(try clear hb2);(try clear hk);(try clear hi)))
     go_ret
     exact ⟨by first | rfl | (simp [errW_none,errW_some] <;> rfl) | (simp [*,errW_none,errW_some] <;> rfl),by repeat (first | (with_reducible first | exact HB.out | apply below_alloc | apply pw_below_drewN | apply below_drew1 | refine below_set ?_ GE101.out) | exact HB.out)⟩
   ·rw [if_neg c3] at H
    have c3b0 : decide (x3_1 < a0_0) = false := decide_eq_false c3
    clear c3
    obtain rfl := Option.some.inj H
    have hcz15_0 : wr.cell? ⟨gb101,0,none⟩ = some (.int .i64 a0_0) := (blk_cell BK101.out 0).trans rfl
    have hcz15_1 : wr.cell? ⟨gb101,1,none⟩ = some (.int .i64 a0_1) := (blk_cell BK101.out 1).trans rfl
    have hfz15_0 := blk_frozen BK101.out 0
    have hfz15_1 := blk_frozen BK101.out 1
    go_wp2
    go_ret
    exact ⟨by first | rfl | (simp [errW_none,errW_some] <;> rfl) | (simp [*,errW_none,errW_some] <;> rfl),by repeat (first | (with_reducible first | exact HB.out | apply below_alloc | apply pw_below_drewN | apply below_drew1 | refine below_set ?_ GE101.out) | exact HB.out)⟩
end Go.Proofs.Ytmmdcbdchifniaa.F
namespace Go.Proofs.Ytmmdcbdchifniaa.F
open Go.RowKit Go.Proofs.YtmmdcbdchifniaaW.PrintWords Go.Proofs.YtmmdcbdchifniaaW.PrintLast Go.Proofs.YtmmdcbdchifniaaW.PrintMore
attribute [local go_sem] max2_int min2_int max_two min_two max_three min_three max_four min_four 
set_option linter.unusedVariables false
set_option linter.unusedSimpArgs false
def spec_IsSimpleGame.f (k : Nat) (a0_0 : Int) (a0_1 : Int) : Option (Bool) := (spec_IsTable.f a0_0 a0_1).bind fun t102 => (if t102 = true then ((spec_l15Monotone.f k a0_0 a0_1).bind fun t103 => (if t103 = true then (if (Go.bits .and .i64 a0_1 1) = 0 then (if 0 ≤ a0_0 then (if 0 ≤ (IntKind.u64.wrap ((shl .u64 1 a0_0) - 1)) then (some ((Go.bits .and .i64 (shr .i64 a0_1 (IntKind.u64.wrap ((shl .u64 1 a0_0) - 1))) 1) == 1)) else (none)) else (none)) else (some false)) else (some false))) else (some false))
theorem spec_IsSimpleGame.mono : ∀ a0 a1 k,LeO (spec_IsSimpleGame.f k a0 a1) (spec_IsSimpleGame.f (k + 1) a0 a1) := by
 intro a0 a1 k
 unfold spec_IsSimpleGame.f
 repeat' first
   | (with_reducible exact spec_l15Monotone.mono _ _ _)
   | (with_reducible exact LeO.refl _)
   | (with_reducible exact LeO.none _)
   | (with_reducible refine LeO.ite ?_ ?_)
   | (with_reducible refine LeO.bind ?_ (fun _ => ?_))
   | exact spec_l15Monotone.mono _ _ _
   | exact LeO.none _
   | refine LeO.ite ?_ ?_
   | refine LeO.bind ?_ (fun _ => ?_)
def spec_IsSimpleGame.T1 : Bool × List (List Nat × List Nat) := (true,[([],[]),([0],[0]),([1,1],[1]),([2],[2]),([3,2,2],[2,3]),([2,4],[2,4]),([5,4],[5]),([6],[6]),([7,6],[6,7]),([8,6],[6,8]),([9,6],[6,9]),([6,10],[6,10]),([11,6],[11]),([12],[12]),([13,12],[12,13]),([12],[12]),([15,12],[12,15]),([16,12],[12,16]),([17,12],[12,17]),([14,18,12],[12,14,18]),([19,12],[12,19]),([20,12],[12,20]),([12,21],[12,21]),([22,12,0,1,2,3,4,5,6,7,8,9,10,11,12,13,14,15,16,17,18,19,20,21,22],[22])])
def spec_IsSimpleGame.B1 : List Nat := [0,1,3,7,15,31,63,127,255,511,1023,2047,4095,8191,16383,8191,40959,106495,237567,524287,1048575,2097151,4194303,8388607]
theorem spec_IsSimpleGame.tab1 : rtab .any (opsOf Try.f16 1) = spec_IsSimpleGame.T1 := by kernel_rfl
theorem spec_IsSimpleGame.bits1 : waitsOk spec_IsSimpleGame.T1.2 spec_IsSimpleGame.B1 = true := by kernel_rfl
set_option maxHeartbeats 8000000 in
set_option maxRecDepth 100000 in
theorem spec_IsSimpleGame.calls (k : Nat) (a0_0 : Int) (a0_1 : Int) (r : Bool) (w : World) (h : spec_IsSimpleGame.f k a0_0 a0_1 = some r) :
  Calls Try.prog 16 #[.agg #[.int .i64 a0_0,.int .i64 a0_1]] w fun e w' => e = .returned (.bool r) ∧ Below w.heap.size w w' := by
 have hu25 := Try.underlying25
 have HB := aZ_ (Below.refl w.heap.size w)
 have H : ((spec_IsTable.f a0_0 a0_1).bind fun t102 => (if t102 = true then ((spec_l15Monotone.f k a0_0 a0_1).bind fun t103 => (if t103 = true then (if (Go.bits .and .i64 a0_1 1) = 0 then (if 0 ≤ a0_0 then (if 0 ≤ (IntKind.u64.wrap ((shl .u64 1 a0_0) - 1)) then (some ((Go.bits .and .i64 (shr .i64 a0_1 (IntKind.u64.wrap ((shl .u64 1 a0_0) - 1))) 1) == 1)) else (none)) else (none)) else (some false)) else (some false))) else (some false))) = some r := h
 clear h
 replace H := Option.bind_eq_some_iff.mp H
 obtain ⟨t102,A20,H⟩ := H
 replace H : (if t102 = true then ((spec_l15Monotone.f k a0_0 a0_1).bind fun t103 => (if t103 = true then (if (Go.bits .and .i64 a0_1 1) = 0 then (if 0 ≤ a0_0 then (if 0 ≤ (IntKind.u64.wrap ((shl .u64 1 a0_0) - 1)) then (some ((Go.bits .and .i64 (shr .i64 a0_1 (IntKind.u64.wrap ((shl .u64 1 a0_0) - 1))) 1) == 1)) else (none)) else (none)) else (some false)) else (some false))) else (some false)) = some r := H
 have A2 := aZ_ A20
 clear A20
 by_cases c3 : t102 = true
 ·subst c3
  have H1 : ((spec_l15Monotone.f k a0_0 a0_1).bind fun t103 => (if t103 = true then (if (Go.bits .and .i64 a0_1 1) = 0 then (if 0 ≤ a0_0 then (if 0 ≤ (IntKind.u64.wrap ((shl .u64 1 a0_0) - 1)) then (some ((Go.bits .and .i64 (shr .i64 a0_1 (IntKind.u64.wrap ((shl .u64 1 a0_0) - 1))) 1) == 1)) else (none)) else (none)) else (some false)) else (some false))) = some r := by rw [if_pos rfl] at H;exact H
  clear H
  have H := H1
  clear H1
  replace H := Option.bind_eq_some_iff.mp H
  obtain ⟨t103,A40,H⟩ := H
  replace H : (if t103 = true then (if (Go.bits .and .i64 a0_1 1) = 0 then (if 0 ≤ a0_0 then (if 0 ≤ (IntKind.u64.wrap ((shl .u64 1 a0_0) - 1)) then (some ((Go.bits .and .i64 (shr .i64 a0_1 (IntKind.u64.wrap ((shl .u64 1 a0_0) - 1))) 1) == 1)) else (none)) else (none)) else (some false)) else (some false)) = some r := H
  have A4 := aZ_ A40
  clear A40
  by_cases c5 : t103 = true
  ·subst c5
   have H1 : (if (Go.bits .and .i64 a0_1 1) = 0 then (if 0 ≤ a0_0 then (if 0 ≤ (IntKind.u64.wrap ((shl .u64 1 a0_0) - 1)) then (some ((Go.bits .and .i64 (shr .i64 a0_1 (IntKind.u64.wrap ((shl .u64 1 a0_0) - 1))) 1) == 1)) else (none)) else (none)) else (some false)) = some r := by rw [if_pos rfl] at H;exact H
   clear H
   have H := H1
   clear H1
   by_cases c6 : (Go.bits .and .i64 a0_1 1) = 0
   ·rw [if_pos c6] at H
    have c6b0 : ((Go.bits .and .i64 a0_1 1) == 0) = true := beq_iff_eq.mpr c6
    have c6b1 : ((Go.bits .and .i64 a0_1 1) != 0) = false := bne_eq_false_iff_eq.mpr c6
    clear c6
    by_cases c7 : 0 ≤ a0_0
    ·rw [if_pos c7] at H
     have c7b0 := eq_true c7
     have c7b1 : decide (0 ≤ a0_0) = true := decide_eq_true c7
     clear c7
     obtain ⟨ji8,hji8⟩ : ∃ j_ : Int,(shl .u64 1 a0_0) = j_ := ⟨_,rfl⟩
     replace H : (if 0 ≤ (IntKind.u64.wrap ((ji8) - 1)) then (some ((Go.bits .and .i64 (shr .i64 a0_1 (IntKind.u64.wrap ((ji8) - 1))) 1) == 1)) else (none)) = some r := by first | (rw [hji8] at H;exact H) | (simp only [hji8] at H ⊢;exact H)
     (try rw [hji8] at A2)
     (try rw [hji8] at A4)
     have hji8_ : (IntKind.u64.wrap (1 * 2 ^ min a0_0.toNat 64)) = ji8 := hji8
     have hji8z : a0_0 ≤ 64 → (IntKind.u64.wrap (1 * 2 ^ a0_0.toNat)) = ji8 := shl_small hji8
     have hji8u : (IntKind.u64.wrap (2 ^ min a0_0.toNat 64)) = ji8 := by have h_ := hji8_;rw [Int.one_mul] at h_;exact h_
     have hji8v : a0_0 ≤ 64 → (IntKind.u64.wrap (2 ^ a0_0.toNat)) = ji8 := fun hle_ => by have h_ := hji8z hle_;rw [Int.one_mul] at h_;exact h_
     obtain ⟨ji9,hji9⟩ : ∃ j_ : Int,(IntKind.u64.wrap ((ji8) - 1)) = j_ := ⟨_,rfl⟩
     replace H : (if 0 ≤ (ji9) then (some ((Go.bits .and .i64 (shr .i64 a0_1 (ji9)) 1) == 1)) else (none)) = some r := by first | (rw [hji9] at H;exact H) | (simp only [hji9] at H ⊢;exact H)
     (try rw [hji9] at A2)
     (try rw [hji9] at A4)
     by_cases c10 : 0 ≤ (ji9)
     ·rw [if_pos c10] at H
      have c10b0 := eq_true c10
      have c10b1 : decide (0 ≤ (ji9)) = true := decide_eq_true c10
      clear c10
      obtain ⟨ji11,hji11⟩ : ∃ j_ : Int,(shr .i64 a0_1 (ji9)) = j_ := ⟨_,rfl⟩
      replace H : (some ((Go.bits .and .i64 (ji11) 1) == 1)) = some r := by first | (rw [hji11] at H;exact H) | (simp only [hji11] at H ⊢;exact H)
      (try rw [hji11] at A2)
      (try rw [hji11] at A4)
      have hji11_ : (a0_1 / 2 ^ min (ji9).toNat 64) = ji11 := hji11
      have hji11z : (ji9) ≤ 64 → (a0_1 / 2 ^ (ji9).toNat) = ji11 := shr_small hji11
      obtain rfl := Option.some.inj H
      go_enter Try.func16,Try.ntmps16
      try go_wp2_with (first | ((with_reducible refine gate_dst (N := 1) rfl ?_);refine box_event ?hg (N := 1) ?hd (cs := #[.int .i64 a0_0,.int .i64 a0_1]) (t := 25) ?hr ?_;(case hd => rfl);(case hg => rfl);(case hr => first | (go_simp;done) | (go_simp;rfl));intro gb101 hg w12 hbox hb;have n0_ := aZ_ (below_step T5_ hb);have n1_ := aZ_ (hbox);have n2_ := aZ_ ((T3_ : w.heap.size ≤ gb101));have n3_ := aZ_ ((T3_ : w.heap.size ≤ gb101));clear HB;have HB := n0_;have BK101 := n1_;have GW101 := n2_;have GE101 := n3_;clear n0_ n1_ n2_ n3_;clear hb hbox hg))
      have n0_ := aZ_ (blk_drew BK101.out)
      have n1_ := aZ_ (below_drew1 HB.out)
      clear BK101
      clear HB
      have BK101 := n0_
      have HB := n1_
      clear n0_ n1_
      refine start_ (n := 24) (S := fun w' => w'.cell? ⟨gb101,0,none⟩ = some (.int .i64 a0_0) ∧ w'.cell? ⟨gb101,1,none⟩ = some (.int .i64 a0_1)) (ds := []) #[false,false,false,false,false,false,false,false,false,false,false,false,false,false,false,false,false,false,false,false,false,false,false,false] T12_ rfl rfl ⟨(blk_cell BK101.out 0).trans rfl,(blk_cell BK101.out 1).trans rfl⟩ (fun hHeld => ?_);refine with_tabW spec_IsSimpleGame.tab1 spec_IsSimpleGame.bits1 (fun HT_ HW_ => ?_)
      generalize w12.drew = w13 at BK101 HB hHeld ⊢
      refine tZ2_ 0 (some 3) #[true,false,false,false,false,false,false,false,false,false,false,false,false,false,false,false,false,false,false,false,false,false,false,false] hHeld ?_
      refine one_ (i := 1) (N := some 4) #[true,true,false,false,false,false,false,false,false,false,false,false,false,false,false,false,false,false,false,false,false,false,false,false] rfl rfl (one_of HT_.out T12_) T35_ (fun K hK => ?_)
      refine gZ_ Try.func42 #[.agg #[.int .i64 a0_0,.int .i64 a0_1]] ?_
      with_reducible refine (spec_IsTable.calls a0_0 a0_1 true _ A2.out).mono ?_
      rintro e w14 ⟨rfl,hb⟩
      refine ⟨_,rfl,?_⟩
      have n0_ := aZ_ (blk_below (g := gb101) (o := .cells #[.int .i64 a0_0,.int .i64 a0_1] 25 (0,0)) T2_ hb)
      have n1_ := aZ_ (below_step T1_ hb)
      clear BK101
      clear HB
      have BK101 := n0_
      have HB := n1_
      clear n0_ n1_
      (try clear hb)
      (try clear hb2)
      (try clear hk)
      (try clear hi)
      refine hK.out _ _ ⟨(blk_cell BK101.out 0).trans rfl,(blk_cell BK101.out 1).trans rfl⟩ (fun hHeld => ?_)
      clear hK K
      refine norm_ (a' := ?_) ?_ ?_
      rotate_left
      ·show Act.put _ (some 4) _ = _
       simp only [Act.put,List.setIfInBounds_toArray,List.set_cons_zero,List.set_cons_succ,i64_w,i32_w]
       rfl
      refine pZ_ 2 (some 5) #[true,true,true,false,false,false,false,false,false,false,false,false,false,false,false,false,false,false,false,false,false,false,false,false] ?_
      refine tZ2_ 3 (some 6) #[true,true,true,true,false,false,false,false,false,false,false,false,false,false,false,false,false,false,false,false,false,false,false,false] hHeld ?_
      refine one_ (i := 4) (N := some 7) #[true,true,true,true,true,false,false,false,false,false,false,false,false,false,false,false,false,false,false,false,false,false,false,false] rfl rfl (one_of HT_.out T12_) T35_ (fun K hK => ?_)
      refine gZ_ Try.func43 #[.agg #[.int .i64 a0_0,.int .i64 a0_1]] ?_
      with_reducible refine (spec_l15Monotone.calls k a0_0 a0_1 true _ A4.out).mono ?_
      rintro e w15 ⟨rfl,hb⟩
      refine ⟨_,rfl,?_⟩
      have n0_ := aZ_ (blk_below (g := gb101) (o := .cells #[.int .i64 a0_0,.int .i64 a0_1] 25 (0,0)) T2_ hb)
      have n1_ := aZ_ (below_step T1_ hb)
      clear BK101
      clear HB
      have BK101 := n0_
      have HB := n1_
      clear n0_ n1_
      (try clear hb)
      (try clear hb2)
      (try clear hk)
      (try clear hi)
      refine hK.out _ _ ⟨(blk_cell BK101.out 0).trans rfl,(blk_cell BK101.out 1).trans rfl⟩ (fun hHeld => ?_)
      clear hK K
      refine norm_ (a' := ?_) ?_ ?_
      rotate_left
      ·show Act.put _ (some 7) _ = _
       simp only [Act.put,List.setIfInBounds_toArray,List.set_cons_zero,List.set_cons_succ,i64_w,i32_w]
       rfl
      refine pZ_ 5 (some 8) #[true,true,true,true,true,true,false,false,false,false,false,false,false,false,false,false,false,false,false,false,false,false,false,false] ?_
      refine pZ_ 6 (some 9) #[true,true,true,true,true,true,true,false,false,false,false,false,false,false,false,false,false,false,false,false,false,false,false,false] ?_
      refine pZ_ 7 (some 10) #[true,true,true,true,true,true,true,true,false,false,false,false,false,false,false,false,false,false,false,false,false,false,false,false] ?_
      refine tZ2_ 8 (some 11) #[true,true,true,true,true,true,true,true,true,false,false,false,false,false,false,false,false,false,false,false,false,false,false,false] hHeld ?_
      refine pZ_ 9 (some 12) #[true,true,true,true,true,true,true,true,true,true,false,false,false,false,false,false,false,false,false,false,false,false,false,false] ?_
      refine pZ_ 10 (some 13) #[true,true,true,true,true,true,true,true,true,true,true,false,false,false,false,false,false,false,false,false,false,false,false,false] ?_
      refine pZ_ 11 (some 14) #[true,true,true,true,true,true,true,true,true,true,true,true,false,false,false,false,false,false,false,false,false,false,false,false] ?_
      refine pZ_ 12 (some 15) #[true,true,true,true,true,true,true,true,true,true,true,true,true,false,false,false,false,false,false,false,false,false,false,false] ?_
      refine pZ_ 13 (some 16) #[true,true,true,true,true,true,true,true,true,true,true,true,true,true,false,false,false,false,false,false,false,false,false,false] ?_
      refine pZ_ 15 (some 18) #[true,true,true,true,true,true,true,true,true,true,true,true,true,true,false,true,false,false,false,false,false,false,false,false] ?_
      refine tZ2_ 14 (some 17) #[true,true,true,true,true,true,true,true,true,true,true,true,true,true,true,true,false,false,false,false,false,false,false,false] hHeld ?_
      refine tZ2_ 16 (some 19) #[true,true,true,true,true,true,true,true,true,true,true,true,true,true,true,true,true,false,false,false,false,false,false,false] hHeld ?_
      refine pZ_ 17 (some 20) #[true,true,true,true,true,true,true,true,true,true,true,true,true,true,true,true,true,true,false,false,false,false,false,false] ?_
      refine pZ_ 18 (some 21) #[true,true,true,true,true,true,true,true,true,true,true,true,true,true,true,true,true,true,true,false,false,false,false,false] ?_
      refine pZ_ 19 (some 22) #[true,true,true,true,true,true,true,true,true,true,true,true,true,true,true,true,true,true,true,true,false,false,false,false] ?_
      refine pZ_ 20 (some 23) #[true,true,true,true,true,true,true,true,true,true,true,true,true,true,true,true,true,true,true,true,true,false,false,false] ?_
      refine pZ_ 21 (some 24) #[true,true,true,true,true,true,true,true,true,true,true,true,true,true,true,true,true,true,true,true,true,true,false,false] ?_
      refine pZ_ 22 (some 25) #[true,true,true,true,true,true,true,true,true,true,true,true,true,true,true,true,true,true,true,true,true,true,true,false] ?_
      refine pZ_ 23 (some 2) #[true,true,true,true,true,true,true,true,true,true,true,true,true,true,true,true,true,true,true,true,true,true,true,true] ?_
      refine done_ (done_of HT_.out T12_) ?_
      try go_wp2
      go_ret
      exact ⟨by first | rfl | (simp [errW_none,errW_some] <;> rfl) | (simp only [← hji8,← hji9,← hji11];first | rfl | (simp [errW_none,errW_some] <;> rfl)) | (simp [*,errW_none,errW_some] <;> rfl),by repeat (first | (with_reducible first | exact HB.out | apply below_alloc | apply pw_below_drewN | apply below_drew1 | refine below_set ?_ GE101.out) | exact HB.out)⟩
     ·rw [if_neg c10] at H
      exact absurd H T40_
    ·rw [if_neg c7] at H
     exact absurd H T40_
   ·rw [if_neg c6] at H
    have c6b0 : ((Go.bits .and .i64 a0_1 1) == 0) = false := beq_eq_false_iff_ne.mpr c6
    have c6b1 : ((Go.bits .and .i64 a0_1 1) != 0) = true := bne_iff_ne.mpr c6
    obtain rfl := Option.some.inj H
    go_enter Try.func16,Try.ntmps16
    try go_wp2_with (first | ((with_reducible refine gate_dst (N := 1) rfl ?_);refine box_event ?hg (N := 1) ?hd (cs := #[.int .i64 a0_0,.int .i64 a0_1]) (t := 25) ?hr ?_;(case hd => rfl);(case hg => rfl);(case hr => first | (go_simp;done) | (go_simp;rfl));intro gb101 hg w16 hbox hb;have n0_ := aZ_ (below_step T5_ hb);have n1_ := aZ_ (hbox);have n2_ := aZ_ ((T3_ : w.heap.size ≤ gb101));have n3_ := aZ_ ((T3_ : w.heap.size ≤ gb101));clear HB;have HB := n0_;have BK101 := n1_;have GW101 := n2_;have GE101 := n3_;clear n0_ n1_ n2_ n3_;clear hb hbox hg))
    have n0_ := aZ_ (blk_drew BK101.out)
    have n1_ := aZ_ (below_drew1 HB.out)
    clear BK101
    clear HB
    have BK101 := n0_
    have HB := n1_
    clear n0_ n1_
    refine start_ (n := 24) (S := fun w' => w'.cell? ⟨gb101,0,none⟩ = some (.int .i64 a0_0) ∧ w'.cell? ⟨gb101,1,none⟩ = some (.int .i64 a0_1)) (ds := []) #[false,false,false,false,false,false,false,false,false,false,false,false,false,false,false,false,false,false,false,false,false,false,false,false] T12_ rfl rfl ⟨(blk_cell BK101.out 0).trans rfl,(blk_cell BK101.out 1).trans rfl⟩ (fun hHeld => ?_);refine with_tabW spec_IsSimpleGame.tab1 spec_IsSimpleGame.bits1 (fun HT_ HW_ => ?_)
    generalize w16.drew = w17 at BK101 HB hHeld ⊢
    refine tZ2_ 0 (some 3) #[true,false,false,false,false,false,false,false,false,false,false,false,false,false,false,false,false,false,false,false,false,false,false,false] hHeld ?_
    refine one_ (i := 1) (N := some 4) #[true,true,false,false,false,false,false,false,false,false,false,false,false,false,false,false,false,false,false,false,false,false,false,false] rfl rfl (one_of HT_.out T12_) T35_ (fun K hK => ?_)
    refine gZ_ Try.func42 #[.agg #[.int .i64 a0_0,.int .i64 a0_1]] ?_
    with_reducible refine (spec_IsTable.calls a0_0 a0_1 true _ A2.out).mono ?_
    rintro e w18 ⟨rfl,hb⟩
    refine ⟨_,rfl,?_⟩
    have n0_ := aZ_ (blk_below (g := gb101) (o := .cells #[.int .i64 a0_0,.int .i64 a0_1] 25 (0,0)) T2_ hb)
    have n1_ := aZ_ (below_step T1_ hb)
    clear BK101
    clear HB
    have BK101 := n0_
    have HB := n1_
    clear n0_ n1_
    (try clear hb)
    (try clear hb2)
    (try clear hk)
    (try clear hi)
    refine hK.out _ _ ⟨(blk_cell BK101.out 0).trans rfl,(blk_cell BK101.out 1).trans rfl⟩ (fun hHeld => ?_)
    clear hK K
    refine norm_ (a' := ?_) ?_ ?_
    rotate_left
    ·show Act.put _ (some 4) _ = _
     simp only [Act.put,List.setIfInBounds_toArray,List.set_cons_zero,List.set_cons_succ,i64_w,i32_w]
     rfl
    refine pZ_ 2 (some 5) #[true,true,true,false,false,false,false,false,false,false,false,false,false,false,false,false,false,false,false,false,false,false,false,false] ?_
    refine tZ2_ 3 (some 6) #[true,true,true,true,false,false,false,false,false,false,false,false,false,false,false,false,false,false,false,false,false,false,false,false] hHeld ?_
    refine one_ (i := 4) (N := some 7) #[true,true,true,true,true,false,false,false,false,false,false,false,false,false,false,false,false,false,false,false,false,false,false,false] rfl rfl (one_of HT_.out T12_) T35_ (fun K hK => ?_)
    refine gZ_ Try.func43 #[.agg #[.int .i64 a0_0,.int .i64 a0_1]] ?_
    with_reducible refine (spec_l15Monotone.calls k a0_0 a0_1 true _ A4.out).mono ?_
    rintro e w19 ⟨rfl,hb⟩
    refine ⟨_,rfl,?_⟩
    have n0_ := aZ_ (blk_below (g := gb101) (o := .cells #[.int .i64 a0_0,.int .i64 a0_1] 25 (0,0)) T2_ hb)
    have n1_ := aZ_ (below_step T1_ hb)
    clear BK101
    clear HB
    have BK101 := n0_
    have HB := n1_
    clear n0_ n1_
    (try clear hb)
    (try clear hb2)
    (try clear hk)
    (try clear hi)
    refine hK.out _ _ ⟨(blk_cell BK101.out 0).trans rfl,(blk_cell BK101.out 1).trans rfl⟩ (fun hHeld => ?_)
    clear hK K
    refine norm_ (a' := ?_) ?_ ?_
    rotate_left
    ·show Act.put _ (some 7) _ = _
     simp only [Act.put,List.setIfInBounds_toArray,List.set_cons_zero,List.set_cons_succ,i64_w,i32_w]
     rfl
    refine pZ_ 5 (some 8) #[true,true,true,true,true,true,false,false,false,false,false,false,false,false,false,false,false,false,false,false,false,false,false,false] ?_
    refine pZ_ 6 (some 9) #[true,true,true,true,true,true,true,false,false,false,false,false,false,false,false,false,false,false,false,false,false,false,false,false] ?_
    refine pZ_ 7 (some 10) #[true,true,true,true,true,true,true,true,false,false,false,false,false,false,false,false,false,false,false,false,false,false,false,false] ?_
    refine tZ2_ 8 (some 11) #[true,true,true,true,true,true,true,true,true,false,false,false,false,false,false,false,false,false,false,false,false,false,false,false] hHeld ?_
    refine pZ_ 9 (some 12) #[true,true,true,true,true,true,true,true,true,true,false,false,false,false,false,false,false,false,false,false,false,false,false,false] ?_
    refine pZ_ 10 (some 13) #[true,true,true,true,true,true,true,true,true,true,true,false,false,false,false,false,false,false,false,false,false,false,false,false] ?_
    refine pZ_ 11 (some 14) #[true,true,true,true,true,true,true,true,true,true,true,true,false,false,false,false,false,false,false,false,false,false,false,false] ?_
    refine pZ_ 12 (some 15) #[true,true,true,true,true,true,true,true,true,true,true,true,true,false,false,false,false,false,false,false,false,false,false,false] ?_
    refine oZ_ 13 (some 16) #[true,true,true,true,true,true,true,true,true,true,true,true,true,true,false,false,false,false,false,false,false,false,false,false] ?_
    refine oZ_ 14 (some 17) #[true,true,true,true,true,true,true,true,true,true,true,true,true,true,true,false,false,false,false,false,false,false,false,false] ?_
    refine oZ_ 15 (some 18) #[true,true,true,true,true,true,true,true,true,true,true,true,true,true,true,true,false,false,false,false,false,false,false,false] ?_
    refine oZ_ 16 (some 19) #[true,true,true,true,true,true,true,true,true,true,true,true,true,true,true,true,true,false,false,false,false,false,false,false] ?_
    refine oZ_ 17 (some 20) #[true,true,true,true,true,true,true,true,true,true,true,true,true,true,true,true,true,true,false,false,false,false,false,false] ?_
    refine oZ_ 18 (some 21) #[true,true,true,true,true,true,true,true,true,true,true,true,true,true,true,true,true,true,true,false,false,false,false,false] ?_
    refine oZ_ 19 (some 22) #[true,true,true,true,true,true,true,true,true,true,true,true,true,true,true,true,true,true,true,true,false,false,false,false] ?_
    refine oZ_ 20 (some 23) #[true,true,true,true,true,true,true,true,true,true,true,true,true,true,true,true,true,true,true,true,true,false,false,false] ?_
    refine oZ_ 21 (some 24) #[true,true,true,true,true,true,true,true,true,true,true,true,true,true,true,true,true,true,true,true,true,true,false,false] ?_
    refine pZ_ 22 (some 25) #[true,true,true,true,true,true,true,true,true,true,true,true,true,true,true,true,true,true,true,true,true,true,true,false] ?_
    refine pZ_ 23 (some 2) #[true,true,true,true,true,true,true,true,true,true,true,true,true,true,true,true,true,true,true,true,true,true,true,true] ?_
    refine done_ (done_of HT_.out T12_) ?_
    try go_wp2
    go_ret
    exact ⟨by first | rfl | (simp [errW_none,errW_some] <;> rfl) | (simp [*,errW_none,errW_some] <;> rfl),by repeat (first | (with_reducible first | exact HB.out | apply below_alloc | apply pw_below_drewN | apply below_drew1 | refine below_set ?_ GE101.out) | exact HB.out)⟩
  ·replace c5 := Bool.eq_false_iff.mpr c5
   subst c5
   have H1 : (some false) = some r := by rw [if_neg (show ¬ (false = true) by decide)] at H;exact H
   clear H
   have H := H1
   clear H1
   obtain rfl := Option.some.inj H
   go_enter Try.func16,Try.ntmps16
   try go_wp2_with (first | ((with_reducible refine gate_dst (N := 1) rfl ?_);refine box_event ?hg (N := 1) ?hd (cs := #[.int .i64 a0_0,.int .i64 a0_1]) (t := 25) ?hr ?_;(case hd => rfl);(case hg => rfl);(case hr => first | (go_simp;done) | (go_simp;rfl));intro gb101 hg w20 hbox hb;have n0_ := aZ_ (below_step T5_ hb);have n1_ := aZ_ (hbox);have n2_ := aZ_ ((T3_ : w.heap.size ≤ gb101));have n3_ := aZ_ ((T3_ : w.heap.size ≤ gb101));clear HB;have HB := n0_;have BK101 := n1_;have GW101 := n2_;have GE101 := n3_;clear n0_ n1_ n2_ n3_;clear hb hbox hg))
   have n0_ := aZ_ (blk_drew BK101.out)
   have n1_ := aZ_ (below_drew1 HB.out)
   clear BK101
   clear HB
   have BK101 := n0_
   have HB := n1_
   clear n0_ n1_
   refine start_ (n := 24) (S := fun w' => w'.cell? ⟨gb101,0,none⟩ = some (.int .i64 a0_0) ∧ w'.cell? ⟨gb101,1,none⟩ = some (.int .i64 a0_1)) (ds := []) #[false,false,false,false,false,false,false,false,false,false,false,false,false,false,false,false,false,false,false,false,false,false,false,false] T12_ rfl rfl ⟨(blk_cell BK101.out 0).trans rfl,(blk_cell BK101.out 1).trans rfl⟩ (fun hHeld => ?_);refine with_tabW spec_IsSimpleGame.tab1 spec_IsSimpleGame.bits1 (fun HT_ HW_ => ?_)
   generalize w20.drew = w21 at BK101 HB hHeld ⊢
   refine tZ2_ 0 (some 3) #[true,false,false,false,false,false,false,false,false,false,false,false,false,false,false,false,false,false,false,false,false,false,false,false] hHeld ?_
   refine one_ (i := 1) (N := some 4) #[true,true,false,false,false,false,false,false,false,false,false,false,false,false,false,false,false,false,false,false,false,false,false,false] rfl rfl (one_of HT_.out T12_) T35_ (fun K hK => ?_)
   refine gZ_ Try.func42 #[.agg #[.int .i64 a0_0,.int .i64 a0_1]] ?_
   with_reducible refine (spec_IsTable.calls a0_0 a0_1 true _ A2.out).mono ?_
   rintro e w22 ⟨rfl,hb⟩
   refine ⟨_,rfl,?_⟩
   have n0_ := aZ_ (blk_below (g := gb101) (o := .cells #[.int .i64 a0_0,.int .i64 a0_1] 25 (0,0)) T2_ hb)
   have n1_ := aZ_ (below_step T1_ hb)
   clear BK101
   clear HB
   have BK101 := n0_
   have HB := n1_
   clear n0_ n1_
   (try clear hb)
   (try clear hb2)
   (try clear hk)
   (try clear hi)
   refine hK.out _ _ ⟨(blk_cell BK101.out 0).trans rfl,(blk_cell BK101.out 1).trans rfl⟩ (fun hHeld => ?_)
   clear hK K
   refine norm_ (a' := ?_) ?_ ?_
   rotate_left
   ·show Act.put _ (some 4) _ = _
    simp only [Act.put,List.setIfInBounds_toArray,List.set_cons_zero,List.set_cons_succ,i64_w,i32_w]
    rfl
   refine pZ_ 2 (some 5) #[true,true,true,false,false,false,false,false,false,false,false,false,false,false,false,false,false,false,false,false,false,false,false,false] ?_
   refine tZ2_ 3 (some 6) #[true,true,true,true,false,false,false,false,false,false,false,false,false,false,false,false,false,false,false,false,false,false,false,false] hHeld ?_
   refine one_ (i := 4) (N := some 7) #[true,true,true,true,true,false,false,false,false,false,false,false,false,false,false,false,false,false,false,false,false,false,false,false] rfl rfl (one_of HT_.out T12_) T35_ (fun K hK => ?_)
   refine gZ_ Try.func43 #[.agg #[.int .i64 a0_0,.int .i64 a0_1]] ?_
   with_reducible refine (spec_l15Monotone.calls k a0_0 a0_1 false _ A4.out).mono ?_
   rintro e w23 ⟨rfl,hb⟩
   refine ⟨_,rfl,?_⟩
   have n0_ := aZ_ (blk_below (g := gb101) (o := .cells #[.int .i64 a0_0,.int .i64 a0_1] 25 (0,0)) T2_ hb)
   have n1_ := aZ_ (below_step T1_ hb)
   clear BK101
   clear HB
   have BK101 := n0_
   have HB := n1_
   clear n0_ n1_
   (try clear hb)
   (try clear hb2)
   (try clear hk)
   (try clear hi)
   refine hK.out _ _ ⟨(blk_cell BK101.out 0).trans rfl,(blk_cell BK101.out 1).trans rfl⟩ (fun hHeld => ?_)
   clear hK K
   refine norm_ (a' := ?_) ?_ ?_
   rotate_left
   ·show Act.put _ (some 7) _ = _
    simp only [Act.put,List.setIfInBounds_toArray,List.set_cons_zero,List.set_cons_succ,i64_w,i32_w]
    rfl
   refine pZ_ 5 (some 8) #[true,true,true,true,true,true,false,false,false,false,false,false,false,false,false,false,false,false,false,false,false,false,false,false] ?_
   refine pZ_ 6 (some 9) #[true,true,true,true,true,true,true,false,false,false,false,false,false,false,false,false,false,false,false,false,false,false,false,false] ?_
   refine oZ_ 7 (some 10) #[true,true,true,true,true,true,true,true,false,false,false,false,false,false,false,false,false,false,false,false,false,false,false,false] ?_
   refine oZ_ 8 (some 11) #[true,true,true,true,true,true,true,true,true,false,false,false,false,false,false,false,false,false,false,false,false,false,false,false] ?_
   refine oZ_ 9 (some 12) #[true,true,true,true,true,true,true,true,true,true,false,false,false,false,false,false,false,false,false,false,false,false,false,false] ?_
   refine oZ_ 10 (some 13) #[true,true,true,true,true,true,true,true,true,true,true,false,false,false,false,false,false,false,false,false,false,false,false,false] ?_
   refine pZ_ 11 (some 14) #[true,true,true,true,true,true,true,true,true,true,true,true,false,false,false,false,false,false,false,false,false,false,false,false] ?_
   refine pZ_ 12 (some 15) #[true,true,true,true,true,true,true,true,true,true,true,true,true,false,false,false,false,false,false,false,false,false,false,false] ?_
   refine oZ_ 13 (some 16) #[true,true,true,true,true,true,true,true,true,true,true,true,true,true,false,false,false,false,false,false,false,false,false,false] ?_
   refine oZ_ 14 (some 17) #[true,true,true,true,true,true,true,true,true,true,true,true,true,true,true,false,false,false,false,false,false,false,false,false] ?_
   refine oZ_ 15 (some 18) #[true,true,true,true,true,true,true,true,true,true,true,true,true,true,true,true,false,false,false,false,false,false,false,false] ?_
   refine oZ_ 16 (some 19) #[true,true,true,true,true,true,true,true,true,true,true,true,true,true,true,true,true,false,false,false,false,false,false,false] ?_
   refine oZ_ 17 (some 20) #[true,true,true,true,true,true,true,true,true,true,true,true,true,true,true,true,true,true,false,false,false,false,false,false] ?_
   refine oZ_ 18 (some 21) #[true,true,true,true,true,true,true,true,true,true,true,true,true,true,true,true,true,true,true,false,false,false,false,false] ?_
   refine oZ_ 19 (some 22) #[true,true,true,true,true,true,true,true,true,true,true,true,true,true,true,true,true,true,true,true,false,false,false,false] ?_
   refine oZ_ 20 (some 23) #[true,true,true,true,true,true,true,true,true,true,true,true,true,true,true,true,true,true,true,true,true,false,false,false] ?_
   refine oZ_ 21 (some 24) #[true,true,true,true,true,true,true,true,true,true,true,true,true,true,true,true,true,true,true,true,true,true,false,false] ?_
   refine pZ_ 22 (some 25) #[true,true,true,true,true,true,true,true,true,true,true,true,true,true,true,true,true,true,true,true,true,true,true,false] ?_
   refine pZ_ 23 (some 2) #[true,true,true,true,true,true,true,true,true,true,true,true,true,true,true,true,true,true,true,true,true,true,true,true] ?_
   refine done_ (done_of HT_.out T12_) ?_
   try go_wp2
   go_ret
   exact ⟨by first | rfl | (simp [errW_none,errW_some] <;> rfl) | (simp [*,errW_none,errW_some] <;> rfl),by repeat (first | (with_reducible first | exact HB.out | apply below_alloc | apply pw_below_drewN | apply below_drew1 | refine below_set ?_ GE101.out) | exact HB.out)⟩
 ·replace c3 := Bool.eq_false_iff.mpr c3
  subst c3
  have H1 : (some false) = some r := by rw [if_neg (show ¬ (false = true) by decide)] at H;exact H
  clear H
  have H := H1
  clear H1
  obtain rfl := Option.some.inj H
  go_enter Try.func16,Try.ntmps16
  try go_wp2_with (first | ((with_reducible refine gate_dst (N := 1) rfl ?_);refine box_event ?hg (N := 1) ?hd (cs := #[.int .i64 a0_0,.int .i64 a0_1]) (t := 25) ?hr ?_;(case hd => rfl);(case hg => rfl);(case hr => first | (go_simp;done) | (go_simp;rfl));intro gb101 hg w24 hbox hb;have n0_ := aZ_ (below_step T5_ hb);have n1_ := aZ_ (hbox);have n2_ := aZ_ ((T3_ : w.heap.size ≤ gb101));have n3_ := aZ_ ((T3_ : w.heap.size ≤ gb101));clear HB;have HB := n0_;have BK101 := n1_;have GW101 := n2_;have GE101 := n3_;clear n0_ n1_ n2_ n3_;clear hb hbox hg))
  have n0_ := aZ_ (blk_drew BK101.out)
  have n1_ := aZ_ (below_drew1 HB.out)
  clear BK101
  clear HB
  have BK101 := n0_
  have HB := n1_
  clear n0_ n1_
  refine start_ (n := 24) (S := fun w' => w'.cell? ⟨gb101,0,none⟩ = some (.int .i64 a0_0) ∧ w'.cell? ⟨gb101,1,none⟩ = some (.int .i64 a0_1)) (ds := []) #[false,false,false,false,false,false,false,false,false,false,false,false,false,false,false,false,false,false,false,false,false,false,false,false] T12_ rfl rfl ⟨(blk_cell BK101.out 0).trans rfl,(blk_cell BK101.out 1).trans rfl⟩ (fun hHeld => ?_);refine with_tabW spec_IsSimpleGame.tab1 spec_IsSimpleGame.bits1 (fun HT_ HW_ => ?_)
  generalize w24.drew = w25 at BK101 HB hHeld ⊢
  refine tZ2_ 0 (some 3) #[true,false,false,false,false,false,false,false,false,false,false,false,false,false,false,false,false,false,false,false,false,false,false,false] hHeld ?_
  refine one_ (i := 1) (N := some 4) #[true,true,false,false,false,false,false,false,false,false,false,false,false,false,false,false,false,false,false,false,false,false,false,false] rfl rfl (one_of HT_.out T12_) T35_ (fun K hK => ?_)
  refine gZ_ Try.func42 #[.agg #[.int .i64 a0_0,.int .i64 a0_1]] ?_
  with_reducible refine (spec_IsTable.calls a0_0 a0_1 false _ A2.out).mono ?_
  rintro e w26 ⟨rfl,hb⟩
  refine ⟨_,rfl,?_⟩
  have n0_ := aZ_ (blk_below (g := gb101) (o := .cells #[.int .i64 a0_0,.int .i64 a0_1] 25 (0,0)) T2_ hb)
  have n1_ := aZ_ (below_step T1_ hb)
  clear BK101
  clear HB
  have BK101 := n0_
  have HB := n1_
  clear n0_ n1_
  (try clear hb)
  (try clear hb2)
  (try clear hk)
  (try clear hi)
  refine hK.out _ _ ⟨(blk_cell BK101.out 0).trans rfl,(blk_cell BK101.out 1).trans rfl⟩ (fun hHeld => ?_)
  clear hK K
  refine norm_ (a' := ?_) ?_ ?_
  rotate_left
  ·show Act.put _ (some 4) _ = _
   simp only [Act.put,List.setIfInBounds_toArray,List.set_cons_zero,List.set_cons_succ,i64_w,i32_w]
   rfl
  refine pZ_ 2 (some 5) #[true,true,true,false,false,false,false,false,false,false,false,false,false,false,false,false,false,false,false,false,false,false,false,false] ?_
  refine oZ_ 3 (some 6) #[true,true,true,true,false,false,false,false,false,false,false,false,false,false,false,false,false,false,false,false,false,false,false,false] ?_
  refine oZ_ 4 (some 7) #[true,true,true,true,true,false,false,false,false,false,false,false,false,false,false,false,false,false,false,false,false,false,false,false] ?_
  refine pZ_ 5 (some 8) #[true,true,true,true,true,true,false,false,false,false,false,false,false,false,false,false,false,false,false,false,false,false,false,false] ?_
  refine pZ_ 6 (some 9) #[true,true,true,true,true,true,true,false,false,false,false,false,false,false,false,false,false,false,false,false,false,false,false,false] ?_
  refine oZ_ 7 (some 10) #[true,true,true,true,true,true,true,true,false,false,false,false,false,false,false,false,false,false,false,false,false,false,false,false] ?_
  refine oZ_ 8 (some 11) #[true,true,true,true,true,true,true,true,true,false,false,false,false,false,false,false,false,false,false,false,false,false,false,false] ?_
  refine oZ_ 9 (some 12) #[true,true,true,true,true,true,true,true,true,true,false,false,false,false,false,false,false,false,false,false,false,false,false,false] ?_
  refine oZ_ 10 (some 13) #[true,true,true,true,true,true,true,true,true,true,true,false,false,false,false,false,false,false,false,false,false,false,false,false] ?_
  refine pZ_ 11 (some 14) #[true,true,true,true,true,true,true,true,true,true,true,true,false,false,false,false,false,false,false,false,false,false,false,false] ?_
  refine pZ_ 12 (some 15) #[true,true,true,true,true,true,true,true,true,true,true,true,true,false,false,false,false,false,false,false,false,false,false,false] ?_
  refine oZ_ 13 (some 16) #[true,true,true,true,true,true,true,true,true,true,true,true,true,true,false,false,false,false,false,false,false,false,false,false] ?_
  refine oZ_ 14 (some 17) #[true,true,true,true,true,true,true,true,true,true,true,true,true,true,true,false,false,false,false,false,false,false,false,false] ?_
  refine oZ_ 15 (some 18) #[true,true,true,true,true,true,true,true,true,true,true,true,true,true,true,true,false,false,false,false,false,false,false,false] ?_
  refine oZ_ 16 (some 19) #[true,true,true,true,true,true,true,true,true,true,true,true,true,true,true,true,true,false,false,false,false,false,false,false] ?_
  refine oZ_ 17 (some 20) #[true,true,true,true,true,true,true,true,true,true,true,true,true,true,true,true,true,true,false,false,false,false,false,false] ?_
  refine oZ_ 18 (some 21) #[true,true,true,true,true,true,true,true,true,true,true,true,true,true,true,true,true,true,true,false,false,false,false,false] ?_
  refine oZ_ 19 (some 22) #[true,true,true,true,true,true,true,true,true,true,true,true,true,true,true,true,true,true,true,true,false,false,false,false] ?_
  refine oZ_ 20 (some 23) #[true,true,true,true,true,true,true,true,true,true,true,true,true,true,true,true,true,true,true,true,true,false,false,false] ?_
  refine oZ_ 21 (some 24) #[true,true,true,true,true,true,true,true,true,true,true,true,true,true,true,true,true,true,true,true,true,true,false,false] ?_
  refine pZ_ 22 (some 25) #[true,true,true,true,true,true,true,true,true,true,true,true,true,true,true,true,true,true,true,true,true,true,true,false] ?_
  refine pZ_ 23 (some 2) #[true,true,true,true,true,true,true,true,true,true,true,true,true,true,true,true,true,true,true,true,true,true,true,true] ?_
  refine done_ (done_of HT_.out T12_) ?_
  try go_wp2
  go_ret
  exact ⟨by first | rfl | (simp [errW_none,errW_some] <;> rfl) | (simp [*,errW_none,errW_some] <;> rfl),by repeat (first | (with_reducible first | exact HB.out | apply below_alloc | apply pw_below_drewN | apply below_drew1 | refine below_set ?_ GE101.out) | exact HB.out)⟩
end Go.Proofs.Ytmmdcbdchifniaa.F
namespace Go.Proofs.Ytmmdcbdchifniaa.F
open Go.RowKit Go.Proofs.YtmmdcbdchifniaaW.PrintWords Go.Proofs.YtmmdcbdchifniaaW.PrintLast Go.Proofs.YtmmdcbdchifniaaW.PrintMore
attribute [local go_sem] max2_int min2_int max_two min_two max_three min_three max_four min_four 
set_option linter.unusedVariables false
set_option linter.unusedSimpArgs false
def spec_l3Depends.f (k : Nat) (a0_0 : Int) (a0_1 : Int) (a1 : Int) : Option (Bool) := (spec_l3Restrict.f k a0_0 a0_1 a1 0).bind fun bt102 => ((spec_l3Restrict.f k a0_0 a0_1 a1 1).bind fun bt104 => (some (bt102.2 != bt104.2)))
def spec_l3Depends.T1 : Bool × List (List Nat × List Nat) := (true,[([],[]),([],[]),([0,1],[0,1]),([2],[2]),([],[]),([],[]),([4,5,2],[4,5]),([6],[6]),([3,7],[3,7]),([8,6,0,1,2,3,4,5,6,7,8],[8])])
def spec_l3Depends.B1 : List Nat := [0,0,3,7,0,0,55,119,255,511]
theorem spec_l3Depends.tab1 : rtab .any (opsOf Try.f41 1) = spec_l3Depends.T1 := by kernel_rfl
theorem spec_l3Depends.bits1 : waitsOk spec_l3Depends.T1.2 spec_l3Depends.B1 = true := by kernel_rfl
set_option maxHeartbeats 8000000 in
set_option maxRecDepth 100000 in
theorem spec_l3Depends.calls (k : Nat) (a0_0 : Int) (a0_1 : Int) (a1 : Int) (r : Bool) (w : World) (h : spec_l3Depends.f k a0_0 a0_1 a1 = some r) :
  Calls Try.prog 41 #[.agg #[.int .i64 a0_0,.int .i64 a0_1],.int .i64 a1] w fun e w' => e = .returned (.bool r) ∧ Below w.heap.size w w' := by
 have hu25 := Try.underlying25
 have hfd25_1 : ∀ (x0_ x1_ : Int) (W : World),(Instr.field 25 (.agg #[.int .i64 x0_,.int .i64 x1_]) 1).run Try.prog W = .ok (.int .i64 x1_) W := fun _ _ _ => by kernel_rfl
 have HB := aZ_ (Below.refl w.heap.size w)
 have H : ((spec_l3Restrict.f k a0_0 a0_1 a1 0).bind fun bt102 => ((spec_l3Restrict.f k a0_0 a0_1 a1 1).bind fun bt104 => (some (bt102.2 != bt104.2)))) = some r := h
 clear h
 replace H := Option.bind_eq_some_iff.mp H
 obtain ⟨⟨t102,t103⟩,A30,H⟩ := H
 replace H : ((spec_l3Restrict.f k a0_0 a0_1 a1 1).bind fun bt104 => (some (t103 != bt104.2))) = some r := H
 have A3 := aZ_ A30
 clear A30
 replace H := Option.bind_eq_some_iff.mp H
 obtain ⟨⟨t104,t105⟩,A40,H⟩ := H
 replace H : (some (t103 != t105)) = some r := H
 have A4 := aZ_ A40
 clear A40
 obtain rfl := Option.some.inj H
 go_enter Try.func41,Try.ntmps41
 try go_wp2_with (first | ((with_reducible refine gate_dst (N := 2) rfl ?_);refine box_event ?hg (N := 2) ?hd (cs := #[.int .i64 a0_0,.int .i64 a0_1]) (t := 25) ?hr ?_;(case hd => rfl);(case hg => rfl);(case hr => first | (go_simp;done) | (go_simp;rfl));intro gb101 hg w5 hbox hb;have n0_ := aZ_ (below_step T5_ hb);have n1_ := aZ_ (hbox);have n2_ := aZ_ ((T3_ : w.heap.size ≤ gb101));have n3_ := aZ_ ((T3_ : w.heap.size ≤ gb101));clear HB;have HB := n0_;have BK101 := n1_;have GW101 := n2_;have GE101 := n3_;clear n0_ n1_ n2_ n3_;clear hb hbox hg))
 have n0_ := aZ_ (blk_drew BK101.out)
 have n1_ := aZ_ (below_drew1 HB.out)
 clear BK101
 clear HB
 have BK101 := n0_
 have HB := n1_
 clear n0_ n1_
 refine start_ (n := 10) (S := fun w' => w'.cell? ⟨gb101,0,none⟩ = some (.int .i64 a0_0) ∧ w'.cell? ⟨gb101,1,none⟩ = some (.int .i64 a0_1)) (ds := []) #[false,false,false,false,false,false,false,false,false,false] T12_ rfl rfl ⟨(blk_cell BK101.out 0).trans rfl,(blk_cell BK101.out 1).trans rfl⟩ (fun hHeld => ?_);refine with_tabW spec_l3Depends.tab1 spec_l3Depends.bits1 (fun HT_ HW_ => ?_)
 generalize w5.drew = w6 at BK101 HB hHeld ⊢
 refine pZ_ 1 (some 6) #[false,true,false,false,false,false,false,false,false,false] ?_
 refine pZ_ 5 (some 10) #[false,true,false,false,false,true,false,false,false,false] ?_
 refine tZ2_ 0 (some 5) #[true,true,false,false,false,true,false,false,false,false] hHeld ?_
 refine tZ2_ 4 (some 9) #[true,true,false,false,true,true,false,false,false,false] hHeld ?_
 refine one_ (i := 2) (N := some 7) #[true,true,true,false,true,true,false,false,false,false] rfl rfl (one_of HT_.out T12_) T35_ (fun K hK => ?_)
 refine gZ_ Try.func60 #[.agg #[.int .i64 a0_0,.int .i64 a0_1],.int .i64 a1,.int .i64 0] ?_
 with_reducible refine (spec_l3Restrict.calls k a0_0 a0_1 a1 0 t102 t103 _ A3.out).mono ?_
 rintro e w7 ⟨rfl,hb⟩
 refine ⟨_,rfl,?_⟩
 have n0_ := aZ_ (blk_below (g := gb101) (o := .cells #[.int .i64 a0_0,.int .i64 a0_1] 25 (0,0)) T2_ hb)
 have n1_ := aZ_ (below_step T1_ hb)
 clear BK101
 clear HB
 have BK101 := n0_
 have HB := n1_
 clear n0_ n1_
 (try clear hb)
 (try clear hb2)
 (try clear hk)
 (try clear hi)
 refine hK.out _ _ ⟨(blk_cell BK101.out 0).trans rfl,(blk_cell BK101.out 1).trans rfl⟩ (fun hHeld => ?_)
 clear hK K
 refine norm_ (a' := ?_) ?_ ?_
 rotate_left
 ·show Act.put _ (some 7) _ = _
  simp only [Act.put,List.setIfInBounds_toArray,List.set_cons_zero,List.set_cons_succ,i64_w,i32_w]
  rfl
 refine pZ_ 3 (some 8) #[true,true,true,true,true,true,false,false,false,false] ?_
 refine one_ (i := 6) (N := some 11) #[true,true,true,true,true,true,true,false,false,false] rfl rfl (one_of HT_.out T12_) T35_ (fun K hK => ?_)
 refine gZ_ Try.func60 #[.agg #[.int .i64 a0_0,.int .i64 a0_1],.int .i64 a1,.int .i64 1] ?_
 with_reducible refine (spec_l3Restrict.calls k a0_0 a0_1 a1 1 t104 t105 _ A4.out).mono ?_
 rintro e w8 ⟨rfl,hb⟩
 refine ⟨_,rfl,?_⟩
 have n0_ := aZ_ (blk_below (g := gb101) (o := .cells #[.int .i64 a0_0,.int .i64 a0_1] 25 (0,0)) T2_ hb)
 have n1_ := aZ_ (below_step T1_ hb)
 clear BK101
 clear HB
 have BK101 := n0_
 have HB := n1_
 clear n0_ n1_
 (try clear hb)
 (try clear hb2)
 (try clear hk)
 (try clear hi)
 refine hK.out _ _ ⟨(blk_cell BK101.out 0).trans rfl,(blk_cell BK101.out 1).trans rfl⟩ (fun hHeld => ?_)
 clear hK K
 refine norm_ (a' := ?_) ?_ ?_
 rotate_left
 ·show Act.put _ (some 11) _ = _
  simp only [Act.put,List.setIfInBounds_toArray,List.set_cons_zero,List.set_cons_succ,i64_w,i32_w]
  rfl
 refine pZ_ 7 (some 12) #[true,true,true,true,true,true,true,true,false,false] ?_
 refine pZ_ 8 (some 13) #[true,true,true,true,true,true,true,true,true,false] ?_
 refine pZ_ 9 (some 4) #[true,true,true,true,true,true,true,true,true,true] ?_
 refine done_ (done_of HT_.out T12_) ?_
 try go_wp2
 go_ret
 exact ⟨by first | rfl | (simp [errW_none,errW_some] <;> rfl) | (simp [*,errW_none,errW_some] <;> rfl),by repeat (first | (with_reducible first | exact HB.out | apply below_alloc | apply pw_below_drewN | apply below_drew1 | refine below_set ?_ GE101.out) | exact HB.out)⟩
end Go.Proofs.Ytmmdcbdchifniaa.F
