/- Walks of Go functions and lemmas on what they compute, for the row of FnMonotone (a part of several): each call ends as the Lean function of its name tells; the conditions are those of each theorem. -/
import Derived.Test.YtgojehaneegaeabM1FnMonotone
import Derived.Test.YtgojehaneegaeabM2FnMonotone
import Derived.Test.YtgojehaneegaeabM3FnMonotone
import Derived.Test.YtgojehaneegaeabM4FnMonotone
import Derived.Test.YtgojehaneegaeabM5FnMonotone
import Derived.Test.YtgojehaneegaeabM7FnMonotone
namespace Go.Proofs.Ytgojehaneegaeab.F
open Go.RowKit Go.Proofs.YtgojehaneegaeabW.PrintWords Go.Proofs.YtgojehaneegaeabW.PrintLast Go.Proofs.YtgojehaneegaeabW.PrintMore
attribute [local go_sem] max2_int min2_int max_two min_two max_three min_three max_four min_four 
set_option linter.unusedVariables false
set_option linter.unusedSimpArgs false
def impl_Table_isMonotone.l0 : Nat → Int → Int → Int → Int → Option (Bool)
 | 0,_,_,_,_ => none
 | k + 1,x5,x6,x102000,x102001 => if x6 < x5 then ((impl_Table_restrict.f x102000 x102001 x6 0).bind fun bt102 => ((impl_Table_restrict.f x102000 x102001 x6 1).bind fun bt104 => (if (Go.bits .andNot .i64 bt102.2 bt104.2) = 0 then (impl_Table_isMonotone.l0 k x5 (wrap64 (x6 + 1)) x102000 x102001) else (some false)))) else (some true)
def impl_Table_isMonotone.f (k : Nat) (a0_0 : Int) (a0_1 : Int) : Option (Bool) := impl_Table_isMonotone.l0 k a0_0 0 a0_0 a0_1
def impl_Table_isMonotone.T4 : Bool × List (List Nat × List Nat) := (true,[([],[]),([],[]),([0,1],[0,1]),([2],[2]),([],[]),([],[]),([4,5,2],[4,5]),([6],[6]),([3,7],[3,7]),([8],[8])])
def impl_Table_isMonotone.B4 : List Nat := [0,0,3,7,0,0,55,119,255,511]
theorem impl_Table_isMonotone.tab4 : rtab .any (opsOf Try.f31 4) = impl_Table_isMonotone.T4 := by kernel_rfl
theorem impl_Table_isMonotone.bits4 : waitsOk impl_Table_isMonotone.T4.2 impl_Table_isMonotone.B4 = true := by kernel_rfl
set_option maxHeartbeats 8000000 in
set_option maxRecDepth 100000 in
theorem impl_Table_isMonotone.calls (k : Nat) (a0_0 : Int) (a0_1 : Int) (r : Bool) (w : World) (h : impl_Table_isMonotone.f k a0_0 a0_1 = some r) :
  Calls Try.prog 31 #[.agg #[.int .i64 a0_0,.int .i64 a0_1]] w fun e w' => e = .returned (.bool r) ∧ Below w.heap.size w w' := by
 have hu25 := Try.underlying25
 have hfd25_1 : ∀ (x0_ x1_ : Int) (W : World),(Instr.field 25 (.agg #[.int .i64 x0_,.int .i64 x1_]) 1).run Try.prog W = .ok (.int .i64 x1_) W := fun _ _ _ => by kernel_rfl
 have HB := aZ_ (Below.refl w.heap.size w)
 have H : (impl_Table_isMonotone.l0 k a0_0 0 a0_0 a0_1) = some r := h
 clear h
 have H' := aZ_ H
 clear H
 go_enter Try.func31,Try.ntmps31
 go_wp2_with (first | ((with_reducible refine gate_dst (N := 1) rfl ?_);refine box_event ?hg (N := 1) ?hd (cs := #[.int .i64 a0_0,.int .i64 a0_1]) (t := 25) ?hr ?_;(case hd => rfl);(case hg => rfl);(case hr => first | (go_simp;done) | (go_simp;rfl));intro gb101 hg w2 hbox hb;have n0_ := aZ_ (below_step T6_ hb);have n1_ := aZ_ (hbox);have n2_ := aZ_ ((T2_ : w.heap.size ≤ gb101));have n3_ := aZ_ ((T2_ : w.heap.size ≤ gb101));clear HB;have HB := n0_;have BK101 := n1_;have GW101 := n2_;have GE101 := n3_;clear n0_ n1_ n2_ n3_;clear hb hbox hg;have hcz3_0 : w2.cell? ⟨gb101,0,none⟩ = some (.int .i64 a0_0) := (blk_cell BK101.out 0).trans rfl;have hcz3_1 : w2.cell? ⟨gb101,1,none⟩ = some (.int .i64 a0_1) := (blk_cell BK101.out 1).trans rfl;have hfz3_0 := blk_frozen BK101.out 0;have hfz3_1 := blk_frozen BK101.out 1))
 go_loopg [6] k (fun kq v6 w' => ∃ (x6_1 : Int),v6 = .int .i64 x6_1 ∧ Aside0 (impl_Table_isMonotone.l0 kq a0_0 x6_1 a0_0 a0_1 = some r) ∧ Aside0 (kq ≤ k) ∧ Aside0 (w'.heap[gb101]? = some (.cells #[.int .i64 a0_0,.int .i64 a0_1] 25 (0,0))) ∧ Aside0 (Below w.heap.size w w'))
 case atStart => exact ⟨(0),T11_,H',⟨Nat.le_refl _⟩,⟨by (with_reducible repeat (first | refine blk_drewN ?_ _ | refine blk_drew ?_ | refine blk_alloc ?_ _));exact BK101.out⟩,⟨by repeat (first | (with_reducible first | exact HB.out | apply below_alloc | apply pw_below_drewN | apply below_drew1 | refine below_set ?_ GE101.out) | exact HB.out)⟩⟩
 case round =>
  clear H'
  try clear p2
  try clear c3
  try clear hcz3_0
  try clear hcz3_1
  try clear hfz3_0
  try clear hfz3_1
  obtain ⟨x6_1,rfl,HA,HK1,BK101,HB⟩ := hrel
  cases gk with
  | zero => exact absurd HA.out (by simp [impl_Table_isMonotone.l0])
  | succ k1 =>
   have H := HA.out
   clear HA
   simp only [impl_Table_isMonotone.l0] at H
   by_cases c4 : x6_1 < a0_0
   ·rw [if_pos c4] at H
    have c4b0 : decide (x6_1 < a0_0) = true := decide_eq_true c4
    clear c4
    replace H := Option.bind_eq_some_iff.mp H
    obtain ⟨⟨t102,t103⟩,A50,H⟩ := H
    replace H : ((impl_Table_restrict.f a0_0 a0_1 x6_1 1).bind fun bt104 => (if (Go.bits .andNot .i64 t103 bt104.2) = 0 then (impl_Table_isMonotone.l0 k1 a0_0 (wrap64 (x6_1 + 1)) a0_0 a0_1) else (some false))) = some r := H
    have A5 := aZ_ A50
    clear A50
    replace H := Option.bind_eq_some_iff.mp H
    obtain ⟨⟨t104,t105⟩,A60,H⟩ := H
    replace H : (if (Go.bits .andNot .i64 t103 t105) = 0 then (impl_Table_isMonotone.l0 k1 a0_0 (wrap64 (x6_1 + 1)) a0_0 a0_1) else (some false)) = some r := H
    have A6 := aZ_ A60
    clear A60
    by_cases c7 : (Go.bits .andNot .i64 t103 t105) = 0
    ·rw [if_pos c7] at H
     have c7b0 : ((Go.bits .andNot .i64 t103 t105) == 0) = true := beq_iff_eq.mpr c7
     have c7b1 : ((Go.bits .andNot .i64 t103 t105) != 0) = false := bne_eq_false_iff_eq.mpr c7
     clear c7
     have H' := aZ_ H
     clear H
     try go_wp2
     have n0_ := aZ_ (blk_drew BK101.out)
     have n1_ := aZ_ (below_drew1 HB.out)
     clear BK101
     clear HB
     have BK101 := n0_
     have HB := n1_
     clear n0_ n1_
     refine start_ (n := 10) (S := fun w' => w'.cell? ⟨gb101,0,none⟩ = some (.int .i64 a0_0) ∧ w'.cell? ⟨gb101,1,none⟩ = some (.int .i64 a0_1)) (ds := []) #[false,false,false,false,false,false,false,false,false,false] T21_ rfl rfl ⟨(blk_cell BK101.out 0).trans rfl,(blk_cell BK101.out 1).trans rfl⟩ (fun hHeld => ?_);refine with_tabW impl_Table_isMonotone.tab4 impl_Table_isMonotone.bits4 (fun HT_ HW_ => ?_)
     generalize wr.drew = w8 at BK101 HB hHeld ⊢
     refine pZ_ 1 (some 10) #[false,true,false,false,false,false,false,false,false,false] ?_
     refine pZ_ 5 (some 14) #[false,true,false,false,false,true,false,false,false,false] ?_
     refine tZ2_ 0 (some 9) #[true,true,false,false,false,true,false,false,false,false] hHeld ?_
     refine tZ2_ 4 (some 13) #[true,true,false,false,true,true,false,false,false,false] hHeld ?_
     refine one_ (i := 2) (N := some 11) #[true,true,true,false,true,true,false,false,false,false] rfl rfl (one_of HT_.out T21_) T66_ (fun K hK => ?_)
     refine gZ_ Try.func51 #[.agg #[.int .i64 a0_0,.int .i64 a0_1],.int .i64 x6_1,.int .i64 0] ?_
     with_reducible refine (impl_Table_restrict.calls a0_0 a0_1 x6_1 0 t102 t103 _ A5.out).mono ?_
     rintro e w9 ⟨rfl,hb⟩
     refine ⟨_,rfl,?_⟩
     have n0_ := aZ_ (blk_below (g := gb101) (o := .cells #[.int .i64 a0_0,.int .i64 a0_1] 25 (0,0)) T1_ hb)
     have n1_ := aZ_ (below_step T3_ hb)
     clear BK101
     clear HB
     have BK101 := n0_
     have HB := n1_
     clear n0_ n1_
     (try clear hb)
     (try clear hb2)
     (try clear hk)
     (try clear hi)
     refine hK.out _ _ ⟨(blk_cell BK101.out 0).trans rfl,(blk_cell BK101.out 1).trans rfl⟩ (fun hHeld => ?_)
     clear hK K
     refine norm_ (a' := ?_) ?_ ?_
     rotate_left
     ·show Act.put _ (some 11) _ = _
      simp only [Act.put,List.setIfInBounds_toArray,List.set_cons_zero,List.set_cons_succ,i64_w,i32_w]
      rfl
     refine pZ_ 3 (some 12) #[true,true,true,true,true,true,false,false,false,false] ?_
     refine one_ (i := 6) (N := some 15) #[true,true,true,true,true,true,true,false,false,false] rfl rfl (one_of HT_.out T21_) T66_ (fun K hK => ?_)
     refine gZ_ Try.func51 #[.agg #[.int .i64 a0_0,.int .i64 a0_1],.int .i64 x6_1,.int .i64 1] ?_
     with_reducible refine (impl_Table_restrict.calls a0_0 a0_1 x6_1 1 t104 t105 _ A6.out).mono ?_
     rintro e w10 ⟨rfl,hb⟩
     refine ⟨_,rfl,?_⟩
     have n0_ := aZ_ (blk_below (g := gb101) (o := .cells #[.int .i64 a0_0,.int .i64 a0_1] 25 (0,0)) T1_ hb)
     have n1_ := aZ_ (below_step T3_ hb)
     clear BK101
     clear HB
     have BK101 := n0_
     have HB := n1_
     clear n0_ n1_
     (try clear hb)
     (try clear hb2)
     (try clear hk)
     (try clear hi)
     refine hK.out _ _ ⟨(blk_cell BK101.out 0).trans rfl,(blk_cell BK101.out 1).trans rfl⟩ (fun hHeld => ?_)
     clear hK K
     refine norm_ (a' := ?_) ?_ ?_
     rotate_left
     ·show Act.put _ (some 15) _ = _
      simp only [Act.put,List.setIfInBounds_toArray,List.set_cons_zero,List.set_cons_succ,i64_w,i32_w]
      rfl
     refine pZ_ 7 (some 16) #[true,true,true,true,true,true,true,true,false,false] ?_
     refine pZ_ 8 (some 17) #[true,true,true,true,true,true,true,true,true,false] ?_
     refine pZ_ 9 (some 18) #[true,true,true,true,true,true,true,true,true,true] ?_
     refine done_ (done_of HT_.out T21_) ?_
     try go_wp2
     go_roundg k1
     case measure => have := HK1.out;omega
     case rel => exact ⟨(wrap64 (x6_1 + 1)),T11_,H',⟨by have := HK1.out;omega⟩,⟨by (with_reducible repeat (first | refine blk_drewN ?_ _ | refine blk_drew ?_ | refine blk_alloc ?_ _));exact BK101.out⟩,⟨by repeat (first | (with_reducible first | exact HB.out | apply below_alloc | apply pw_below_drewN | apply below_drew1 | refine below_set ?_ GE101.out) | exact HB.out)⟩⟩
    ·rw [if_neg c7] at H
     have c7b0 : ((Go.bits .andNot .i64 t103 t105) == 0) = false := beq_eq_false_iff_ne.mpr c7
     have c7b1 : ((Go.bits .andNot .i64 t103 t105) != 0) = true := bne_iff_ne.mpr c7
     obtain rfl := Option.some.inj H
     try go_wp2
     have n0_ := aZ_ (blk_drew BK101.out)
     have n1_ := aZ_ (below_drew1 HB.out)
     clear BK101
     clear HB
     have BK101 := n0_
     have HB := n1_
     clear n0_ n1_
     refine start_ (n := 10) (S := fun w' => w'.cell? ⟨gb101,0,none⟩ = some (.int .i64 a0_0) ∧ w'.cell? ⟨gb101,1,none⟩ = some (.int .i64 a0_1)) (ds := []) #[false,false,false,false,false,false,false,false,false,false] T21_ rfl rfl ⟨(blk_cell BK101.out 0).trans rfl,(blk_cell BK101.out 1).trans rfl⟩ (fun hHeld => ?_);refine with_tabW impl_Table_isMonotone.tab4 impl_Table_isMonotone.bits4 (fun HT_ HW_ => ?_)
     generalize wr.drew = w11 at BK101 HB hHeld ⊢
     refine pZ_ 1 (some 10) #[false,true,false,false,false,false,false,false,false,false] ?_
     refine pZ_ 5 (some 14) #[false,true,false,false,false,true,false,false,false,false] ?_
     refine tZ2_ 0 (some 9) #[true,true,false,false,false,true,false,false,false,false] hHeld ?_
     refine tZ2_ 4 (some 13) #[true,true,false,false,true,true,false,false,false,false] hHeld ?_
     refine one_ (i := 2) (N := some 11) #[true,true,true,false,true,true,false,false,false,false] rfl rfl (one_of HT_.out T21_) T66_ (fun K hK => ?_)
     refine gZ_ Try.func51 #[.agg #[.int .i64 a0_0,.int .i64 a0_1],.int .i64 x6_1,.int .i64 0] ?_
     with_reducible refine (impl_Table_restrict.calls a0_0 a0_1 x6_1 0 t102 t103 _ A5.out).mono ?_
     rintro e w12 ⟨rfl,hb⟩
     refine ⟨_,rfl,?_⟩
     have n0_ := aZ_ (blk_below (g := gb101) (o := .cells #[.int .i64 a0_0,.int .i64 a0_1] 25 (0,0)) T1_ hb)
     have n1_ := aZ_ (below_step T3_ hb)
     clear BK101
     clear HB
     have BK101 := n0_
     have HB := n1_
     clear n0_ n1_
     (try clear hb)
     (try clear hb2)
     (try clear hk)
     (try clear hi)
     refine hK.out _ _ ⟨(blk_cell BK101.out 0).trans rfl,(blk_cell BK101.out 1).trans rfl⟩ (fun hHeld => ?_)
     clear hK K
     refine norm_ (a' := ?_) ?_ ?_
     rotate_left
     ·show Act.put _ (some 11) _ = _
      simp only [Act.put,List.setIfInBounds_toArray,List.set_cons_zero,List.set_cons_succ,i64_w,i32_w]
      rfl
     refine pZ_ 3 (some 12) #[true,true,true,true,true,true,false,false,false,false] ?_
     refine one_ (i := 6) (N := some 15) #[true,true,true,true,true,true,true,false,false,false] rfl rfl (one_of HT_.out T21_) T66_ (fun K hK => ?_)
     refine gZ_ Try.func51 #[.agg #[.int .i64 a0_0,.int .i64 a0_1],.int .i64 x6_1,.int .i64 1] ?_
     with_reducible refine (impl_Table_restrict.calls a0_0 a0_1 x6_1 1 t104 t105 _ A6.out).mono ?_
     rintro e w13 ⟨rfl,hb⟩
     refine ⟨_,rfl,?_⟩
     have n0_ := aZ_ (blk_below (g := gb101) (o := .cells #[.int .i64 a0_0,.int .i64 a0_1] 25 (0,0)) T1_ hb)
     have n1_ := aZ_ (below_step T3_ hb)
     clear BK101
     clear HB
     have BK101 := n0_
     have HB := n1_
     clear n0_ n1_
     (try clear hb)
     (try clear hb2)
     (try clear hk)
     (try clear hi)
     refine hK.out _ _ ⟨(blk_cell BK101.out 0).trans rfl,(blk_cell BK101.out 1).trans rfl⟩ (fun hHeld => ?_)
     clear hK K
     refine norm_ (a' := ?_) ?_ ?_
     rotate_left
     ·show Act.put _ (some 15) _ = _
      simp only [Act.put,List.setIfInBounds_toArray,List.set_cons_zero,List.set_cons_succ,i64_w,i32_w]
      rfl
     refine pZ_ 7 (some 16) #[true,true,true,true,true,true,true,true,false,false] ?_
     refine pZ_ 8 (some 17) #[true,true,true,true,true,true,true,true,true,false] ?_
     refine pZ_ 9 (some 18) #[true,true,true,true,true,true,true,true,true,true] ?_
     refine done_ (done_of HT_.out T21_) ?_
     try go_wp2
     go_ret
     exact ⟨by first | rfl | (simp [errW_none,errW_some] <;> rfl) | (simp [*,errW_none,errW_some] <;> rfl),by repeat (first | (with_reducible first | exact HB.out | apply below_alloc | apply pw_below_drewN | apply below_drew1 | refine below_set ?_ GE101.out) | exact HB.out)⟩
   ·rw [if_neg c4] at H
    have c4b0 : decide (x6_1 < a0_0) = false := decide_eq_false c4
    clear c4
    obtain rfl := Option.some.inj H
    go_wp2
    go_ret
    exact ⟨by first | rfl | (simp [errW_none,errW_some] <;> rfl) | (simp [*,errW_none,errW_some] <;> rfl),by repeat (first | (with_reducible first | exact HB.out | apply below_alloc | apply pw_below_drewN | apply below_drew1 | refine below_set ?_ GE101.out) | exact HB.out)⟩
end Go.Proofs.Ytgojehaneegaeab.F
namespace Go.Proofs.Ytgojehaneegaeab.F
open Go.RowKit Go.Proofs.YtgojehaneegaeabW.PrintWords Go.Proofs.YtgojehaneegaeabW.PrintLast Go.Proofs.YtgojehaneegaeabW.PrintMore
attribute [local go_sem] max2_int min2_int max_two min_two max_three min_three max_four min_four 
set_option linter.unusedVariables false
set_option linter.unusedSimpArgs false
def impl_IsMonotone.f (k : Nat) (a0_0 : Int) (a0_1 : Int) : Option (Bool) := (impl_IsTable.f a0_0 a0_1).bind fun t102 => (if t102 = true then ((impl_Table_isMonotone.f k a0_0 a0_1).bind fun t103 => (some t103)) else (some false))
set_option maxHeartbeats 8000000 in
set_option maxRecDepth 100000 in
theorem impl_IsMonotone.calls (k : Nat) (a0_0 : Int) (a0_1 : Int) (r : Bool) (w : World) (h : impl_IsMonotone.f k a0_0 a0_1 = some r) :
  Calls Try.prog 6 #[.agg #[.int .i64 a0_0,.int .i64 a0_1]] w fun e w' => e = .returned (.bool r) ∧ Below w.heap.size w w' := by
 have hu25 := Try.underlying25
 have HB := aZ_ (Below.refl w.heap.size w)
 have H : ((impl_IsTable.f a0_0 a0_1).bind fun t102 => (if t102 = true then ((impl_Table_isMonotone.f k a0_0 a0_1).bind fun t103 => (some t103)) else (some false))) = some r := h
 clear h
 replace H := Option.bind_eq_some_iff.mp H
 obtain ⟨t102,A20,H⟩ := H
 replace H : (if t102 = true then ((impl_Table_isMonotone.f k a0_0 a0_1).bind fun t103 => (some t103)) else (some false)) = some r := H
 have A2 := aZ_ A20
 clear A20
 by_cases c3 : t102 = true
 ·subst c3
  have H1 : ((impl_Table_isMonotone.f k a0_0 a0_1).bind fun t103 => (some t103)) = some r := by rw [if_pos rfl] at H;exact H
  clear H
  have H := H1
  clear H1
  replace H := Option.bind_eq_some_iff.mp H
  obtain ⟨t103,A40,H⟩ := H
  replace H : (some t103) = some r := H
  have A4 := aZ_ A40
  clear A40
  obtain rfl := Option.some.inj H
  go_enter Try.func6,Try.ntmps6
  go_wp2_with (first | ((with_reducible refine gate_dst (N := 1) rfl ?_);refine box_event ?hg (N := 1) ?hd (cs := #[.int .i64 a0_0,.int .i64 a0_1]) (t := 25) ?hr ?_;(case hd => rfl);(case hg => rfl);(case hr => first | (go_simp;done) | (go_simp;rfl));intro gb101 hg w5 hbox hb;have n0_ := aZ_ (below_step T6_ hb);have n1_ := aZ_ (hbox);have n2_ := aZ_ ((T2_ : w.heap.size ≤ gb101));have n3_ := aZ_ ((T2_ : w.heap.size ≤ gb101));clear HB;have HB := n0_;have BK101 := n1_;have GW101 := n2_;have GE101 := n3_;clear n0_ n1_ n2_ n3_;clear hb hbox hg;have hcz6_0 : w5.cell? ⟨gb101,0,none⟩ = some (.int .i64 a0_0) := (blk_cell BK101.out 0).trans rfl;have hcz6_1 : w5.cell? ⟨gb101,1,none⟩ = some (.int .i64 a0_1) := (blk_cell BK101.out 1).trans rfl;have hfz6_0 := blk_frozen BK101.out 0;have hfz6_1 := blk_frozen BK101.out 1) | ((with_reducible refine gate_callee (f := 30) rfl ?_);refine goesL_ (some 4) rfl rfl Try.func30 T21_ rfl #[.agg #[.int .i64 a0_0,.int .i64 a0_1]] rfl T4_ ?_;(with_reducible refine (impl_IsTable.calls a0_0 a0_1 true _ A2.out).mono ?_);rintro e w7 ⟨rfl,hb⟩;refine ⟨_,rfl,?_⟩;have n0_ := aZ_ (blk_below (g := gb101) (o := .cells #[.int .i64 a0_0,.int .i64 a0_1] 25 (0,0)) T1_ hb);have n1_ := aZ_ (below_step T3_ hb);clear BK101;clear HB;have BK101 := n0_;have HB := n1_;clear n0_ n1_;(try clear hb);(try clear hb2);(try clear hk);(try clear hi);have hcz8_0 : w7.cell? ⟨gb101,0,none⟩ = some (.int .i64 a0_0) := (blk_cell BK101.out 0).trans rfl;have hcz8_1 : w7.cell? ⟨gb101,1,none⟩ = some (.int .i64 a0_1) := (blk_cell BK101.out 1).trans rfl;have hfz8_0 := blk_frozen BK101.out 0;have hfz8_1 := blk_frozen BK101.out 1) | (go_at_call 31;(with_reducible refine (impl_Table_isMonotone.calls k a0_0 a0_1 t103 _ A4.out).mono ?_);rintro e w9 ⟨rfl,hb⟩;have n0_ := aZ_ (blk_below (g := gb101) (o := .cells #[.int .i64 a0_0,.int .i64 a0_1] 25 (0,0)) T1_ hb);have n1_ := aZ_ (below_step T3_ hb);clear BK101;clear HB;have BK101 := n0_;have HB := n1_;clear n0_ n1_;(try clear hb);(try clear hb2);(try clear hk);(try clear hi)))
  go_ret
  exact ⟨by first | rfl | (simp [errW_none,errW_some] <;> rfl) | (simp [*,errW_none,errW_some] <;> rfl),by repeat (first | (with_reducible first | exact HB.out | apply below_alloc | apply pw_below_drewN | apply below_drew1 | refine below_set ?_ GE101.out) | exact HB.out)⟩
 ·replace c3 := Bool.eq_false_iff.mpr c3
  subst c3
  have H1 : (some false) = some r := by rw [if_neg (show ¬ (false = true) by decide)] at H;exact H
  clear H
  have H := H1
  clear H1
  obtain rfl := Option.some.inj H
  go_enter Try.func6,Try.ntmps6
  go_wp2_with (first | ((with_reducible refine gate_dst (N := 1) rfl ?_);refine box_event ?hg (N := 1) ?hd (cs := #[.int .i64 a0_0,.int .i64 a0_1]) (t := 25) ?hr ?_;(case hd => rfl);(case hg => rfl);(case hr => first | (go_simp;done) | (go_simp;rfl));intro gb101 hg w10 hbox hb;have n0_ := aZ_ (below_step T6_ hb);have n1_ := aZ_ (hbox);have n2_ := aZ_ ((T2_ : w.heap.size ≤ gb101));have n3_ := aZ_ ((T2_ : w.heap.size ≤ gb101));clear HB;have HB := n0_;have BK101 := n1_;have GW101 := n2_;have GE101 := n3_;clear n0_ n1_ n2_ n3_;clear hb hbox hg;have hcz11_0 : w10.cell? ⟨gb101,0,none⟩ = some (.int .i64 a0_0) := (blk_cell BK101.out 0).trans rfl;have hcz11_1 : w10.cell? ⟨gb101,1,none⟩ = some (.int .i64 a0_1) := (blk_cell BK101.out 1).trans rfl;have hfz11_0 := blk_frozen BK101.out 0;have hfz11_1 := blk_frozen BK101.out 1) | ((with_reducible refine gate_callee (f := 30) rfl ?_);refine goesL_ (some 4) rfl rfl Try.func30 T21_ rfl #[.agg #[.int .i64 a0_0,.int .i64 a0_1]] rfl T4_ ?_;(with_reducible refine (impl_IsTable.calls a0_0 a0_1 false _ A2.out).mono ?_);rintro e w12 ⟨rfl,hb⟩;refine ⟨_,rfl,?_⟩;have n0_ := aZ_ (blk_below (g := gb101) (o := .cells #[.int .i64 a0_0,.int .i64 a0_1] 25 (0,0)) T1_ hb);have n1_ := aZ_ (below_step T3_ hb);clear BK101;clear HB;have BK101 := n0_;have HB := n1_;clear n0_ n1_;(try clear hb);(try clear hb2);(try clear hk);(try clear hi)))
  go_ret
  exact ⟨by first | rfl | (simp [errW_none,errW_some] <;> rfl) | (simp [*,errW_none,errW_some] <;> rfl),by repeat (first | (with_reducible first | exact HB.out | apply below_alloc | apply pw_below_drewN | apply below_drew1 | refine below_set ?_ GE101.out) | exact HB.out)⟩
end Go.Proofs.Ytgojehaneegaeab.F
namespace Go.Proofs.Ytgojehaneegaeab.F
open Go.RowKit Go.Proofs.YtgojehaneegaeabW.PrintWords Go.Proofs.YtgojehaneegaeabW.PrintLast Go.Proofs.YtgojehaneegaeabW.PrintMore
attribute [local go_sem] max2_int min2_int max_two min_two max_three min_three max_four min_four 
set_option linter.unusedVariables false
set_option linter.unusedSimpArgs false
def spec_l3Insert.f (a0 : Int) (a1 : Int) (a2 : Int) : Option (Int) := if 0 ≤ a1 then (if 0 ≤ (wrap64 (a1 + 1)) then (some (Go.bits .or .i64 (Go.bits .or .i64 (shl .i64 (shr .i64 a0 a1) (wrap64 (a1 + 1))) (shl .i64 a2 a1)) (Go.bits .and .i64 a0 (wrap64 ((shl .i64 1 a1) - 1))))) else (none)) else (none)
set_option maxHeartbeats 8000000 in
set_option maxRecDepth 100000 in
theorem spec_l3Insert.calls (a0 : Int) (a1 : Int) (a2 : Int) (r : Int) (w : World) (h : spec_l3Insert.f a0 a1 a2 = some r) :
  Calls Try.prog 67 #[.int .i64 a0,.int .i64 a1,.int .i64 a2] w fun e w' => e = .returned (.int .i64 r) ∧ Drawn0 w w' := by
 have H : (if 0 ≤ a1 then (if 0 ≤ (wrap64 (a1 + 1)) then (some (Go.bits .or .i64 (Go.bits .or .i64 (shl .i64 (shr .i64 a0 a1) (wrap64 (a1 + 1))) (shl .i64 a2 a1)) (Go.bits .and .i64 a0 (wrap64 ((shl .i64 1 a1) - 1))))) else (none)) else (none)) = some r := h
 clear h
 by_cases c4 : 0 ≤ a1
 ·rw [if_pos c4] at H
  have c4b0 := eq_true c4
  have c4b1 : decide (0 ≤ a1) = true := decide_eq_true c4
  clear c4
  obtain ⟨ji5,hji5⟩ : ∃ j_ : Int,(shl .i64 1 a1) = j_ := ⟨_,rfl⟩
  replace H : (if 0 ≤ (wrap64 (a1 + 1)) then (some (Go.bits .or .i64 (Go.bits .or .i64 (shl .i64 (shr .i64 a0 a1) (wrap64 (a1 + 1))) (shl .i64 a2 a1)) (Go.bits .and .i64 a0 (wrap64 ((ji5) - 1))))) else (none)) = some r := by first | (rw [hji5] at H;exact H) | (simp only [hji5] at H ⊢;exact H)
  have hji5_ : (IntKind.i64.wrap (1 * 2 ^ min a1.toNat 64)) = ji5 := hji5
  have hji5z : a1 ≤ 64 → (IntKind.i64.wrap (1 * 2 ^ a1.toNat)) = ji5 := shl_small hji5
  have hji5u : (IntKind.i64.wrap (2 ^ min a1.toNat 64)) = ji5 := by have h_ := hji5_;rw [Int.one_mul] at h_;exact h_
  have hji5v : a1 ≤ 64 → (IntKind.i64.wrap (2 ^ a1.toNat)) = ji5 := fun hle_ => by have h_ := hji5z hle_;rw [Int.one_mul] at h_;exact h_
  have hji5y : (wrap64 (1 * 2 ^ min a1.toNat 64)) = ji5 := (i64_w _).symm.trans hji5_
  have hji5x : a1 ≤ 64 → (wrap64 (1 * 2 ^ a1.toNat)) = ji5 := fun h_ => (i64_w _).symm.trans (hji5z h_)
  have c6b0 := eq_true (of_decide_eq_true T31_ : 0 ≤ a1)
  obtain ⟨ji7,hji7⟩ : ∃ j_ : Int,(shr .i64 a0 a1) = j_ := ⟨_,rfl⟩
  replace H : (if 0 ≤ (wrap64 (a1 + 1)) then (some (Go.bits .or .i64 (Go.bits .or .i64 (shl .i64 (ji7) (wrap64 (a1 + 1))) (shl .i64 a2 a1)) (Go.bits .and .i64 a0 (wrap64 ((ji5) - 1))))) else (none)) = some r := by first | (rw [hji7] at H;exact H) | (simp only [hji7] at H ⊢;exact H)
  have hji7_ : (a0 / 2 ^ min a1.toNat 64) = ji7 := hji7
  have hji7z : a1 ≤ 64 → (a0 / 2 ^ a1.toNat) = ji7 := shr_small hji7
  obtain ⟨ji8,hji8⟩ : ∃ j_ : Int,(wrap64 (a1 + 1)) = j_ := ⟨_,rfl⟩
  replace H : (if 0 ≤ (ji8) then (some (Go.bits .or .i64 (Go.bits .or .i64 (shl .i64 (ji7) (ji8)) (shl .i64 a2 a1)) (Go.bits .and .i64 a0 (wrap64 ((ji5) - 1))))) else (none)) = some r := by first | (rw [hji8] at H;exact H) | (simp only [hji8] at H ⊢;exact H)
  have hji8w : (IntKind.i64.wrap (a1 + 1)) = ji8 := (i64_w _).trans hji8
  by_cases c9 : 0 ≤ (ji8)
  ·rw [if_pos c9] at H
   have c9b0 := eq_true c9
   have c9b1 : decide (0 ≤ (ji8)) = true := decide_eq_true c9
   clear c9
   obtain ⟨ji10,hji10⟩ : ∃ j_ : Int,(shl .i64 (ji7) (ji8)) = j_ := ⟨_,rfl⟩
   replace H : (some (Go.bits .or .i64 (Go.bits .or .i64 (ji10) (shl .i64 a2 a1)) (Go.bits .and .i64 a0 (wrap64 ((ji5) - 1))))) = some r := by first | (rw [hji10] at H;exact H) | (simp only [hji10] at H ⊢;exact H)
   have hji10_ : (IntKind.i64.wrap ((ji7) * 2 ^ min (ji8).toNat 64)) = ji10 := hji10
   have hji10z : (ji8) ≤ 64 → (IntKind.i64.wrap ((ji7) * 2 ^ (ji8).toNat)) = ji10 := shl_small hji10
   have hji10y : (wrap64 ((ji7) * 2 ^ min (ji8).toNat 64)) = ji10 := (i64_w _).symm.trans hji10_
   have hji10x : (ji8) ≤ 64 → (wrap64 ((ji7) * 2 ^ (ji8).toNat)) = ji10 := fun h_ => (i64_w _).symm.trans (hji10z h_)
   have c11b0 := eq_true (of_decide_eq_true T31_ : 0 ≤ a1)
   obtain ⟨ji12,hji12⟩ : ∃ j_ : Int,(shl .i64 a2 a1) = j_ := ⟨_,rfl⟩
   replace H : (some (Go.bits .or .i64 (Go.bits .or .i64 (ji10) (ji12)) (Go.bits .and .i64 a0 (wrap64 ((ji5) - 1))))) = some r := by first | (rw [hji12] at H;exact H) | (simp only [hji12] at H ⊢;exact H)
   have hji12_ : (IntKind.i64.wrap (a2 * 2 ^ min a1.toNat 64)) = ji12 := hji12
   have hji12z : a1 ≤ 64 → (IntKind.i64.wrap (a2 * 2 ^ a1.toNat)) = ji12 := shl_small hji12
   have hji12y : (wrap64 (a2 * 2 ^ min a1.toNat 64)) = ji12 := (i64_w _).symm.trans hji12_
   have hji12x : a1 ≤ 64 → (wrap64 (a2 * 2 ^ a1.toNat)) = ji12 := fun h_ => (i64_w _).symm.trans (hji12z h_)
   obtain rfl := Option.some.inj H
   go_enter Try.func67,Try.ntmps67
   go_wp2
   repeat (go_quiet (fail);try go_wp2)
   go_ret
   exact ⟨by first | rfl | (simp;done) | (simp only [← hji5,← hji7,← hji8,← hji10,← hji12] <;> (first | rfl | simp)) | (simp [*];done),by repeat (first | exact Drawn0.refl _ | apply Drawn0.step)⟩
  ·rw [if_neg c9] at H
   exact absurd H T67_
 ·rw [if_neg c4] at H
  exact absurd H T67_
end Go.Proofs.Ytgojehaneegaeab.F
namespace Go.Proofs.Ytgojehaneegaeab.F
open Go.RowKit Go.Proofs.YtgojehaneegaeabW.PrintWords Go.Proofs.YtgojehaneegaeabW.PrintLast Go.Proofs.YtgojehaneegaeabW.PrintMore
attribute [local go_sem] max2_int min2_int max_two min_two max_three min_three max_four min_four 
set_option linter.unusedVariables false
set_option linter.unusedSimpArgs false
def spec_l3Restrict.l0 : Nat → Int → Int → Int → Int → Int → Int → Option (Int × Int)
 | 0,_,_,_,_,_,_ => none
 | k + 1,x1,x2,x7,x8,x102000,x102001 => if 0 ≤ (wrap64 (x102000 - 1)) then (if x8 < (shl .i64 1 (wrap64 (x102000 - 1))) then ((spec_l3Insert.f x8 x1 x2).bind fun t103 => (if 0 ≤ t103 then (if 0 ≤ x8 then (spec_l3Restrict.l0 k x1 x2 (Go.bits .or .i64 x7 (shl .i64 (Go.bits .and .i64 (shr .i64 x102001 t103) 1) x8)) (wrap64 (x8 + 1)) x102000 x102001) else (none)) else (none))) else (some (wrap64 (x102000 - 1),x7))) else (none)
def spec_l3Restrict.f (k : Nat) (a0_0 : Int) (a0_1 : Int) (a1 : Int) (a2 : Int) : Option (Int × Int) := spec_l3Restrict.l0 k a1 a2 0 0 a0_0 a0_1
def spec_l3Restrict.T5 : Bool × List (List Nat × List Nat) := (true,[([],[]),([],[]),([1],[1]),([],[]),([],[]),([],[]),([3,4,5],[3,4,5]),([2,6],[2,6]),([7],[7]),([],[]),([8,9],[8,9]),([0,10],[0,10]),([11,6,0,1,2,3,4,5,6,7,8,9,10,11],[0,11])])
def spec_l3Restrict.B5 : List Nat := [0,0,2,0,0,0,56,126,254,0,1022,2047,4095]
theorem spec_l3Restrict.tab5 : rtab .any (opsOf Try.f54 5) = spec_l3Restrict.T5 := by kernel_rfl
theorem spec_l3Restrict.bits5 : waitsOk spec_l3Restrict.T5.2 spec_l3Restrict.B5 = true := by kernel_rfl
set_option maxHeartbeats 8000000 in
set_option maxRecDepth 100000 in
theorem spec_l3Restrict.calls (k : Nat) (a0_0 : Int) (a0_1 : Int) (a1 : Int) (a2 : Int) (r1 : Int) (r2 : Int) (w : World) (h : spec_l3Restrict.f k a0_0 a0_1 a1 a2 = some (r1,r2)) :
  Calls Try.prog 54 #[.agg #[.int .i64 a0_0,.int .i64 a0_1],.int .i64 a1,.int .i64 a2] w fun e w' => e = .returned (.agg #[.int .i64 r1,.int .i64 r2]) ∧ Below w.heap.size w w' := by
 have hu25 := Try.underlying25
 have HB := aZ_ (Below.refl w.heap.size w)
 have H : (spec_l3Restrict.l0 k a1 a2 0 0 a0_0 a0_1) = some (r1,r2) := h
 clear h
 have H' := aZ_ H
 clear H
 go_enter Try.func54,Try.ntmps54
 go_wp2_with (first | ((with_reducible refine gate_dst (N := 3) rfl ?_);refine box_event ?hg (N := 3) ?hd (cs := #[.int .i64 a0_0,.int .i64 a0_1]) (t := 25) ?hr ?_;(case hd => rfl);(case hg => rfl);(case hr => first | (go_simp;done) | (go_simp;rfl));intro gb101 hg w4 hbox hb;have n0_ := aZ_ (below_step T6_ hb);have n1_ := aZ_ (hbox);have n2_ := aZ_ ((T2_ : w.heap.size ≤ gb101));have n3_ := aZ_ ((T2_ : w.heap.size ≤ gb101));clear HB;have HB := n0_;have BK101 := n1_;have GW101 := n2_;have GE101 := n3_;clear n0_ n1_ n2_ n3_;clear hb hbox hg) | ((with_reducible refine gate_dst (N := 6) rfl ?_);refine box_event ?hg (N := 6) ?hd (cs := #[.int .i64 0,.int .i64 0]) (t := 25) ?hr ?_;(case hd => rfl);(case hg => rfl);(case hr => first | (go_simp;done) | (go_simp;rfl));intro gb102 hg w5 hbox hb;have n0_ := aZ_ (blk_below (g := gb101) (o := .cells #[.int .i64 a0_0,.int .i64 a0_1] 25 (0,0)) T1_ hb);have n1_ := aZ_ (below_step T3_ hb);have n2_ := aZ_ (hbox);have n3_ := aZ_ ((T5_ : w.heap.size ≤ gb102));have n4_ := aZ_ ((T5_ : w.heap.size ≤ gb102));have n5_ := aZ_ ((T8_ : gb101 ≠ gb102));have n6_ := aZ_ ((T9_ : gb102 ≠ gb101));clear BK101;clear HB;have BK101 := n0_;have HB := n1_;have BK102 := n2_;have GW102 := n3_;have GE102 := n4_;have NB101_102 := n5_;have NB102_101 := n6_;clear n0_ n1_ n2_ n3_ n4_ n5_ n6_;clear hb hbox hg))
 go_loopg [7,8] k (fun kq v7 v8 w' => ∃ (x7_1 : Int) (x8_1 : Int),v7 = .int .i64 x7_1 ∧ v8 = .int .i64 x8_1 ∧ Aside0 (spec_l3Restrict.l0 kq a1 a2 x7_1 x8_1 a0_0 a0_1 = some (r1,r2)) ∧ Aside0 (kq ≤ k) ∧ Aside0 (w'.heap[gb101]? = some (.cells #[.int .i64 a0_0,.int .i64 a0_1] 25 (0,0))) ∧ Aside0 (w'.heap[gb102]? = some (.cells #[.int .i64 0,.int .i64 0] 25 (0,0))) ∧ Aside0 (Below w.heap.size w w'))
 case atStart => exact ⟨(0),(0),T11_,T11_,H',⟨Nat.le_refl _⟩,⟨by (with_reducible repeat (first | refine blk_drewN ?_ _ | refine blk_drew ?_ | refine blk_alloc ?_ _));exact BK101.out⟩,⟨by (with_reducible repeat (first | refine blk_drewN ?_ _ | refine blk_drew ?_ | refine blk_alloc ?_ _));exact BK102.out⟩,⟨by repeat (first | (with_reducible first | exact HB.out | apply below_alloc | apply pw_below_drewN | apply below_drew1 | refine below_set ?_ GE101.out | refine below_set ?_ GE102.out) | exact HB.out)⟩⟩
 case round =>
  clear H'
  try clear p2
  try clear c5
  obtain ⟨x7_1,x8_1,rfl,rfl,HA,HK1,BK101,BK102,HB⟩ := hrel
  cases gk with
  | zero => exact absurd HA.out (by simp [spec_l3Restrict.l0])
  | succ k1 =>
   have H := HA.out
   clear HA
   simp only [spec_l3Restrict.l0] at H
   obtain ⟨ji6,hji6⟩ : ∃ j_ : Int,(wrap64 (a0_0 - 1)) = j_ := ⟨_,rfl⟩
   replace H : (if 0 ≤ (ji6) then (if x8_1 < (shl .i64 1 (ji6)) then ((spec_l3Insert.f x8_1 a1 a2).bind fun t103 => (if 0 ≤ t103 then (if 0 ≤ x8_1 then (spec_l3Restrict.l0 k1 a1 a2 (Go.bits .or .i64 x7_1 (shl .i64 (Go.bits .and .i64 (shr .i64 a0_1 t103) 1) x8_1)) (wrap64 (x8_1 + 1)) a0_0 a0_1) else (none)) else (none))) else (some (ji6,x7_1))) else (none)) = some (r1,r2) := by first | (rw [hji6] at H;exact H) | (simp only [hji6] at H ⊢;exact H)
   have hji6w : (IntKind.i64.wrap (a0_0 - 1)) = ji6 := (i64_w _).trans hji6
   by_cases c7 : 0 ≤ (ji6)
   ·rw [if_pos c7] at H
    have c7b0 := eq_true c7
    have c7b1 : decide (0 ≤ (ji6)) = true := decide_eq_true c7
    clear c7
    obtain ⟨ji8,hji8⟩ : ∃ j_ : Int,(shl .i64 1 (ji6)) = j_ := ⟨_,rfl⟩
    replace H : (if x8_1 < (ji8) then ((spec_l3Insert.f x8_1 a1 a2).bind fun t103 => (if 0 ≤ t103 then (if 0 ≤ x8_1 then (spec_l3Restrict.l0 k1 a1 a2 (Go.bits .or .i64 x7_1 (shl .i64 (Go.bits .and .i64 (shr .i64 a0_1 t103) 1) x8_1)) (wrap64 (x8_1 + 1)) a0_0 a0_1) else (none)) else (none))) else (some (ji6,x7_1))) = some (r1,r2) := by first | (rw [hji8] at H;exact H) | (simp only [hji8] at H ⊢;exact H)
    have hji8_ : (IntKind.i64.wrap (1 * 2 ^ min (ji6).toNat 64)) = ji8 := hji8
    have hji8z : (ji6) ≤ 64 → (IntKind.i64.wrap (1 * 2 ^ (ji6).toNat)) = ji8 := shl_small hji8
    have hji8u : (IntKind.i64.wrap (2 ^ min (ji6).toNat 64)) = ji8 := by have h_ := hji8_;rw [Int.one_mul] at h_;exact h_
    have hji8v : (ji6) ≤ 64 → (IntKind.i64.wrap (2 ^ (ji6).toNat)) = ji8 := fun hle_ => by have h_ := hji8z hle_;rw [Int.one_mul] at h_;exact h_
    have hji8y : (wrap64 (1 * 2 ^ min (ji6).toNat 64)) = ji8 := (i64_w _).symm.trans hji8_
    have hji8x : (ji6) ≤ 64 → (wrap64 (1 * 2 ^ (ji6).toNat)) = ji8 := fun h_ => (i64_w _).symm.trans (hji8z h_)
    by_cases c9 : x8_1 < (ji8)
    ·rw [if_pos c9] at H
     have c9b0 : decide (x8_1 < (ji8)) = true := decide_eq_true c9
     clear c9
     replace H := Option.bind_eq_some_iff.mp H
     obtain ⟨t103,A100,H⟩ := H
     replace H : (if 0 ≤ t103 then (if 0 ≤ x8_1 then (spec_l3Restrict.l0 k1 a1 a2 (Go.bits .or .i64 x7_1 (shl .i64 (Go.bits .and .i64 (shr .i64 a0_1 t103) 1) x8_1)) (wrap64 (x8_1 + 1)) a0_0 a0_1) else (none)) else (none)) = some (r1,r2) := H
     have A10 := aZ_ A100
     clear A100
     by_cases c11 : 0 ≤ t103
     ·rw [if_pos c11] at H
      have c11b0 := eq_true c11
      have c11b1 : decide (0 ≤ t103) = true := decide_eq_true c11
      clear c11
      obtain ⟨ji12,hji12⟩ : ∃ j_ : Int,(shr .i64 a0_1 t103) = j_ := ⟨_,rfl⟩
      replace H : (if 0 ≤ x8_1 then (spec_l3Restrict.l0 k1 a1 a2 (Go.bits .or .i64 x7_1 (shl .i64 (Go.bits .and .i64 (ji12) 1) x8_1)) (wrap64 (x8_1 + 1)) a0_0 a0_1) else (none)) = some (r1,r2) := by first | (rw [hji12] at H;exact H) | (simp only [hji12] at H ⊢;exact H)
      (try rw [hji12] at A10)
      have hji12_ : (a0_1 / 2 ^ min t103.toNat 64) = ji12 := hji12
      have hji12z : t103 ≤ 64 → (a0_1 / 2 ^ t103.toNat) = ji12 := shr_small hji12
      by_cases c13 : 0 ≤ x8_1
      ·rw [if_pos c13] at H
       have c13b0 := eq_true c13
       have c13b1 : decide (0 ≤ x8_1) = true := decide_eq_true c13
       clear c13
       obtain ⟨ji14,hji14⟩ : ∃ j_ : Int,(shl .i64 (Go.bits .and .i64 (ji12) 1) x8_1) = j_ := ⟨_,rfl⟩
       replace H : (spec_l3Restrict.l0 k1 a1 a2 (Go.bits .or .i64 x7_1 (ji14)) (wrap64 (x8_1 + 1)) a0_0 a0_1) = some (r1,r2) := by first | (rw [hji14] at H;exact H) | (simp only [hji14] at H ⊢;exact H)
       (try rw [hji14] at A10)
       have hji14_ : (IntKind.i64.wrap ((Go.bits .and .i64 (ji12) 1) * 2 ^ min x8_1.toNat 64)) = ji14 := hji14
       have hji14z : x8_1 ≤ 64 → (IntKind.i64.wrap ((Go.bits .and .i64 (ji12) 1) * 2 ^ x8_1.toNat)) = ji14 := shl_small hji14
       have hji14y : (wrap64 ((Go.bits .and .i64 (ji12) 1) * 2 ^ min x8_1.toNat 64)) = ji14 := (i64_w _).symm.trans hji14_
       have hji14x : x8_1 ≤ 64 → (wrap64 ((Go.bits .and .i64 (ji12) 1) * 2 ^ x8_1.toNat)) = ji14 := fun h_ => (i64_w _).symm.trans (hji14z h_)
       have H' := aZ_ H
       clear H
       have hnb15 := NB101_102.out
       have hnc15 := NB102_101.out
       have hcz16_0 : wr.cell? ⟨gb101,0,none⟩ = some (.int .i64 a0_0) := (blk_cell BK101.out 0).trans rfl
       have hcz16_1 : wr.cell? ⟨gb101,1,none⟩ = some (.int .i64 a0_1) := (blk_cell BK101.out 1).trans rfl
       have hfz16_0 := blk_frozen BK101.out 0
       have hfz16_1 := blk_frozen BK101.out 1
       try go_wp2
       have n0_ := aZ_ (blk_drew BK101.out)
       have n1_ := aZ_ (blk_drew BK102.out)
       have n2_ := aZ_ (below_drew1 HB.out)
       clear BK101
       clear BK102
       clear HB
       have BK101 := n0_
       have BK102 := n1_
       have HB := n2_
       clear n0_ n1_ n2_
       refine start_ (n := 13) (S := fun w' => w'.cell? ⟨gb101,0,none⟩ = some (.int .i64 a0_0) ∧ w'.cell? ⟨gb101,1,none⟩ = some (.int .i64 a0_1)) (ds := []) #[false,false,false,false,false,false,false,false,false,false,false,false,false] T21_ rfl rfl ⟨(blk_cell BK101.out 0).trans rfl,(blk_cell BK101.out 1).trans rfl⟩ (fun hHeld => ?_);refine with_tabW spec_l3Restrict.tab5 spec_l3Restrict.bits5 (fun HT_ HW_ => ?_)
       generalize wr.drew = w17 at BK101 BK102 HB hHeld ⊢
       refine pZ_ 0 (some 17) #[true,false,false,false,false,false,false,false,false,false,false,false,false] ?_
       refine pZ_ 1 (some 18) #[true,true,false,false,false,false,false,false,false,false,false,false,false] ?_
       refine pZ_ 3 (some 20) #[true,true,false,true,false,false,false,false,false,false,false,false,false] ?_
       refine pZ_ 4 (some 21) #[true,true,false,true,true,false,false,false,false,false,false,false,false] ?_
       refine pZ_ 5 (some 22) #[true,true,false,true,true,true,false,false,false,false,false,false,false] ?_
       refine pZ_ 9 (some 26) #[true,true,false,true,true,true,false,false,false,true,false,false,false] ?_
       refine tZ2_ 2 (some 19) #[true,true,true,true,true,true,false,false,false,true,false,false,false] hHeld ?_
       refine one_ (i := 6) (N := some 23) #[true,true,true,true,true,true,true,false,false,true,false,false,false] rfl rfl (one_of HT_.out T21_) T66_ (fun K hK => ?_)
       refine gZ_ Try.func67 #[.int .i64 x8_1,.int .i64 a1,.int .i64 a2] ?_
       with_reducible refine (spec_l3Insert.calls x8_1 a1 a2 t103 _ A10.out).mono ?_
       rintro e w' ⟨rfl,⟨nd,rfl⟩⟩
       refine ⟨_,rfl,?_⟩
       refine hK.out _ _ ⟨(blk_cell BK101.out 0).trans rfl,(blk_cell BK101.out 1).trans rfl⟩ (fun hHeld => ?_)
       clear hK K
       refine norm_ (a' := ?_) ?_ ?_
       rotate_left
       ·show Act.put _ (some 23) _ = _
        simp only [Act.put,List.setIfInBounds_toArray,List.set_cons_zero,List.set_cons_succ,i64_w,i32_w]
        rfl
       refine pZ_ 7 (some 24) #[true,true,true,true,true,true,true,true,false,true,false,false,false] ?_
       refine pZ_ 8 (some 25) #[true,true,true,true,true,true,true,true,true,true,false,false,false] ?_
       refine pZ_ 10 (some 27) #[true,true,true,true,true,true,true,true,true,true,true,false,false] ?_
       refine pZ_ 11 (some 28) #[true,true,true,true,true,true,true,true,true,true,true,true,false] ?_
       refine pZ_ 12 (some 7) #[true,true,true,true,true,true,true,true,true,true,true,true,true] ?_
       refine done_ (done_of HT_.out T21_) ?_
       try go_wp2
       go_roundg k1
       case measure => have := HK1.out;omega
       case rel => exact ⟨(Go.bits .or .i64 x7_1 (ji14)),(wrap64 (x8_1 + 1)),(by first | rfl | (simp;done) | (simp only [← hji14] <;> (first | rfl | simp)) | (simp [*];done)),T11_,H',⟨by have := HK1.out;omega⟩,⟨by (with_reducible repeat (first | refine blk_drewN ?_ _ | refine blk_drew ?_ | refine blk_alloc ?_ _));exact BK101.out⟩,⟨by (with_reducible repeat (first | refine blk_drewN ?_ _ | refine blk_drew ?_ | refine blk_alloc ?_ _));exact BK102.out⟩,⟨by repeat (first | (with_reducible first | exact HB.out | apply below_alloc | apply pw_below_drewN | apply below_drew1 | refine below_set ?_ GE101.out | refine below_set ?_ GE102.out) | exact HB.out)⟩⟩
      ·rw [if_neg c13] at H
       exact absurd H T67_
     ·rw [if_neg c11] at H
      exact absurd H T67_
    ·rw [if_neg c9] at H
     have c9b0 : decide (x8_1 < (ji8)) = false := decide_eq_false c9
     clear c9
     simp only [Option.some.injEq,Prod.mk.injEq] at H
     obtain ⟨rfl,rfl⟩ := H
     have hnb18 := NB101_102.out
     have hnc18 := NB102_101.out
     have hcz19_0 : wr.cell? ⟨gb101,0,none⟩ = some (.int .i64 a0_0) := (blk_cell BK101.out 0).trans rfl
     have hcz19_1 : wr.cell? ⟨gb101,1,none⟩ = some (.int .i64 a0_1) := (blk_cell BK101.out 1).trans rfl
     have hfz19_0 := blk_frozen BK101.out 0
     have hfz19_1 := blk_frozen BK101.out 1
     have hcz20_0 : wr.cell? ⟨gb102,0,none⟩ = some (.int .i64 0) := (blk_cell BK102.out 0).trans rfl
     have hcz20_1 : wr.cell? ⟨gb102,1,none⟩ = some (.int .i64 0) := (blk_cell BK102.out 1).trans rfl
     have hfz20_0 := blk_frozen BK102.out 0
     have hfz20_1 := blk_frozen BK102.out 1
     go_wp2
     refine bodyPost_ret (results_cell_row rfl _ _ gb102 25 #[.int .i64 ji6,.int .i64 x7_1] (0,0) _ rfl (by (with_reducible repeat (first | refine blk_drewN ?_ _ | refine blk_drew ?_ | refine blk_alloc ?_ _));refine blk_put (cs := #[.int .i64 ji6,.int .i64 0]) ?_ 1 _ rfl;(with_reducible repeat (first | refine blk_drewN ?_ _ | refine blk_drew ?_ | refine blk_alloc ?_ _));refine blk_put (cs := #[.int .i64 0,.int .i64 0]) ?_ 0 _ rfl;(with_reducible repeat (first | refine blk_drewN ?_ _ | refine blk_drew ?_ | refine blk_alloc ?_ _));exact BK102.out) Try.underlying25 rfl T21_) rfl ?_
     exact ⟨by first | rfl | (simp [errW_none,errW_some] <;> rfl) | (simp only [← hji6,← hji8];first | rfl | (simp [errW_none,errW_some] <;> rfl)) | (simp [*,errW_none,errW_some] <;> rfl),by repeat (first | (with_reducible first | exact HB.out | apply below_alloc | apply pw_below_drewN | apply below_drew1 | refine below_set ?_ GE101.out | refine below_set ?_ GE102.out) | exact HB.out)⟩
   ·rw [if_neg c7] at H
    exact absurd H T67_
end Go.Proofs.Ytgojehaneegaeab.F
namespace Go.Proofs.Ytgojehaneegaeab.F
open Go.RowKit Go.Proofs.YtgojehaneegaeabW.PrintWords Go.Proofs.YtgojehaneegaeabW.PrintLast Go.Proofs.YtgojehaneegaeabW.PrintMore
attribute [local go_sem] max2_int min2_int max_two min_two max_three min_three max_four min_four 
set_option linter.unusedVariables false
set_option linter.unusedSimpArgs false
def spec_l15Monotone.l0 : Nat → Int → Int → Int → Option (Bool)
 | 0,_,_,_ => none
 | k + 1,x3,x102000,x102001 => if x3 < x102000 then ((spec_l3Restrict.f k x102000 x102001 x3 0).bind fun bt102 => ((spec_l3Restrict.f k x102000 x102001 x3 1).bind fun bt104 => (if (Go.bits .and .i64 bt102.2 bt104.2) = bt102.2 then (spec_l15Monotone.l0 k (wrap64 (x3 + 1)) x102000 x102001) else (some false)))) else (some true)
def spec_l15Monotone.f (k : Nat) (a0_0 : Int) (a0_1 : Int) : Option (Bool) := spec_l15Monotone.l0 k 0 a0_0 a0_1
set_option maxHeartbeats 8000000 in
set_option maxRecDepth 100000 in
theorem spec_l15Monotone.calls (k : Nat) (a0_0 : Int) (a0_1 : Int) (r : Bool) (w : World) (h : spec_l15Monotone.f k a0_0 a0_1 = some r) :
  Calls Try.prog 34 #[.agg #[.int .i64 a0_0,.int .i64 a0_1]] w fun e w' => e = .returned (.bool r) ∧ Below w.heap.size w w' := by
 have hu25 := Try.underlying25
 have hfd25_1 : ∀ (x0_ x1_ : Int) (W : World),(Instr.field 25 (.agg #[.int .i64 x0_,.int .i64 x1_]) 1).run Try.prog W = .ok (.int .i64 x1_) W := fun _ _ _ => by kernel_rfl
 have HB := aZ_ (Below.refl w.heap.size w)
 have H : (spec_l15Monotone.l0 k 0 a0_0 a0_1) = some r := h
 clear h
 have H' := aZ_ H
 clear H
 go_enter Try.func34,Try.ntmps34
 go_wp2_with (first | ((with_reducible refine gate_dst (N := 1) rfl ?_);refine box_event ?hg (N := 1) ?hd (cs := #[.int .i64 a0_0,.int .i64 a0_1]) (t := 25) ?hr ?_;(case hd => rfl);(case hg => rfl);(case hr => first | (go_simp;done) | (go_simp;rfl));intro gb101 hg w2 hbox hb;have n0_ := aZ_ (below_step T6_ hb);have n1_ := aZ_ (hbox);have n2_ := aZ_ ((T2_ : w.heap.size ≤ gb101));have n3_ := aZ_ ((T2_ : w.heap.size ≤ gb101));clear HB;have HB := n0_;have BK101 := n1_;have GW101 := n2_;have GE101 := n3_;clear n0_ n1_ n2_ n3_;clear hb hbox hg))
 go_loopg [3] k (fun kq v3 w' => ∃ (x3_1 : Int),v3 = .int .i64 x3_1 ∧ Aside0 (spec_l15Monotone.l0 kq x3_1 a0_0 a0_1 = some r) ∧ Aside0 (kq ≤ k) ∧ Aside0 (w'.heap[gb101]? = some (.cells #[.int .i64 a0_0,.int .i64 a0_1] 25 (0,0))) ∧ Aside0 (Below w.heap.size w w'))
 case atStart => exact ⟨(0),T11_,H',⟨Nat.le_refl _⟩,⟨by (with_reducible repeat (first | refine blk_drewN ?_ _ | refine blk_drew ?_ | refine blk_alloc ?_ _));exact BK101.out⟩,⟨by repeat (first | (with_reducible first | exact HB.out | apply below_alloc | apply pw_below_drewN | apply below_drew1 | refine below_set ?_ GE101.out) | exact HB.out)⟩⟩
 case round =>
  clear H'
  try clear p2
  obtain ⟨x3_1,rfl,HA,HK1,BK101,HB⟩ := hrel
  cases gk with
  | zero => exact absurd HA.out (by simp [spec_l15Monotone.l0])
  | succ k1 =>
   have H := HA.out
   clear HA
   simp only [spec_l15Monotone.l0] at H
   by_cases c3 : x3_1 < a0_0
   ·rw [if_pos c3] at H
    have c3b0 : decide (x3_1 < a0_0) = true := decide_eq_true c3
    clear c3
    replace H := Option.bind_eq_some_iff.mp H
    obtain ⟨⟨t102,t103⟩,A40,H⟩ := H
    replace H : ((spec_l3Restrict.f k1 a0_0 a0_1 x3_1 1).bind fun bt104 => (if (Go.bits .and .i64 t103 bt104.2) = t103 then (spec_l15Monotone.l0 k1 (wrap64 (x3_1 + 1)) a0_0 a0_1) else (some false))) = some r := H
    have A4 := aZ_ A40
    clear A40
    replace H := Option.bind_eq_some_iff.mp H
    obtain ⟨⟨t104,t105⟩,A50,H⟩ := H
    replace H : (if (Go.bits .and .i64 t103 t105) = t103 then (spec_l15Monotone.l0 k1 (wrap64 (x3_1 + 1)) a0_0 a0_1) else (some false)) = some r := H
    have A5 := aZ_ A50
    clear A50
    by_cases c6 : (Go.bits .and .i64 t103 t105) = t103
    ·rw [if_pos c6] at H
     have c6b0 : ((Go.bits .and .i64 t103 t105) == t103) = true := beq_iff_eq.mpr c6
     have c6b1 : ((Go.bits .and .i64 t103 t105) != t103) = false := bne_eq_false_iff_eq.mpr c6
     clear c6
     have H' := aZ_ H
     clear H
     have hcz7_0 : wr.cell? ⟨gb101,0,none⟩ = some (.int .i64 a0_0) := (blk_cell BK101.out 0).trans rfl
     have hcz7_1 : wr.cell? ⟨gb101,1,none⟩ = some (.int .i64 a0_1) := (blk_cell BK101.out 1).trans rfl
     have hfz7_0 := blk_frozen BK101.out 0
     have hfz7_1 := blk_frozen BK101.out 1
     go_wp2_with (first | ((with_reducible refine gate_callee (f := 54) rfl ?_);refine goesL_ (some 14) rfl rfl Try.func54 T21_ rfl #[.agg #[.int .i64 a0_0,.int .i64 a0_1],.int .i64 x3_1,.int .i64 0] rfl T4_ ?_;(with_reducible refine (spec_l3Restrict.calls k1 a0_0 a0_1 x3_1 0 t102 t103 _ A4.out).mono ?_);rintro e w8 ⟨rfl,hb⟩;refine ⟨_,rfl,?_⟩;have n0_ := aZ_ (blk_below (g := gb101) (o := .cells #[.int .i64 a0_0,.int .i64 a0_1] 25 (0,0)) T1_ hb);have n1_ := aZ_ (below_step T3_ hb);clear BK101;clear HB;have BK101 := n0_;have HB := n1_;clear n0_ n1_;(try clear hb);(try clear hb2);(try clear hk);(try clear hi);have hcz9_0 : w8.cell? ⟨gb101,0,none⟩ = some (.int .i64 a0_0) := (blk_cell BK101.out 0).trans rfl;have hcz9_1 : w8.cell? ⟨gb101,1,none⟩ = some (.int .i64 a0_1) := (blk_cell BK101.out 1).trans rfl;have hfz9_0 := blk_frozen BK101.out 0;have hfz9_1 := blk_frozen BK101.out 1) | ((with_reducible refine gate_callee (f := 54) rfl ?_);refine goesL_ (some 18) rfl rfl Try.func54 T21_ rfl #[.agg #[.int .i64 a0_0,.int .i64 a0_1],.int .i64 x3_1,.int .i64 1] rfl T4_ ?_;(with_reducible refine (spec_l3Restrict.calls k1 a0_0 a0_1 x3_1 1 t104 t105 _ A5.out).mono ?_);rintro e w10 ⟨rfl,hb⟩;refine ⟨_,rfl,?_⟩;have n0_ := aZ_ (blk_below (g := gb101) (o := .cells #[.int .i64 a0_0,.int .i64 a0_1] 25 (0,0)) T1_ hb);have n1_ := aZ_ (below_step T3_ hb);clear BK101;clear HB;have BK101 := n0_;have HB := n1_;clear n0_ n1_;(try clear hb);(try clear hb2);(try clear hk);(try clear hi)))
     go_roundg k1
     case measure => have := HK1.out;omega
     case rel => exact ⟨(wrap64 (x3_1 + 1)),T11_,H',⟨by have := HK1.out;omega⟩,⟨by (with_reducible repeat (first | refine blk_drewN ?_ _ | refine blk_drew ?_ | refine blk_alloc ?_ _));exact BK101.out⟩,⟨by repeat (first | (with_reducible first | exact HB.out | apply below_alloc | apply pw_below_drewN | apply below_drew1 | refine below_set ?_ GE101.out) | exact HB.out)⟩⟩
    ·rw [if_neg c6] at H
     have c6b0 : ((Go.bits .and .i64 t103 t105) == t103) = false := beq_eq_false_iff_ne.mpr c6
     have c6b1 : ((Go.bits .and .i64 t103 t105) != t103) = true := bne_iff_ne.mpr c6
     obtain rfl := Option.some.inj H
     have hcz11_0 : wr.cell? ⟨gb101,0,none⟩ = some (.int .i64 a0_0) := (blk_cell BK101.out 0).trans rfl
     have hcz11_1 : wr.cell? ⟨gb101,1,none⟩ = some (.int .i64 a0_1) := (blk_cell BK101.out 1).trans rfl
     have hfz11_0 := blk_frozen BK101.out 0
     have hfz11_1 := blk_frozen BK101.out 1
     go_wp2_with (first | ((with_reducible refine gate_callee (f := 54) rfl ?_);refine goesL_ (some 14) rfl rfl Try.func54 T21_ rfl #[.agg #[.int .i64 a0_0,.int .i64 a0_1],.int .i64 x3_1,.int .i64 0] rfl T4_ ?_;(with_reducible refine (spec_l3Restrict.calls k1 a0_0 a0_1 x3_1 0 t102 t103 _ A4.out).mono ?_);rintro e w12 ⟨rfl,hb⟩;refine ⟨_,rfl,?_⟩;have n0_ := aZ_ (blk_below (g := gb101) (o := .cells #[.int .i64 a0_0,.int .i64 a0_1] 25 (0,0)) T1_ hb);have n1_ := aZ_ (below_step T3_ hb);clear BK101;clear HB;have BK101 := n0_;have HB := n1_;clear n0_ n1_;(try clear hb);(try clear hb2);(try clear hk);(try clear hi);have hcz13_0 : w12.cell? ⟨gb101,0,none⟩ = some (.int .i64 a0_0) := (blk_cell BK101.out 0).trans rfl;have hcz13_1 : w12.cell? ⟨gb101,1,none⟩ = some (.int .i64 a0_1) := (blk_cell BK101.out 1).trans rfl;have hfz13_0 := blk_frozen BK101.out 0;have hfz13_1 := blk_frozen BK101.out 1) | ((with_reducible refine gate_callee (f := 54) rfl ?_);refine goesL_ (some 18) rfl rfl Try.func54 T21_ rfl #[.agg #[.int .i64 a0_0,.int .i64 a0_1],.int .i64 x3_1,.int .i64 1] rfl T4_ ?_;(with_reducible refine (spec_l3Restrict.calls k1 a0_0 a0_1 x3_1 1 t104 t105 _ A5.out).mono ?_);rintro e w14 ⟨rfl,hb⟩;refine ⟨_,rfl,?_⟩;have n0_ := aZ_ (blk_below (g := gb101) (o := .cells #[.int .i64 a0_0,.int .i64 a0_1] 25 (0,0)) T1_ hb);have n1_ := aZ_ (below_step T3_ hb);clear BK101;clear HB;have BK101 := n0_;have HB := n1_;clear n0_ n1_;(try clear hb);(try clear hb2);(try clear hk);(try clear hi)))
     go_ret
     exact ⟨by first | rfl | (simp [errW_none,errW_some] <;> rfl) | (simp [*,errW_none,errW_some] <;> rfl),by repeat (first | (with_reducible first | exact HB.out | apply below_alloc | apply pw_below_drewN | apply below_drew1 | refine below_set ?_ GE101.out) | exact HB.out)⟩
   ·rw [if_neg c3] at H
    have c3b0 : decide (x3_1 < a0_0) = false := decide_eq_false c3
    clear c3
    obtain rfl := Option.some.inj H
    have hcz15_0 : wr.cell? ⟨gb101,0,none⟩ = some (.int .i64 a0_0) := (blk_cell BK101.out 0).trans rfl
    have hcz15_1 : wr.cell? ⟨gb101,1,none⟩ = some (.int .i64 a0_1) := (blk_cell BK101.out 1).trans rfl
    have hfz15_0 := blk_frozen BK101.out 0
    have hfz15_1 := blk_frozen BK101.out 1
    go_wp2
    go_ret
    exact ⟨by first | rfl | (simp [errW_none,errW_some] <;> rfl) | (simp [*,errW_none,errW_some] <;> rfl),by repeat (first | (with_reducible first | exact HB.out | apply below_alloc | apply pw_below_drewN | apply below_drew1 | refine below_set ?_ GE101.out) | exact HB.out)⟩
end Go.Proofs.Ytgojehaneegaeab.F
namespace Go.Proofs.Ytgojehaneegaeab.F
open Go.RowKit Go.Proofs.YtgojehaneegaeabW.PrintWords Go.Proofs.YtgojehaneegaeabW.PrintLast Go.Proofs.YtgojehaneegaeabW.PrintMore
attribute [local go_sem] max2_int min2_int max_two min_two max_three min_three max_four min_four 
set_option linter.unusedVariables false
set_option linter.unusedSimpArgs false
def spec_IsMonotone.f (k : Nat) (a0_0 : Int) (a0_1 : Int) : Option (Bool) := (spec_IsTable.f a0_0 a0_1).bind fun t102 => (if t102 = true then ((spec_l15Monotone.f k a0_0 a0_1).bind fun t103 => (some t103)) else (some false))
set_option maxHeartbeats 8000000 in
set_option maxRecDepth 100000 in
theorem spec_IsMonotone.calls (k : Nat) (a0_0 : Int) (a0_1 : Int) (r : Bool) (w : World) (h : spec_IsMonotone.f k a0_0 a0_1 = some r) :
  Calls Try.prog 9 #[.agg #[.int .i64 a0_0,.int .i64 a0_1]] w fun e w' => e = .returned (.bool r) ∧ Below w.heap.size w w' := by
 have hu25 := Try.underlying25
 have HB := aZ_ (Below.refl w.heap.size w)
 have H : ((spec_IsTable.f a0_0 a0_1).bind fun t102 => (if t102 = true then ((spec_l15Monotone.f k a0_0 a0_1).bind fun t103 => (some t103)) else (some false))) = some r := h
 clear h
 replace H := Option.bind_eq_some_iff.mp H
 obtain ⟨t102,A20,H⟩ := H
 replace H : (if t102 = true then ((spec_l15Monotone.f k a0_0 a0_1).bind fun t103 => (some t103)) else (some false)) = some r := H
 have A2 := aZ_ A20
 clear A20
 by_cases c3 : t102 = true
 ·subst c3
  have H1 : ((spec_l15Monotone.f k a0_0 a0_1).bind fun t103 => (some t103)) = some r := by rw [if_pos rfl] at H;exact H
  clear H
  have H := H1
  clear H1
  replace H := Option.bind_eq_some_iff.mp H
  obtain ⟨t103,A40,H⟩ := H
  replace H : (some t103) = some r := H
  have A4 := aZ_ A40
  clear A40
  obtain rfl := Option.some.inj H
  go_enter Try.func9,Try.ntmps9
  go_wp2_with (first | ((with_reducible refine gate_dst (N := 1) rfl ?_);refine box_event ?hg (N := 1) ?hd (cs := #[.int .i64 a0_0,.int .i64 a0_1]) (t := 25) ?hr ?_;(case hd => rfl);(case hg => rfl);(case hr => first | (go_simp;done) | (go_simp;rfl));intro gb101 hg w5 hbox hb;have n0_ := aZ_ (below_step T6_ hb);have n1_ := aZ_ (hbox);have n2_ := aZ_ ((T2_ : w.heap.size ≤ gb101));have n3_ := aZ_ ((T2_ : w.heap.size ≤ gb101));clear HB;have HB := n0_;have BK101 := n1_;have GW101 := n2_;have GE101 := n3_;clear n0_ n1_ n2_ n3_;clear hb hbox hg;have hcz6_0 : w5.cell? ⟨gb101,0,none⟩ = some (.int .i64 a0_0) := (blk_cell BK101.out 0).trans rfl;have hcz6_1 : w5.cell? ⟨gb101,1,none⟩ = some (.int .i64 a0_1) := (blk_cell BK101.out 1).trans rfl;have hfz6_0 := blk_frozen BK101.out 0;have hfz6_1 := blk_frozen BK101.out 1) | ((with_reducible refine gate_callee (f := 33) rfl ?_);refine goesL_ (some 4) rfl rfl Try.func33 T21_ rfl #[.agg #[.int .i64 a0_0,.int .i64 a0_1]] rfl T4_ ?_;(with_reducible refine (spec_IsTable.calls a0_0 a0_1 true _ A2.out).mono ?_);rintro e w7 ⟨rfl,hb⟩;refine ⟨_,rfl,?_⟩;have n0_ := aZ_ (blk_below (g := gb101) (o := .cells #[.int .i64 a0_0,.int .i64 a0_1] 25 (0,0)) T1_ hb);have n1_ := aZ_ (below_step T3_ hb);clear BK101;clear HB;have BK101 := n0_;have HB := n1_;clear n0_ n1_;(try clear hb);(try clear hb2);(try clear hk);(try clear hi);have hcz8_0 : w7.cell? ⟨gb101,0,none⟩ = some (.int .i64 a0_0) := (blk_cell BK101.out 0).trans rfl;have hcz8_1 : w7.cell? ⟨gb101,1,none⟩ = some (.int .i64 a0_1) := (blk_cell BK101.out 1).trans rfl;have hfz8_0 := blk_frozen BK101.out 0;have hfz8_1 := blk_frozen BK101.out 1) | (go_at_call 34;(with_reducible refine (spec_l15Monotone.calls k a0_0 a0_1 t103 _ A4.out).mono ?_);rintro e w9 ⟨rfl,hb⟩;have n0_ := aZ_ (blk_below (g := gb101) (o := .cells #[.int .i64 a0_0,.int .i64 a0_1] 25 (0,0)) T1_ hb);have n1_ := aZ_ (below_step T3_ hb);clear BK101;clear HB;have BK101 := n0_;have HB := n1_;clear n0_ n1_;(try clear hb);(try clear hb2);(try clear hk);(try clear hi)))
  go_ret
  exact ⟨by first | rfl | (simp [errW_none,errW_some] <;> rfl) | (simp [*,errW_none,errW_some] <;> rfl),by repeat (first | (with_reducible first | exact HB.out | apply below_alloc | apply pw_below_drewN | apply below_drew1 | refine below_set ?_ GE101.out) | exact HB.out)⟩
 ·replace c3 := Bool.eq_false_iff.mpr c3
  subst c3
  have H1 : (some false) = some r := by rw [if_neg (show ¬ (false = true) by decide)] at H;exact H
  clear H
  have H := H1
  clear H1
  obtain rfl := Option.some.inj H
  go_enter Try.func9,Try.ntmps9
  go_wp2_with (first | ((with_reducible refine gate_dst (N := 1) rfl ?_);refine box_event ?hg (N := 1) ?hd (cs := #[.int .i64 a0_0,.int .i64 a0_1]) (t := 25) ?hr ?_;(case hd => rfl);(case hg => rfl);(case hr => first | (go_simp;done) | (go_simp;rfl));intro gb101 hg w10 hbox hb;have n0_ := aZ_ (below_step T6_ hb);have n1_ := aZ_ (hbox);have n2_ := aZ_ ((T2_ : w.heap.size ≤ gb101));have n3_ := aZ_ ((T2_ : w.heap.size ≤ gb101));clear HB;have HB := n0_;have BK101 := n1_;have GW101 := n2_;have GE101 := n3_;clear n0_ n1_ n2_ n3_;clear hb hbox hg;have hcz11_0 : w10.cell? ⟨gb101,0,none⟩ = some (.int .i64 a0_0) := (blk_cell BK101.out 0).trans rfl;have hcz11_1 : w10.cell? ⟨gb101,1,none⟩ = some (.int .i64 a0_1) := (blk_cell BK101.out 1).trans rfl;have hfz11_0 := blk_frozen BK101.out 0;have hfz11_1 := blk_frozen BK101.out 1) | ((with_reducible refine gate_callee (f := 33) rfl ?_);refine goesL_ (some 4) rfl rfl Try.func33 T21_ rfl #[.agg #[.int .i64 a0_0,.int .i64 a0_1]] rfl T4_ ?_;(with_reducible refine (spec_IsTable.calls a0_0 a0_1 false _ A2.out).mono ?_);rintro e w12 ⟨rfl,hb⟩;refine ⟨_,rfl,?_⟩;have n0_ := aZ_ (blk_below (g := gb101) (o := .cells #[.int .i64 a0_0,.int .i64 a0_1] 25 (0,0)) T1_ hb);have n1_ := aZ_ (below_step T3_ hb);clear BK101;clear HB;have BK101 := n0_;have HB := n1_;clear n0_ n1_;(try clear hb);(try clear hb2);(try clear hk);(try clear hi)))
  go_ret
  exact ⟨by first | rfl | (simp [errW_none,errW_some] <;> rfl) | (simp [*,errW_none,errW_some] <;> rfl),by repeat (first | (with_reducible first | exact HB.out | apply below_alloc | apply pw_below_drewN | apply below_drew1 | refine below_set ?_ GE101.out) | exact HB.out)⟩
mutual
def impl_Table_edgePoints.l0 : Nat → Int → Int → List Int → Int → Int → Int → Int → Option (List Int)
 | 0,_,_,_,_,_,_,_ => none
 | k + 1,x1,x2,x7,x12,x13,x102000,x102001 => if x13 < x12 then ((impl_Table_at.f x102000 x102001 x13).bind fun t103 => (impl_Table_edgePoints.l1 k x1 x2 x7 x13 (t103 == x1) x12 x13 x102000 0 x102000 x102001)) else (some x7)
def impl_Table_edgePoints.l1 : Nat → Int → Int → List Int → Int → Bool → Int → Int → Int → Int → Int → Int → Option (List Int)
 | 0,_,_,_,_,_,_,_,_,_,_,_ => none
 | k + 1,x1,x2,x7,x8,x9,x12,x13,x22,x23,x102000,x102001 => if x23 < x22 then (if x9 = true then (if 0 ≤ x23 then (if (Go.bits .and .i64 (shr .i64 x8 x23) 1) = x2 then ((impl_Table_changes.f x102000 x102001 x8 (shl .i64 1 x23)).bind fun t104 => (impl_Table_edgePoints.l1 k x1 x2 x7 x8 t104 x12 x13 x22 (wrap64 (x23 + 1)) x102000 x102001)) else (impl_Table_edgePoints.l1 k x1 x2 x7 x8 true x12 x13 x22 (wrap64 (x23 + 1)) x102000 x102001)) else (none)) else (impl_Table_edgePoints.l1 k x1 x2 x7 x8 false x12 x13 x22 (wrap64 (x23 + 1)) x102000 x102001)) else (if x9 = true then (if x7.length < 17592186044416 then (impl_Table_edgePoints.l0 k x1 x2 (x7 ++ [x8]) x12 (wrap64 (x13 + 1)) x102000 x102001) else (none)) else (impl_Table_edgePoints.l0 k x1 x2 x7 x12 (wrap64 (x13 + 1)) x102000 x102001))
end
def impl_Table_edgePoints.f (k : Nat) (a0_0 : Int) (a0_1 : Int) (a1 : Int) (a2 : Int) : Option (List Int) := (impl_Table_size.f a0_0 a0_1).bind fun t102 => (impl_Table_edgePoints.l0 k a1 a2 ([] : List Int) t102 0 a0_0 a0_1)
def impl_Table_edgePoints.T9 : Bool × List (List Nat × List Nat) := (true,[([],[]),([0],[0]),([1],[1]),([1],[1]),([2,3,1],[1,2,3]),([4,1],[1,4]),([1],[1]),([5,6,1],[1,5,6]),([7,1,1],[1,7]),([8],[8]),([8],[8]),([8],[8]),([11,8],[8,11]),([9,10,12,8,8],[8,9,10,12]),([8,13,1],[1,8,13]),([1,14],[1,14]),([15,13,0,1,2,3,4,5,6,7,8,9,10,11,12,13,14,15],[0,15])])
def impl_Table_edgePoints.B9 : List Nat := [0,1,3,3,15,31,3,127,255,511,511,511,2559,8191,16383,32767,65535]
theorem impl_Table_edgePoints.tab9 : rtab .any (opsOf Try.f32 9) = impl_Table_edgePoints.T9 := by kernel_rfl
theorem impl_Table_edgePoints.bits9 : waitsOk impl_Table_edgePoints.T9.2 impl_Table_edgePoints.B9 = true := by kernel_rfl
set_option maxHeartbeats 8000000 in
set_option maxRecDepth 100000 in
theorem impl_Table_edgePoints.calls (k : Nat) (a0_0 : Int) (a0_1 : Int) (a1 : Int) (a2 : Int) (r : List Int) (w : World) (h : impl_Table_edgePoints.f k a0_0 a0_1 a1 a2 = some r) :
  Calls Try.prog 32 #[.agg #[.int .i64 a0_0,.int .i64 a0_1],.int .i64 a1,.int .i64 a2] w fun e w' => ∃ v0_ : Value,e = .returned (v0_) ∧ Kd.R (Kd.int .i64) 3 w' w.heap.size (fun _ => True) v0_ r ∧ Below w.heap.size w w' := by
 have hu25 := Try.underlying25
 have HB := aZ_ (Below.refl w.heap.size w)
 have H : ((impl_Table_size.f a0_0 a0_1).bind fun t102 => (impl_Table_edgePoints.l0 k a1 a2 ([] : List Int) t102 0 a0_0 a0_1)) = some r := h
 clear h
 replace H := Option.bind_eq_some_iff.mp H
 obtain ⟨t102,A40,H⟩ := H
 replace H : (impl_Table_edgePoints.l0 k a1 a2 ([] : List Int) t102 0 a0_0 a0_1) = some r := H
 have A4 := aZ_ A40
 clear A40
 have H' := aZ_ H
 clear H
 go_enter Try.func32,Try.ntmps32
 go_wp2_with (first | ((with_reducible refine gate_dst (N := 3) rfl ?_);refine box_event ?hg (N := 3) ?hd (cs := #[.int .i64 a0_0,.int .i64 a0_1]) (t := 25) ?hr ?_;(case hd => rfl);(case hg => rfl);(case hr => first | (go_simp;done) | (go_simp;rfl));intro gb101 hg w5 hbox hb;have n0_ := aZ_ (below_step T6_ hb);have n1_ := aZ_ (hbox);have n2_ := aZ_ ((T2_ : w.heap.size ≤ gb101));have n3_ := aZ_ ((T2_ : w.heap.size ≤ gb101));clear HB;have HB := n0_;have BK101 := n1_;have GW101 := n2_;have GE101 := n3_;clear n0_ n1_ n2_ n3_;clear hb hbox hg;have hcz6_0 : w5.cell? ⟨gb101,0,none⟩ = some (.int .i64 a0_0) := (blk_cell BK101.out 0).trans rfl;have hcz6_1 : w5.cell? ⟨gb101,1,none⟩ = some (.int .i64 a0_1) := (blk_cell BK101.out 1).trans rfl;have hfz6_0 := blk_frozen BK101.out 0;have hfz6_1 := blk_frozen BK101.out 1) | ((with_reducible refine gate_callee (f := 50) rfl ?_);refine goesL_ (some 12) rfl rfl Try.func50 T21_ rfl #[.agg #[.int .i64 a0_0,.int .i64 a0_1]] rfl T4_ ?_;(with_reducible refine (impl_Table_size.calls a0_0 a0_1 t102 _ A4.out).mono ?_);rintro e w7 ⟨rfl,hb⟩;refine ⟨_,rfl,?_⟩;have n0_ := aZ_ (blk_below (g := gb101) (o := .cells #[.int .i64 a0_0,.int .i64 a0_1] 25 (0,0)) T1_ hb);have n1_ := aZ_ (below_step T3_ hb);clear BK101;clear HB;have BK101 := n0_;have HB := n1_;clear n0_ n1_;(try clear hb);(try clear hb2);(try clear hk);(try clear hi)))
 go_loopg [7,13] k (fun kq v7 v13 w' => ∃ (x7_1 : List Int) (x13_1 : Int),v13 = .int .i64 x13_1 ∧ Aside0 (impl_Table_edgePoints.l0 kq a1 a2 x7_1 t102 x13_1 a0_0 a0_1 = some r) ∧ Aside0 (kq ≤ k) ∧ Aside0 (Kd.R (Kd.int .i64) 3 w' w.heap.size (fun _ => True) v7 x7_1) ∧ Aside0 (w'.heap[gb101]? = some (.cells #[.int .i64 a0_0,.int .i64 a0_1] 25 (0,0))) ∧ Aside0 (Below w.heap.size w w'))
 case atStart => exact ⟨(([] : List Int)),(0),T11_,H',⟨Nat.le_refl _⟩,⟨by first | exact Kd.R_nil _ _ _ _ _ | exact Kd.N_nil _ _ _ _ _ | exact Kd.V_nil _ _ _ _ _ | exact Kd.Q_nil _ _ _ _ _ | exact Kd.S_nil _ _ _ _ _⟩,⟨by (with_reducible repeat (first | refine blk_drewN ?_ _ | refine blk_drew ?_ | refine blk_alloc ?_ _));exact BK101.out⟩,⟨by repeat (first | (with_reducible first | exact HB.out | apply below_alloc | apply pw_below_drewN | apply below_drew1 | refine below_set ?_ GE101.out) | exact HB.out)⟩⟩
 case round =>
  clear H'
  try clear p2
  try clear c3
  try clear c5
  try clear hcz6_0
  try clear hcz6_1
  try clear hfz6_0
  try clear hfz6_1
  obtain ⟨x7_1,x13_1,rfl,HA,HK1,HO_7,BK101,HB⟩ := hrel
  cases gk with
  | zero => exact absurd HA.out (by simp [impl_Table_edgePoints.l0])
  | succ k1 =>
   have H := HA.out
   clear HA
   simp only [impl_Table_edgePoints.l0] at H
   by_cases c8 : x13_1 < t102
   ·rw [if_pos c8] at H
    have c8b0 : decide (x13_1 < t102) = true := decide_eq_true c8
    clear c8
    replace H := Option.bind_eq_some_iff.mp H
    obtain ⟨t103,A90,H⟩ := H
    replace H : (impl_Table_edgePoints.l1 k1 a1 a2 x7_1 x13_1 (t103 == a1) t102 x13_1 a0_0 0 a0_0 a0_1) = some r := H
    have A9 := aZ_ A90
    clear A90
    have H' := aZ_ H
    clear H
    have hcz10_0 : wr.cell? ⟨gb101,0,none⟩ = some (.int .i64 a0_0) := (blk_cell BK101.out 0).trans rfl
    have hcz10_1 : wr.cell? ⟨gb101,1,none⟩ = some (.int .i64 a0_1) := (blk_cell BK101.out 1).trans rfl
    have hfz10_0 := blk_frozen BK101.out 0
    have hfz10_1 := blk_frozen BK101.out 1
    go_wp2_with (first | ((with_reducible refine gate_callee (f := 52) rfl ?_);refine goesL_ (some 18) rfl rfl Try.func52 T21_ rfl #[.agg #[.int .i64 a0_0,.int .i64 a0_1],.int .i64 x13_1] rfl T4_ ?_;(with_reducible refine (impl_Table_at.calls a0_0 a0_1 x13_1 t103 _ A9.out).mono ?_);rintro e w11 ⟨rfl,hb⟩;refine ⟨_,rfl,?_⟩;have n0_ := aZ_ (Kd.R_below T73_ hb);have n1_ := aZ_ (blk_below (g := gb101) (o := .cells #[.int .i64 a0_0,.int .i64 a0_1] 25 (0,0)) T1_ hb);have n2_ := aZ_ (below_step T3_ hb);clear HO_7;clear BK101;clear HB;have HO_7 := n0_;have BK101 := n1_;have HB := n2_;clear n0_ n1_ n2_;(try clear hb);(try clear hb2);(try clear hk);(try clear hi);have hcz12_0 : w11.cell? ⟨gb101,0,none⟩ = some (.int .i64 a0_0) := (blk_cell BK101.out 0).trans rfl;have hcz12_1 : w11.cell? ⟨gb101,1,none⟩ = some (.int .i64 a0_1) := (blk_cell BK101.out 1).trans rfl;have hfz12_0 := blk_frozen BK101.out 0;have hfz12_1 := blk_frozen BK101.out 1))
    go_loopg [9,23] k1 (fun kq v9 v23 w' => ∃ (x9_2 : Bool) (x23_2 : Int),v9 = .bool x9_2 ∧ v23 = .int .i64 x23_2 ∧ Aside0 (impl_Table_edgePoints.l1 kq a1 a2 x7_1 x13_1 x9_2 t102 x13_1 a0_0 x23_2 a0_0 a0_1 = some r) ∧ Aside0 (kq ≤ k1) ∧ Aside0 (Kd.R (Kd.int .i64) 3 w' w.heap.size (fun _ => True) u7 x7_1) ∧ Aside0 (w'.heap[gb101]? = some (.cells #[.int .i64 a0_0,.int .i64 a0_1] 25 (0,0))) ∧ Aside0 (Below w.heap.size w w'))
    case atStart => exact ⟨((t103 == a1)),(0),T11_,T11_,H',⟨Nat.le_refl _⟩,⟨by (with_reducible repeat (first | apply Kd.R_alloc | apply Kd.R_drewN | apply Kd.R_drew));exact HO_7.out⟩,⟨by (with_reducible repeat (first | refine blk_drewN ?_ _ | refine blk_drew ?_ | refine blk_alloc ?_ _));exact BK101.out⟩,⟨by repeat (first | (with_reducible first | exact HB.out | apply below_alloc | apply pw_below_drewN | apply below_drew1 | refine below_set ?_ GE101.out) | exact HB.out)⟩⟩
    case round =>
     clear H'
     try clear p2
     try clear c3
     try clear c5
     try clear c8
     try clear c8b0
     try clear hcz10_0
     try clear hcz10_1
     try clear hcz12_0
     try clear hcz12_1
     try clear hcz6_0
     try clear hcz6_1
     try clear hfz10_0
     try clear hfz10_1
     try clear hfz12_0
     try clear hfz12_1
     try clear hfz6_0
     try clear hfz6_1
     try clear p2
     obtain ⟨x9_2,x23_2,rfl,rfl,HA,HK2,HO_7,BK101,HB⟩ := hrel
     cases gk with
     | zero => exact absurd HA.out (by simp [impl_Table_edgePoints.l1])
     | succ k2 =>
      have H := HA.out
      clear HA
      simp only [impl_Table_edgePoints.l1] at H
      by_cases c13 : x23_2 < a0_0
      ·rw [if_pos c13] at H
       have c13b0 : decide (x23_2 < a0_0) = true := decide_eq_true c13
       clear c13
       by_cases c14 : x9_2 = true
       ·subst c14
        have H1 : (if 0 ≤ x23_2 then (if (Go.bits .and .i64 (shr .i64 x13_1 x23_2) 1) = a2 then ((impl_Table_changes.f a0_0 a0_1 x13_1 (shl .i64 1 x23_2)).bind fun t104 => (impl_Table_edgePoints.l1 k2 a1 a2 x7_1 x13_1 t104 t102 x13_1 a0_0 (wrap64 (x23_2 + 1)) a0_0 a0_1)) else (impl_Table_edgePoints.l1 k2 a1 a2 x7_1 x13_1 true t102 x13_1 a0_0 (wrap64 (x23_2 + 1)) a0_0 a0_1)) else (none)) = some r := by rw [if_pos rfl] at H;exact H
        clear H
        have H := H1
        clear H1
        by_cases c15 : 0 ≤ x23_2
        ·rw [if_pos c15] at H
         have c15b0 := eq_true c15
         have c15b1 : decide (0 ≤ x23_2) = true := decide_eq_true c15
         clear c15
         obtain ⟨ji16,hji16⟩ : ∃ j_ : Int,(shr .i64 x13_1 x23_2) = j_ := ⟨_,rfl⟩
         replace H : (if (Go.bits .and .i64 (ji16) 1) = a2 then ((impl_Table_changes.f a0_0 a0_1 x13_1 (shl .i64 1 x23_2)).bind fun t104 => (impl_Table_edgePoints.l1 k2 a1 a2 x7_1 x13_1 t104 t102 x13_1 a0_0 (wrap64 (x23_2 + 1)) a0_0 a0_1)) else (impl_Table_edgePoints.l1 k2 a1 a2 x7_1 x13_1 true t102 x13_1 a0_0 (wrap64 (x23_2 + 1)) a0_0 a0_1)) = some r := by first | (rw [hji16] at H;exact H) | (simp only [hji16] at H ⊢;exact H)
         have hji16_ : (x13_1 / 2 ^ min x23_2.toNat 64) = ji16 := hji16
         have hji16z : x23_2 ≤ 64 → (x13_1 / 2 ^ x23_2.toNat) = ji16 := shr_small hji16
         by_cases c17 : (Go.bits .and .i64 (ji16) 1) = a2
         ·rw [if_pos c17] at H
          have c17b0 : ((Go.bits .and .i64 (ji16) 1) == a2) = true := beq_iff_eq.mpr c17
          have c17b1 : ((Go.bits .and .i64 (ji16) 1) != a2) = false := bne_eq_false_iff_eq.mpr c17
          clear c17
          have c18b0 := eq_true (of_decide_eq_true T31_ : 0 ≤ x23_2)
          obtain ⟨ji19,hji19⟩ : ∃ j_ : Int,(shl .i64 1 x23_2) = j_ := ⟨_,rfl⟩
          replace H : ((impl_Table_changes.f a0_0 a0_1 x13_1 (ji19)).bind fun t104 => (impl_Table_edgePoints.l1 k2 a1 a2 x7_1 x13_1 t104 t102 x13_1 a0_0 (wrap64 (x23_2 + 1)) a0_0 a0_1)) = some r := by first | (rw [hji19] at H;exact H) | (simp only [hji19] at H ⊢;exact H)
          have hji19_ : (IntKind.i64.wrap (1 * 2 ^ min x23_2.toNat 64)) = ji19 := hji19
          have hji19z : x23_2 ≤ 64 → (IntKind.i64.wrap (1 * 2 ^ x23_2.toNat)) = ji19 := shl_small hji19
          have hji19u : (IntKind.i64.wrap (2 ^ min x23_2.toNat 64)) = ji19 := by have h_ := hji19_;rw [Int.one_mul] at h_;exact h_
          have hji19v : x23_2 ≤ 64 → (IntKind.i64.wrap (2 ^ x23_2.toNat)) = ji19 := fun hle_ => by have h_ := hji19z hle_;rw [Int.one_mul] at h_;exact h_
          have hji19y : (wrap64 (1 * 2 ^ min x23_2.toNat 64)) = ji19 := (i64_w _).symm.trans hji19_
          have hji19x : x23_2 ≤ 64 → (wrap64 (1 * 2 ^ x23_2.toNat)) = ji19 := fun h_ => (i64_w _).symm.trans (hji19z h_)
          replace H := Option.bind_eq_some_iff.mp H
          obtain ⟨t104,A200,H⟩ := H
          replace H : (impl_Table_edgePoints.l1 k2 a1 a2 x7_1 x13_1 t104 t102 x13_1 a0_0 (wrap64 (x23_2 + 1)) a0_0 a0_1) = some r := H
          have A20 := aZ_ A200
          clear A200
          have H' := aZ_ H
          clear H
          try go_wp2
          have n0_ := aZ_ (Kd.R_drew HO_7.out)
          have n1_ := aZ_ (blk_drew BK101.out)
          have n2_ := aZ_ (below_drew1 HB.out)
          clear HO_7
          clear BK101
          clear HB
          have HO_7 := n0_
          have BK101 := n1_
          have HB := n2_
          clear n0_ n1_ n2_
          refine start_ (n := 17) (S := fun w' => w'.cell? ⟨gb101,0,none⟩ = some (.int .i64 a0_0) ∧ w'.cell? ⟨gb101,1,none⟩ = some (.int .i64 a0_1)) (ds := []) #[false,false,false,false,false,false,false,false,false,false,false,false,false,false,false,false,false] T21_ rfl rfl ⟨(blk_cell BK101.out 0).trans rfl,(blk_cell BK101.out 1).trans rfl⟩ (fun hHeld => ?_);refine with_tabW impl_Table_edgePoints.tab9 impl_Table_edgePoints.bits9 (fun HT_ HW_ => ?_)
          generalize wr.drew = w21 at HO_7 BK101 HB hHeld ⊢
          refine pZ_ 0 (some 26) #[true,false,false,false,false,false,false,false,false,false,false,false,false,false,false,false,false] ?_
          refine pZ_ 1 (some 27) #[true,true,false,false,false,false,false,false,false,false,false,false,false,false,false,false,false] ?_
          refine pZ_ 2 (some 28) #[true,true,true,false,false,false,false,false,false,false,false,false,false,false,false,false,false] ?_
          refine pZ_ 3 (some 29) #[true,true,true,true,false,false,false,false,false,false,false,false,false,false,false,false,false] ?_
          refine pZ_ 4 (some 30) #[true,true,true,true,true,false,false,false,false,false,false,false,false,false,false,false,false] ?_
          refine pZ_ 5 (some 31) #[true,true,true,true,true,true,false,false,false,false,false,false,false,false,false,false,false] ?_
          refine pZ_ 6 (some 32) #[true,true,true,true,true,true,true,false,false,false,false,false,false,false,false,false,false] ?_
          refine pZ_ 7 (some 33) #[true,true,true,true,true,true,true,true,false,false,false,false,false,false,false,false,false] ?_
          refine pZ_ 8 (some 34) #[true,true,true,true,true,true,true,true,true,false,false,false,false,false,false,false,false] ?_
          refine pZ_ 10 (some 36) #[true,true,true,true,true,true,true,true,true,false,true,false,false,false,false,false,false] ?_
          refine pZ_ 11 (some 37) #[true,true,true,true,true,true,true,true,true,false,true,true,false,false,false,false,false] ?_
          refine pZ_ 12 (some 38) #[true,true,true,true,true,true,true,true,true,false,true,true,true,false,false,false,false] ?_
          refine tZ2_ 9 (some 35) #[true,true,true,true,true,true,true,true,true,true,true,true,true,false,false,false,false] hHeld ?_
          refine one_ (i := 13) (N := some 39) #[true,true,true,true,true,true,true,true,true,true,true,true,true,true,false,false,false] rfl rfl (one_of HT_.out T21_) T66_ (fun K hK => ?_)
          refine goes_ Try.func53 T21_ rfl #[.agg #[.int .i64 a0_0,.int .i64 a0_1],.int .i64 x13_1,.int .i64 ji19] (by rfl) rfl rfl (by (try simp only [List.map_toArray,List.map_cons,List.map_nil]);first | done | (simp only [hji19];rfl) | rfl | (simp only [List.length_drop,List.length_take];rfl)) ?_
          with_reducible refine (impl_Table_changes.calls a0_0 a0_1 x13_1 ji19 t104 _ A20.out).mono ?_
          rintro e w22 ⟨rfl,hb⟩
          refine ⟨_,rfl,?_⟩
          have n0_ := aZ_ (Kd.R_below T73_ hb)
          have n1_ := aZ_ (blk_below (g := gb101) (o := .cells #[.int .i64 a0_0,.int .i64 a0_1] 25 (0,0)) T1_ hb)
          have n2_ := aZ_ (below_step T3_ hb)
          clear HO_7
          clear BK101
          clear HB
          have HO_7 := n0_
          have BK101 := n1_
          have HB := n2_
          clear n0_ n1_ n2_
          (try clear hb)
          (try clear hb2)
          (try clear hk)
          (try clear hi)
          refine hK.out _ _ ⟨(blk_cell BK101.out 0).trans rfl,(blk_cell BK101.out 1).trans rfl⟩ (fun hHeld => ?_)
          clear hK K
          refine norm_ (a' := ?_) ?_ ?_
          rotate_left
          ·show Act.put _ (some 39) _ = _
           simp only [Act.put,List.setIfInBounds_toArray,List.set_cons_zero,List.set_cons_succ,i64_w,i32_w]
           rfl
          refine pZ_ 14 (some 40) #[true,true,true,true,true,true,true,true,true,true,true,true,true,true,true,false,false] ?_
          refine pZ_ 15 (some 41) #[true,true,true,true,true,true,true,true,true,true,true,true,true,true,true,true,false] ?_
          refine pZ_ 16 (some 9) #[true,true,true,true,true,true,true,true,true,true,true,true,true,true,true,true,true] ?_
          refine done_ (done_of HT_.out T21_) ?_
          try go_wp2
          go_roundg k2
          case measure => have := HK1.out;have := HK2.out;omega
          case rel => exact ⟨(t104),(wrap64 (x23_2 + 1)),T11_,T11_,H',⟨by have := HK1.out;have := HK2.out;omega⟩,⟨by (with_reducible repeat (first | apply Kd.R_alloc | apply Kd.R_drewN | apply Kd.R_drew));exact HO_7.out⟩,⟨by (with_reducible repeat (first | refine blk_drewN ?_ _ | refine blk_drew ?_ | refine blk_alloc ?_ _));exact BK101.out⟩,⟨by repeat (first | (with_reducible first | exact HB.out | apply below_alloc | apply pw_below_drewN | apply below_drew1 | refine below_set ?_ GE101.out) | exact HB.out)⟩⟩
         ·rw [if_neg c17] at H
          have c17b0 : ((Go.bits .and .i64 (ji16) 1) == a2) = false := beq_eq_false_iff_ne.mpr c17
          have c17b1 : ((Go.bits .and .i64 (ji16) 1) != a2) = true := bne_iff_ne.mpr c17
          have H' := aZ_ H
          clear H
          try go_wp2
          have n0_ := aZ_ (Kd.R_drew HO_7.out)
          have n1_ := aZ_ (blk_drew BK101.out)
          have n2_ := aZ_ (below_drew1 HB.out)
          clear HO_7
          clear BK101
          clear HB
          have HO_7 := n0_
          have BK101 := n1_
          have HB := n2_
          clear n0_ n1_ n2_
          refine start_ (n := 17) (S := fun w' => True) (ds := []) #[false,false,false,false,false,false,false,false,false,false,false,false,false,false,false,false,false] T21_ rfl rfl trivial (fun hHeld => ?_);refine with_tabW impl_Table_edgePoints.tab9 impl_Table_edgePoints.bits9 (fun HT_ HW_ => ?_)
          generalize wr.drew = w23 at HO_7 BK101 HB hHeld ⊢
          refine pZ_ 0 (some 26) #[true,false,false,false,false,false,false,false,false,false,false,false,false,false,false,false,false] ?_
          refine pZ_ 1 (some 27) #[true,true,false,false,false,false,false,false,false,false,false,false,false,false,false,false,false] ?_
          refine pZ_ 2 (some 28) #[true,true,true,false,false,false,false,false,false,false,false,false,false,false,false,false,false] ?_
          refine pZ_ 3 (some 29) #[true,true,true,true,false,false,false,false,false,false,false,false,false,false,false,false,false] ?_
          refine pZ_ 4 (some 30) #[true,true,true,true,true,false,false,false,false,false,false,false,false,false,false,false,false] ?_
          refine pZ_ 5 (some 31) #[true,true,true,true,true,true,false,false,false,false,false,false,false,false,false,false,false] ?_
          refine pZ_ 6 (some 32) #[true,true,true,true,true,true,true,false,false,false,false,false,false,false,false,false,false] ?_
          refine pZ_ 7 (some 33) #[true,true,true,true,true,true,true,true,false,false,false,false,false,false,false,false,false] ?_
          refine pZ_ 8 (some 34) #[true,true,true,true,true,true,true,true,true,false,false,false,false,false,false,false,false] ?_
          refine oZ_ 9 (some 35) #[true,true,true,true,true,true,true,true,true,true,false,false,false,false,false,false,false] ?_
          refine oZ_ 10 (some 36) #[true,true,true,true,true,true,true,true,true,true,true,false,false,false,false,false,false] ?_
          refine oZ_ 11 (some 37) #[true,true,true,true,true,true,true,true,true,true,true,true,false,false,false,false,false] ?_
          refine oZ_ 12 (some 38) #[true,true,true,true,true,true,true,true,true,true,true,true,true,false,false,false,false] ?_
          refine oZ_ 13 (some 39) #[true,true,true,true,true,true,true,true,true,true,true,true,true,true,false,false,false] ?_
          refine pZ_ 14 (some 40) #[true,true,true,true,true,true,true,true,true,true,true,true,true,true,true,false,false] ?_
          refine pZ_ 15 (some 41) #[true,true,true,true,true,true,true,true,true,true,true,true,true,true,true,true,false] ?_
          refine pZ_ 16 (some 9) #[true,true,true,true,true,true,true,true,true,true,true,true,true,true,true,true,true] ?_
          refine done_ (done_of HT_.out T21_) ?_
          try go_wp2
          go_roundg k2
          case measure => have := HK1.out;have := HK2.out;omega
          case rel => exact ⟨(true),(wrap64 (x23_2 + 1)),T11_,T11_,H',⟨by have := HK1.out;have := HK2.out;omega⟩,⟨by (with_reducible repeat (first | apply Kd.R_alloc | apply Kd.R_drewN | apply Kd.R_drew));exact HO_7.out⟩,⟨by (with_reducible repeat (first | refine blk_drewN ?_ _ | refine blk_drew ?_ | refine blk_alloc ?_ _));exact BK101.out⟩,⟨by repeat (first | (with_reducible first | exact HB.out | apply below_alloc | apply pw_below_drewN | apply below_drew1 | refine below_set ?_ GE101.out) | exact HB.out)⟩⟩
        ·rw [if_neg c15] at H
         exact absurd H T67_
       ·replace c14 := Bool.eq_false_iff.mpr c14
        subst c14
        have H1 : (impl_Table_edgePoints.l1 k2 a1 a2 x7_1 x13_1 false t102 x13_1 a0_0 (wrap64 (x23_2 + 1)) a0_0 a0_1) = some r := by rw [if_neg (show ¬ (false = true) by decide)] at H;exact H
        clear H
        have H := H1
        clear H1
        have H' := aZ_ H
        clear H
        try go_wp2
        have n0_ := aZ_ (Kd.R_drew HO_7.out)
        have n1_ := aZ_ (blk_drew BK101.out)
        have n2_ := aZ_ (below_drew1 HB.out)
        clear HO_7
        clear BK101
        clear HB
        have HO_7 := n0_
        have BK101 := n1_
        have HB := n2_
        clear n0_ n1_ n2_
        refine start_ (n := 17) (S := fun w' => True) (ds := []) #[false,false,false,false,false,false,false,false,false,false,false,false,false,false,false,false,false] T21_ rfl rfl trivial (fun hHeld => ?_);refine with_tabW impl_Table_edgePoints.tab9 impl_Table_edgePoints.bits9 (fun HT_ HW_ => ?_)
        generalize wr.drew = w24 at HO_7 BK101 HB hHeld ⊢
        refine pZ_ 0 (some 26) #[true,false,false,false,false,false,false,false,false,false,false,false,false,false,false,false,false] ?_
        refine pZ_ 1 (some 27) #[true,true,false,false,false,false,false,false,false,false,false,false,false,false,false,false,false] ?_
        refine oZ_ 2 (some 28) #[true,true,true,false,false,false,false,false,false,false,false,false,false,false,false,false,false] ?_
        refine oZ_ 3 (some 29) #[true,true,true,true,false,false,false,false,false,false,false,false,false,false,false,false,false] ?_
        refine oZ_ 4 (some 30) #[true,true,true,true,true,false,false,false,false,false,false,false,false,false,false,false,false] ?_
        refine oZ_ 5 (some 31) #[true,true,true,true,true,true,false,false,false,false,false,false,false,false,false,false,false] ?_
        refine oZ_ 6 (some 32) #[true,true,true,true,true,true,true,false,false,false,false,false,false,false,false,false,false] ?_
        refine oZ_ 7 (some 33) #[true,true,true,true,true,true,true,true,false,false,false,false,false,false,false,false,false] ?_
        refine oZ_ 8 (some 34) #[true,true,true,true,true,true,true,true,true,false,false,false,false,false,false,false,false] ?_
        refine oZ_ 9 (some 35) #[true,true,true,true,true,true,true,true,true,true,false,false,false,false,false,false,false] ?_
        refine oZ_ 10 (some 36) #[true,true,true,true,true,true,true,true,true,true,true,false,false,false,false,false,false] ?_
        refine oZ_ 11 (some 37) #[true,true,true,true,true,true,true,true,true,true,true,true,false,false,false,false,false] ?_
        refine oZ_ 12 (some 38) #[true,true,true,true,true,true,true,true,true,true,true,true,true,false,false,false,false] ?_
        refine oZ_ 13 (some 39) #[true,true,true,true,true,true,true,true,true,true,true,true,true,true,false,false,false] ?_
        refine oZ_ 14 (some 40) #[true,true,true,true,true,true,true,true,true,true,true,true,true,true,true,false,false] ?_
        refine pZ_ 15 (some 41) #[true,true,true,true,true,true,true,true,true,true,true,true,true,true,true,true,false] ?_
        refine pZ_ 16 (some 9) #[true,true,true,true,true,true,true,true,true,true,true,true,true,true,true,true,true] ?_
        refine done_ (done_of HT_.out T21_) ?_
        try go_wp2
        go_roundg k2
        case measure => have := HK1.out;have := HK2.out;omega
        case rel => exact ⟨(false),(wrap64 (x23_2 + 1)),T11_,T11_,H',⟨by have := HK1.out;have := HK2.out;omega⟩,⟨by (with_reducible repeat (first | apply Kd.R_alloc | apply Kd.R_drewN | apply Kd.R_drew));exact HO_7.out⟩,⟨by (with_reducible repeat (first | refine blk_drewN ?_ _ | refine blk_drew ?_ | refine blk_alloc ?_ _));exact BK101.out⟩,⟨by repeat (first | (with_reducible first | exact HB.out | apply below_alloc | apply pw_below_drewN | apply below_drew1 | refine below_set ?_ GE101.out) | exact HB.out)⟩⟩
      ·rw [if_neg c13] at H
       have c13b0 : decide (x23_2 < a0_0) = false := decide_eq_false c13
       clear c13
       by_cases c25 : x9_2 = true
       ·subst c25
        have H1 : (if x7_1.length < 17592186044416 then (impl_Table_edgePoints.l0 k2 a1 a2 (x7_1 ++ [x13_1]) t102 (wrap64 (x13_1 + 1)) a0_0 a0_1) else (none)) = some r := by rw [if_pos rfl] at H;exact H
        clear H
        have H := H1
        clear H1
        by_cases c26 : x7_1.length < 17592186044416
        ·rw [if_pos c26] at H
         have LMc26 := aZ_ c26
         clear c26
         obtain ⟨y105,hy105⟩ : ∃ y_ : List Int,y_ = (x7_1 ++ [x13_1]) := ⟨_,rfl⟩
         replace H : (impl_Table_edgePoints.l0 k2 a1 a2 y105 t102 (wrap64 (x13_1 + 1)) a0_0 a0_1) = some r := by first | (rw [hy105];with_reducible exact H) | (have H2_ := (Option.bind_some _ _).symm.trans H;rw [hy105];with_reducible exact H2_) | (have H2_ := (Option.bind_some _ _).symm.trans H;with_reducible exact H2_) | with_reducible exact H | (rw [hy105];exact H) | exact H
         have Ny105 := aZ_ hy105
         clear hy105
         have H' := aZ_ H
         clear H
         go_wp2_with (first | ((with_reducible refine gate_builtin (b := .append) (xs := #[.tmp 44,.tmp 46]) rfl ?_);at_builtin;refine Kd.R_append (Kd.int .i64) (w0 := w) w.heap.size rfl (.tmp 44) (.tmp 46) 28 3 (.int .i64 0) 8 rfl Try.underlying28 info3 rfl T66_ T74_ u7 x7_1 x13_1 [.int .i64 x13_1] (fun _ => True) (fun _ => False) rfl rfl ?aP (fun _ hk => hk.elim) ?aF ?aO ?aB ?aS ?aL ?_;(case aP => exact rfl);(case aB => exact T3_);(case aF => exact (fun _ _ => trivial));(case aO => exact T73_);(case aS => exact (below_size T3_));(case aL => have := LMc26.out;omega);intro v106 w27 ho hb hg hat;rw [← Ny105.out] at ho;have n0_ := aZ_ (blk_grown (g := gb101) (o := .cells #[.int .i64 a0_0,.int .i64 a0_1] 25 (0,0)) T1_ hg (Kd.R_ne HO_7.out BK101.out T66_));have n1_ := aZ_ (hb);have n2_ := aZ_ (ho);clear BK101;clear HB;clear HO_7;have BK101 := n0_;have HB := n1_;have HO107 := n2_;clear n0_ n1_ n2_;clear ho hb hg hat))
         go_roundg k2
         case measure => have := HK1.out;have := HK2.out;omega
         case rel => exact ⟨(y105),(wrap64 (x13_1 + 1)),T11_,H',⟨by have := HK1.out;have := HK2.out;omega⟩,⟨by (with_reducible repeat (first | apply Kd.R_alloc | apply Kd.R_drewN | apply Kd.R_drew));exact HO107.out⟩,⟨by (with_reducible repeat (first | refine blk_drewN ?_ _ | refine blk_drew ?_ | refine blk_alloc ?_ _));exact BK101.out⟩,⟨by repeat (first | (with_reducible first | exact HB.out | apply below_alloc | apply pw_below_drewN | apply below_drew1 | refine below_set ?_ GE101.out) | exact HB.out)⟩⟩
        ·rw [if_neg c26] at H
         exact absurd H T67_
       ·replace c25 := Bool.eq_false_iff.mpr c25
        subst c25
        have H1 : (impl_Table_edgePoints.l0 k2 a1 a2 x7_1 t102 (wrap64 (x13_1 + 1)) a0_0 a0_1) = some r := by rw [if_neg (show ¬ (false = true) by decide)] at H;exact H
        clear H
        have H := H1
        clear H1
        have H' := aZ_ H
        clear H
        go_wp2
        go_roundg k2
        case measure => have := HK1.out;have := HK2.out;omega
        case rel => exact ⟨(x7_1),(wrap64 (x13_1 + 1)),T11_,H',⟨by have := HK1.out;have := HK2.out;omega⟩,⟨by (with_reducible repeat (first | apply Kd.R_alloc | apply Kd.R_drewN | apply Kd.R_drew));exact HO_7.out⟩,⟨by (with_reducible repeat (first | refine blk_drewN ?_ _ | refine blk_drew ?_ | refine blk_alloc ?_ _));exact BK101.out⟩,⟨by repeat (first | (with_reducible first | exact HB.out | apply below_alloc | apply pw_below_drewN | apply below_drew1 | refine below_set ?_ GE101.out) | exact HB.out)⟩⟩
   ·rw [if_neg c8] at H
    have c8b0 : decide (x13_1 < t102) = false := decide_eq_false c8
    clear c8
    obtain rfl := Option.some.inj H
    go_wp2
    go_ret
    exact ⟨_,by first | rfl | (simp [errW_none,errW_some] <;> rfl) | (simp [*,errW_none,errW_some] <;> rfl),by (with_reducible repeat (first | apply Kd.R_alloc | apply Kd.R_drewN | apply Kd.R_drew));exact HO_7.out,by repeat (first | (with_reducible first | exact HB.out | apply below_alloc | apply pw_below_drewN | apply below_drew1 | refine below_set ?_ GE101.out) | exact HB.out)⟩
def impl_MinimalPoints.f (k : Nat) (a0_0 : Int) (a0_1 : Int) : Option (List Int) := (impl_IsTable.f a0_0 a0_1).bind fun t102 => (if t102 = true then ((impl_Table_edgePoints.f k a0_0 a0_1 1 1).bind fun t103 => (some t103)) else (some ([] : List Int)))
set_option maxHeartbeats 8000000 in
set_option maxRecDepth 100000 in
theorem impl_MinimalPoints.calls (k : Nat) (a0_0 : Int) (a0_1 : Int) (r : List Int) (w : World) (h : impl_MinimalPoints.f k a0_0 a0_1 = some r) :
  Calls Try.prog 7 #[.agg #[.int .i64 a0_0,.int .i64 a0_1]] w fun e w' => ∃ v0_ : Value,e = .returned (v0_) ∧ Kd.R (Kd.int .i64) 3 w' w.heap.size (fun _ => True) v0_ r ∧ Below w.heap.size w w' := by
 have hu25 := Try.underlying25
 have HB := aZ_ (Below.refl w.heap.size w)
 have H : ((impl_IsTable.f a0_0 a0_1).bind fun t102 => (if t102 = true then ((impl_Table_edgePoints.f k a0_0 a0_1 1 1).bind fun t103 => (some t103)) else (some ([] : List Int)))) = some r := h
 clear h
 replace H := Option.bind_eq_some_iff.mp H
 obtain ⟨t102,A20,H⟩ := H
 replace H : (if t102 = true then ((impl_Table_edgePoints.f k a0_0 a0_1 1 1).bind fun t103 => (some t103)) else (some ([] : List Int))) = some r := H
 have A2 := aZ_ A20
 clear A20
 by_cases c3 : t102 = true
 ·subst c3
  have H1 : ((impl_Table_edgePoints.f k a0_0 a0_1 1 1).bind fun t103 => (some t103)) = some r := by rw [if_pos rfl] at H;exact H
  clear H
  have H := H1
  clear H1
  replace H := Option.bind_eq_some_iff.mp H
  obtain ⟨t103,A40,H⟩ := H
  replace H : (some t103) = some r := H
  have A4 := aZ_ A40
  clear A40
  obtain rfl := Option.some.inj H
  go_enter Try.func7,Try.ntmps7
  go_wp2_with (first | ((with_reducible refine gate_dst (N := 1) rfl ?_);refine box_event ?hg (N := 1) ?hd (cs := #[.int .i64 a0_0,.int .i64 a0_1]) (t := 25) ?hr ?_;(case hd => rfl);(case hg => rfl);(case hr => first | (go_simp;done) | (go_simp;rfl));intro gb101 hg w5 hbox hb;have n0_ := aZ_ (below_step T6_ hb);have n1_ := aZ_ (hbox);have n2_ := aZ_ ((T2_ : w.heap.size ≤ gb101));have n3_ := aZ_ ((T2_ : w.heap.size ≤ gb101));clear HB;have HB := n0_;have BK101 := n1_;have GW101 := n2_;have GE101 := n3_;clear n0_ n1_ n2_ n3_;clear hb hbox hg;have hcz6_0 : w5.cell? ⟨gb101,0,none⟩ = some (.int .i64 a0_0) := (blk_cell BK101.out 0).trans rfl;have hcz6_1 : w5.cell? ⟨gb101,1,none⟩ = some (.int .i64 a0_1) := (blk_cell BK101.out 1).trans rfl;have hfz6_0 := blk_frozen BK101.out 0;have hfz6_1 := blk_frozen BK101.out 1) | ((with_reducible refine gate_callee (f := 30) rfl ?_);refine goesL_ (some 4) rfl rfl Try.func30 T21_ rfl #[.agg #[.int .i64 a0_0,.int .i64 a0_1]] rfl T4_ ?_;(with_reducible refine (impl_IsTable.calls a0_0 a0_1 true _ A2.out).mono ?_);rintro e w7 ⟨rfl,hb⟩;refine ⟨_,rfl,?_⟩;have n0_ := aZ_ (blk_below (g := gb101) (o := .cells #[.int .i64 a0_0,.int .i64 a0_1] 25 (0,0)) T1_ hb);have n1_ := aZ_ (below_step T3_ hb);clear BK101;clear HB;have BK101 := n0_;have HB := n1_;clear n0_ n1_;(try clear hb);(try clear hb2);(try clear hk);(try clear hi);have hcz8_0 : w7.cell? ⟨gb101,0,none⟩ = some (.int .i64 a0_0) := (blk_cell BK101.out 0).trans rfl;have hcz8_1 : w7.cell? ⟨gb101,1,none⟩ = some (.int .i64 a0_1) := (blk_cell BK101.out 1).trans rfl;have hfz8_0 := blk_frozen BK101.out 0;have hfz8_1 := blk_frozen BK101.out 1) | ((with_reducible refine gate_callee (f := 32) rfl ?_);refine goesL_ (some 7) rfl rfl Try.func32 T21_ rfl #[.agg #[.int .i64 a0_0,.int .i64 a0_1],.int .i64 1,.int .i64 1] rfl T4_ ?_;(with_reducible refine (impl_Table_edgePoints.calls k a0_0 a0_1 1 1 t103 _ A4.out).mono ?_);rintro e w9 ⟨v104,rfl,ho0,hb⟩;refine ⟨_,rfl,?_⟩;have n0_ := aZ_ (Kd.R_lower ho0 (below_size T3_));have n1_ := aZ_ (blk_below (g := gb101) (o := .cells #[.int .i64 a0_0,.int .i64 a0_1] 25 (0,0)) T1_ hb);have n2_ := aZ_ (below_step T3_ hb);clear BK101;clear HB;have HO105 := n0_;have BK101 := n1_;have HB := n2_;clear n0_ n1_ n2_;(try clear hb);(try clear hb2);(try clear hk);(try clear hi);(try clear ho0)))
  go_ret
  exact ⟨_,by first | rfl | (simp [errW_none,errW_some] <;> rfl) | (simp [*,errW_none,errW_some] <;> rfl),by (with_reducible repeat (first | apply Kd.R_alloc | apply Kd.R_drewN | apply Kd.R_drew));exact HO105.out,by repeat (first | (with_reducible first | exact HB.out | apply below_alloc | apply pw_below_drewN | apply below_drew1 | refine below_set ?_ GE101.out) | exact HB.out)⟩
 ·replace c3 := Bool.eq_false_iff.mpr c3
  subst c3
  have H1 : (some ([] : List Int)) = some r := by rw [if_neg (show ¬ (false = true) by decide)] at H;exact H
  clear H
  have H := H1
  clear H1
  obtain rfl := Option.some.inj H
  go_enter Try.func7,Try.ntmps7
  go_wp2_with (first | ((with_reducible refine gate_dst (N := 1) rfl ?_);refine box_event ?hg (N := 1) ?hd (cs := #[.int .i64 a0_0,.int .i64 a0_1]) (t := 25) ?hr ?_;(case hd => rfl);(case hg => rfl);(case hr => first | (go_simp;done) | (go_simp;rfl));intro gb101 hg w10 hbox hb;have n0_ := aZ_ (below_step T6_ hb);have n1_ := aZ_ (hbox);have n2_ := aZ_ ((T2_ : w.heap.size ≤ gb101));have n3_ := aZ_ ((T2_ : w.heap.size ≤ gb101));clear HB;have HB := n0_;have BK101 := n1_;have GW101 := n2_;have GE101 := n3_;clear n0_ n1_ n2_ n3_;clear hb hbox hg;have hcz11_0 : w10.cell? ⟨gb101,0,none⟩ = some (.int .i64 a0_0) := (blk_cell BK101.out 0).trans rfl;have hcz11_1 : w10.cell? ⟨gb101,1,none⟩ = some (.int .i64 a0_1) := (blk_cell BK101.out 1).trans rfl;have hfz11_0 := blk_frozen BK101.out 0;have hfz11_1 := blk_frozen BK101.out 1) | ((with_reducible refine gate_callee (f := 30) rfl ?_);refine goesL_ (some 4) rfl rfl Try.func30 T21_ rfl #[.agg #[.int .i64 a0_0,.int .i64 a0_1]] rfl T4_ ?_;(with_reducible refine (impl_IsTable.calls a0_0 a0_1 false _ A2.out).mono ?_);rintro e w12 ⟨rfl,hb⟩;refine ⟨_,rfl,?_⟩;have n0_ := aZ_ (blk_below (g := gb101) (o := .cells #[.int .i64 a0_0,.int .i64 a0_1] 25 (0,0)) T1_ hb);have n1_ := aZ_ (below_step T3_ hb);clear BK101;clear HB;have BK101 := n0_;have HB := n1_;clear n0_ n1_;(try clear hb);(try clear hb2);(try clear hk);(try clear hi)))
  go_ret
  exact ⟨_,by first | rfl | (simp [errW_none,errW_some] <;> rfl) | (simp [*,errW_none,errW_some] <;> rfl),by first | exact Kd.R_nil _ _ _ _ _ | exact Kd.N_nil _ _ _ _ _ | exact Kd.V_nil _ _ _ _ _ | exact Kd.Q_nil _ _ _ _ _ | exact Kd.S_nil _ _ _ _ _,by repeat (first | (with_reducible first | exact HB.out | apply below_alloc | apply pw_below_drewN | apply below_drew1 | refine below_set ?_ GE101.out) | exact HB.out)⟩
def impl_MaximalZeros.f (k : Nat) (a0_0 : Int) (a0_1 : Int) : Option (List Int) := (impl_IsTable.f a0_0 a0_1).bind fun t102 => (if t102 = true then ((impl_Table_edgePoints.f k a0_0 a0_1 0 0).bind fun t103 => (some t103)) else (some ([] : List Int)))
set_option maxHeartbeats 8000000 in
set_option maxRecDepth 100000 in
theorem impl_MaximalZeros.calls (k : Nat) (a0_0 : Int) (a0_1 : Int) (r : List Int) (w : World) (h : impl_MaximalZeros.f k a0_0 a0_1 = some r) :
  Calls Try.prog 8 #[.agg #[.int .i64 a0_0,.int .i64 a0_1]] w fun e w' => ∃ v0_ : Value,e = .returned (v0_) ∧ Kd.R (Kd.int .i64) 3 w' w.heap.size (fun _ => True) v0_ r ∧ Below w.heap.size w w' := by
 have hu25 := Try.underlying25
 have HB := aZ_ (Below.refl w.heap.size w)
 have H : ((impl_IsTable.f a0_0 a0_1).bind fun t102 => (if t102 = true then ((impl_Table_edgePoints.f k a0_0 a0_1 0 0).bind fun t103 => (some t103)) else (some ([] : List Int)))) = some r := h
 clear h
 replace H := Option.bind_eq_some_iff.mp H
 obtain ⟨t102,A20,H⟩ := H
 replace H : (if t102 = true then ((impl_Table_edgePoints.f k a0_0 a0_1 0 0).bind fun t103 => (some t103)) else (some ([] : List Int))) = some r := H
 have A2 := aZ_ A20
 clear A20
 by_cases c3 : t102 = true
 ·subst c3
  have H1 : ((impl_Table_edgePoints.f k a0_0 a0_1 0 0).bind fun t103 => (some t103)) = some r := by rw [if_pos rfl] at H;exact H
  clear H
  have H := H1
  clear H1
  replace H := Option.bind_eq_some_iff.mp H
  obtain ⟨t103,A40,H⟩ := H
  replace H : (some t103) = some r := H
  have A4 := aZ_ A40
  clear A40
  obtain rfl := Option.some.inj H
  go_enter Try.func8,Try.ntmps8
  go_wp2_with (first | ((with_reducible refine gate_dst (N := 1) rfl ?_);refine box_event ?hg (N := 1) ?hd (cs := #[.int .i64 a0_0,.int .i64 a0_1]) (t := 25) ?hr ?_;(case hd => rfl);(case hg => rfl);(case hr => first | (go_simp;done) | (go_simp;rfl));intro gb101 hg w5 hbox hb;have n0_ := aZ_ (below_step T6_ hb);have n1_ := aZ_ (hbox);have n2_ := aZ_ ((T2_ : w.heap.size ≤ gb101));have n3_ := aZ_ ((T2_ : w.heap.size ≤ gb101));clear HB;have HB := n0_;have BK101 := n1_;have GW101 := n2_;have GE101 := n3_;clear n0_ n1_ n2_ n3_;clear hb hbox hg;have hcz6_0 : w5.cell? ⟨gb101,0,none⟩ = some (.int .i64 a0_0) := (blk_cell BK101.out 0).trans rfl;have hcz6_1 : w5.cell? ⟨gb101,1,none⟩ = some (.int .i64 a0_1) := (blk_cell BK101.out 1).trans rfl;have hfz6_0 := blk_frozen BK101.out 0;have hfz6_1 := blk_frozen BK101.out 1) | ((with_reducible refine gate_callee (f := 30) rfl ?_);refine goesL_ (some 4) rfl rfl Try.func30 T21_ rfl #[.agg #[.int .i64 a0_0,.int .i64 a0_1]] rfl T4_ ?_;(with_reducible refine (impl_IsTable.calls a0_0 a0_1 true _ A2.out).mono ?_);rintro e w7 ⟨rfl,hb⟩;refine ⟨_,rfl,?_⟩;have n0_ := aZ_ (blk_below (g := gb101) (o := .cells #[.int .i64 a0_0,.int .i64 a0_1] 25 (0,0)) T1_ hb);have n1_ := aZ_ (below_step T3_ hb);clear BK101;clear HB;have BK101 := n0_;have HB := n1_;clear n0_ n1_;(try clear hb);(try clear hb2);(try clear hk);(try clear hi);have hcz8_0 : w7.cell? ⟨gb101,0,none⟩ = some (.int .i64 a0_0) := (blk_cell BK101.out 0).trans rfl;have hcz8_1 : w7.cell? ⟨gb101,1,none⟩ = some (.int .i64 a0_1) := (blk_cell BK101.out 1).trans rfl;have hfz8_0 := blk_frozen BK101.out 0;have hfz8_1 := blk_frozen BK101.out 1) | ((with_reducible refine gate_callee (f := 32) rfl ?_);refine goesL_ (some 7) rfl rfl Try.func32 T21_ rfl #[.agg #[.int .i64 a0_0,.int .i64 a0_1],.int .i64 0,.int .i64 0] rfl T4_ ?_;(with_reducible refine (impl_Table_edgePoints.calls k a0_0 a0_1 0 0 t103 _ A4.out).mono ?_);rintro e w9 ⟨v104,rfl,ho0,hb⟩;refine ⟨_,rfl,?_⟩;have n0_ := aZ_ (Kd.R_lower ho0 (below_size T3_));have n1_ := aZ_ (blk_below (g := gb101) (o := .cells #[.int .i64 a0_0,.int .i64 a0_1] 25 (0,0)) T1_ hb);have n2_ := aZ_ (below_step T3_ hb);clear BK101;clear HB;have HO105 := n0_;have BK101 := n1_;have HB := n2_;clear n0_ n1_ n2_;(try clear hb);(try clear hb2);(try clear hk);(try clear hi);(try clear ho0)))
  go_ret
  exact ⟨_,by first | rfl | (simp [errW_none,errW_some] <;> rfl) | (simp [*,errW_none,errW_some] <;> rfl),by (with_reducible repeat (first | apply Kd.R_alloc | apply Kd.R_drewN | apply Kd.R_drew));exact HO105.out,by repeat (first | (with_reducible first | exact HB.out | apply below_alloc | apply pw_below_drewN | apply below_drew1 | refine below_set ?_ GE101.out) | exact HB.out)⟩
 ·replace c3 := Bool.eq_false_iff.mpr c3
  subst c3
  have H1 : (some ([] : List Int)) = some r := by rw [if_neg (show ¬ (false = true) by decide)] at H;exact H
  clear H
  have H := H1
  clear H1
  obtain rfl := Option.some.inj H
  go_enter Try.func8,Try.ntmps8
  go_wp2_with (first | ((with_reducible refine gate_dst (N := 1) rfl ?_);refine box_event ?hg (N := 1) ?hd (cs := #[.int .i64 a0_0,.int .i64 a0_1]) (t := 25) ?hr ?_;(case hd => rfl);(case hg => rfl);(case hr => first | (go_simp;done) | (go_simp;rfl));intro gb101 hg w10 hbox hb;have n0_ := aZ_ (below_step T6_ hb);have n1_ := aZ_ (hbox);have n2_ := aZ_ ((T2_ : w.heap.size ≤ gb101));have n3_ := aZ_ ((T2_ : w.heap.size ≤ gb101));clear HB;have HB := n0_;have BK101 := n1_;have GW101 := n2_;have GE101 := n3_;clear n0_ n1_ n2_ n3_;clear hb hbox hg;have hcz11_0 : w10.cell? ⟨gb101,0,none⟩ = some (.int .i64 a0_0) := (blk_cell BK101.out 0).trans rfl;have hcz11_1 : w10.cell? ⟨gb101,1,none⟩ = some (.int .i64 a0_1) := (blk_cell BK101.out 1).trans rfl;have hfz11_0 := blk_frozen BK101.out 0;have hfz11_1 := blk_frozen BK101.out 1) | ((with_reducible refine gate_callee (f := 30) rfl ?_);refine goesL_ (some 4) rfl rfl Try.func30 T21_ rfl #[.agg #[.int .i64 a0_0,.int .i64 a0_1]] rfl T4_ ?_;(with_reducible refine (impl_IsTable.calls a0_0 a0_1 false _ A2.out).mono ?_);rintro e w12 ⟨rfl,hb⟩;refine ⟨_,rfl,?_⟩;have n0_ := aZ_ (blk_below (g := gb101) (o := .cells #[.int .i64 a0_0,.int .i64 a0_1] 25 (0,0)) T1_ hb);have n1_ := aZ_ (below_step T3_ hb);clear BK101;clear HB;have BK101 := n0_;have HB := n1_;clear n0_ n1_;(try clear hb);(try clear hb2);(try clear hk);(try clear hi)))
  go_ret
  exact ⟨_,by first | rfl | (simp [errW_none,errW_some] <;> rfl) | (simp [*,errW_none,errW_some] <;> rfl),by first | exact Kd.R_nil _ _ _ _ _ | exact Kd.N_nil _ _ _ _ _ | exact Kd.V_nil _ _ _ _ _ | exact Kd.Q_nil _ _ _ _ _ | exact Kd.S_nil _ _ _ _ _,by repeat (first | (with_reducible first | exact HB.out | apply below_alloc | apply pw_below_drewN | apply below_drew1 | refine below_set ?_ GE101.out) | exact HB.out)⟩
end Go.Proofs.Ytgojehaneegaeab.F
