/- Walks of Go functions and lemmas on what they compute, for the row of FnMonotone (a part of several): each call ends as the Lean function of its name tells; the conditions are those of each theorem. -/
import Derived.Test.YtgojehaneegaeabM1FnMonotone
import Derived.Test.YtgojehaneegaeabM2FnMonotone
import Derived.Test.YtgojehaneegaeabM3FnMonotone
import Derived.Test.YtgojehaneegaeabM4FnMonotone
import Derived.Test.YtgojehaneegaeabM5FnMonotone
import Derived.Test.YtgojehaneegaeabM9FnMonotone
namespace Go.Proofs.Ytgojehaneegaeab.F
open Go.RowKit Go.Proofs.YtgojehaneegaeabW.PrintWords Go.Proofs.YtgojehaneegaeabW.PrintLast Go.Proofs.YtgojehaneegaeabW.PrintMore
attribute [local go_sem] max2_int min2_int max_two min_two max_three min_three max_four min_four 
set_option linter.unusedVariables false
set_option linter.unusedSimpArgs false
def spec_DualTable.f (k : Nat) (a0_0 : Int) (a0_1 : Int) : Option (Int × Int × Bool) := (spec_IsTable.f a0_0 a0_1).bind fun t103 => (if t103 = true then (if 0 ≤ a0_0 then ((spec_l3Shift.f k a0_0 a0_1 (wrap64 ((shl .i64 1 a0_0) - 1))).bind fun bt104 => ((spec_l2Full.f a0_0).bind fun t107 => (some (a0_0,wrap64 (t107 - bt104.2),true)))) else (none)) else (some (0,0,false)))
def spec_DualTable.T3 : Bool × List (List Nat × List Nat) := (true,[([],[]),([],[]),([1],[1]),([2],[2]),([3],[3]),([0,4],[0,4]),([],[]),([6,5,5,0,1,2,3,4,5,6],[5,6])])
def spec_DualTable.B3 : List Nat := [0,0,2,6,14,31,0,127]
theorem spec_DualTable.tab3 : rtab .any (opsOf Try.f14 3) = spec_DualTable.T3 := by kernel_rfl
theorem spec_DualTable.bits3 : waitsOk spec_DualTable.T3.2 spec_DualTable.B3 = true := by kernel_rfl
def spec_DualTable.T4 : Bool × List (List Nat × List Nat) := (true,[([],[]),([0],[0]),([],[]),([2],[2]),([3],[3]),([],[]),([5],[5]),([4,6],[4,6]),([1,7],[1,7]),([8,4,0,1,2,3,4,5,6,7,8],[8]),([9,0,1,2,3,4,5,6,7,8,9],[])])
def spec_DualTable.B4 : List Nat := [0,1,0,4,12,0,32,124,255,511,1023]
theorem spec_DualTable.tab4 : rtab .any (opsOf Try.f14 4) = spec_DualTable.T4 := by kernel_rfl
theorem spec_DualTable.bits4 : waitsOk spec_DualTable.T4.2 spec_DualTable.B4 = true := by kernel_rfl
set_option maxHeartbeats 8000000 in
set_option maxRecDepth 100000 in
theorem spec_DualTable.calls (k : Nat) (a0_0 : Int) (a0_1 : Int) (r1 : Int) (r2 : Int) (r3 : Bool) (w : World) (h : spec_DualTable.f k a0_0 a0_1 = some (r1,r2,r3)) :
  Calls Try.prog 14 #[.agg #[.int .i64 a0_0,.int .i64 a0_1]] w fun e w' => e = .returned (.tuple #[.agg #[.int .i64 r1,.int .i64 r2],.bool r3]) ∧ Below w.heap.size w w' := by
 have hu25 := Try.underlying25
 have HB := aZ_ (Below.refl w.heap.size w)
 have H : ((spec_IsTable.f a0_0 a0_1).bind fun t103 => (if t103 = true then (if 0 ≤ a0_0 then ((spec_l3Shift.f k a0_0 a0_1 (wrap64 ((shl .i64 1 a0_0) - 1))).bind fun bt104 => ((spec_l2Full.f a0_0).bind fun t107 => (some (a0_0,wrap64 (t107 - bt104.2),true)))) else (none)) else (some (0,0,false)))) = some (r1,r2,r3) := h
 clear h
 replace H := Option.bind_eq_some_iff.mp H
 obtain ⟨t103,A20,H⟩ := H
 replace H : (if t103 = true then (if 0 ≤ a0_0 then ((spec_l3Shift.f k a0_0 a0_1 (wrap64 ((shl .i64 1 a0_0) - 1))).bind fun bt104 => ((spec_l2Full.f a0_0).bind fun t107 => (some (a0_0,wrap64 (t107 - bt104.2),true)))) else (none)) else (some (0,0,false))) = some (r1,r2,r3) := H
 have A2 := aZ_ A20
 clear A20
 by_cases c3 : t103 = true
 ·subst c3
  have H1 : (if 0 ≤ a0_0 then ((spec_l3Shift.f k a0_0 a0_1 (wrap64 ((shl .i64 1 a0_0) - 1))).bind fun bt104 => ((spec_l2Full.f a0_0).bind fun t107 => (some (a0_0,wrap64 (t107 - bt104.2),true)))) else (none)) = some (r1,r2,r3) := by rw [if_pos rfl] at H;exact H
  clear H
  have H := H1
  clear H1
  by_cases c4 : 0 ≤ a0_0
  ·rw [if_pos c4] at H
   have c4b0 := eq_true c4
   have c4b1 : decide (0 ≤ a0_0) = true := decide_eq_true c4
   clear c4
   obtain ⟨ji5,hji5⟩ : ∃ j_ : Int,(shl .i64 1 a0_0) = j_ := ⟨_,rfl⟩
   replace H : ((spec_l3Shift.f k a0_0 a0_1 (wrap64 ((ji5) - 1))).bind fun bt104 => ((spec_l2Full.f a0_0).bind fun t107 => (some (a0_0,wrap64 (t107 - bt104.2),true)))) = some (r1,r2,r3) := by first | (rw [hji5] at H;exact H) | (simp only [hji5] at H ⊢;exact H)
   (try rw [hji5] at A2)
   have hji5_ : (IntKind.i64.wrap (1 * 2 ^ min a0_0.toNat 64)) = ji5 := hji5
   have hji5z : a0_0 ≤ 64 → (IntKind.i64.wrap (1 * 2 ^ a0_0.toNat)) = ji5 := shl_small hji5
   have hji5u : (IntKind.i64.wrap (2 ^ min a0_0.toNat 64)) = ji5 := by have h_ := hji5_;rw [Int.one_mul] at h_;exact h_
   have hji5v : a0_0 ≤ 64 → (IntKind.i64.wrap (2 ^ a0_0.toNat)) = ji5 := fun hle_ => by have h_ := hji5z hle_;rw [Int.one_mul] at h_;exact h_
   have hji5y : (wrap64 (1 * 2 ^ min a0_0.toNat 64)) = ji5 := (i64_w _).symm.trans hji5_
   have hji5x : a0_0 ≤ 64 → (wrap64 (1 * 2 ^ a0_0.toNat)) = ji5 := fun h_ => (i64_w _).symm.trans (hji5z h_)
   replace H := Option.bind_eq_some_iff.mp H
   obtain ⟨⟨t104,t105⟩,A60,H⟩ := H
   replace H : ((spec_l2Full.f a0_0).bind fun t107 => (some (a0_0,wrap64 (t107 - t105),true))) = some (r1,r2,r3) := H
   have A6 := aZ_ A60
   clear A60
   replace H := Option.bind_eq_some_iff.mp H
   obtain ⟨t107,A70,H⟩ := H
   replace H : (some (a0_0,wrap64 (t107 - t105),true)) = some (r1,r2,r3) := H
   have A7 := aZ_ A70
   clear A70
   simp only [Option.some.injEq,Prod.mk.injEq] at H
   obtain ⟨rfl,rfl,rfl⟩ := H
   go_enter Try.func14,Try.ntmps14
   try go_wp2_with (first | ((with_reducible refine gate_dst (N := 1) rfl ?_);refine box_event ?hg (N := 1) ?hd (cs := #[.int .i64 a0_0,.int .i64 a0_1]) (t := 25) ?hr ?_;(case hd => rfl);(case hg => rfl);(case hr => first | (go_simp;done) | (go_simp;rfl));intro gb101 hg w8 hbox hb;have n0_ := aZ_ (below_step T6_ hb);have n1_ := aZ_ (hbox);have n2_ := aZ_ ((T2_ : w.heap.size ≤ gb101));have n3_ := aZ_ ((T2_ : w.heap.size ≤ gb101));clear HB;have HB := n0_;have BK101 := n1_;have GW101 := n2_;have GE101 := n3_;clear n0_ n1_ n2_ n3_;clear hb hbox hg) | ((with_reducible refine gate_dst (N := 2) rfl ?_);refine box_event ?hg (N := 2) ?hd (cs := #[.int .i64 0,.int .i64 0]) (t := 25) ?hr ?_;(case hd => rfl);(case hg => rfl);(case hr => first | (go_simp;done) | (go_simp;rfl));intro gb102 hg w9 hbox hb;have n0_ := aZ_ (blk_below (g := gb101) (o := .cells #[.int .i64 a0_0,.int .i64 a0_1] 25 (0,0)) T1_ hb);have n1_ := aZ_ (below_step T3_ hb);have n2_ := aZ_ (hbox);have n3_ := aZ_ ((T5_ : w.heap.size ≤ gb102));have n4_ := aZ_ ((T5_ : w.heap.size ≤ gb102));have n5_ := aZ_ ((T8_ : gb101 ≠ gb102));have n6_ := aZ_ ((T9_ : gb102 ≠ gb101));clear BK101;clear HB;have BK101 := n0_;have HB := n1_;have BK102 := n2_;have GW102 := n3_;have GE102 := n4_;have NB101_102 := n5_;have NB102_101 := n6_;clear n0_ n1_ n2_ n3_ n4_ n5_ n6_;clear hb hbox hg;have hnb10 := NB101_102.out;have hnc10 := NB102_101.out;have hcz11_0 : w9.cell? ⟨gb101,0,none⟩ = some (.int .i64 a0_0) := (blk_cell BK101.out 0).trans rfl;have hcz11_1 : w9.cell? ⟨gb101,1,none⟩ = some (.int .i64 a0_1) := (blk_cell BK101.out 1).trans rfl;have hfz11_0 := blk_frozen BK101.out 0;have hfz11_1 := blk_frozen BK101.out 1) | ((with_reducible refine gate_callee (f := 33) rfl ?_);refine goesL_ (some 6) rfl rfl Try.func33 T21_ rfl #[.agg #[.int .i64 a0_0,.int .i64 a0_1]] rfl T4_ ?_;(with_reducible refine (spec_IsTable.calls a0_0 a0_1 true _ A2.out).mono ?_);rintro e w12 ⟨rfl,hb⟩;refine ⟨_,rfl,?_⟩;have n0_ := aZ_ (blk_below (g := gb101) (o := .cells #[.int .i64 a0_0,.int .i64 a0_1] 25 (0,0)) T1_ hb);have n1_ := aZ_ (blk_below (g := gb102) (o := .cells #[.int .i64 0,.int .i64 0] 25 (0,0)) T18_ hb);have n2_ := aZ_ (below_step T13_ hb);clear BK101;clear BK102;clear HB;have BK101 := n0_;have BK102 := n1_;have HB := n2_;clear n0_ n1_ n2_;(try clear hb);(try clear hb2);(try clear hk);(try clear hi)))
   have n0_ := aZ_ (blk_drew BK101.out)
   have n1_ := aZ_ (blk_drew BK102.out)
   have n2_ := aZ_ (below_drew1 HB.out)
   clear BK101
   clear BK102
   clear HB
   have BK101 := n0_
   have BK102 := n1_
   have HB := n2_
   clear n0_ n1_ n2_
   refine start_ (n := 8) (S := fun w' => w'.cell? ⟨gb101,0,none⟩ = some (.int .i64 a0_0) ∧ w'.cell? ⟨gb101,1,none⟩ = some (.int .i64 a0_1)) (ds := []) #[false,false,false,false,false,false,false,false] T21_ rfl rfl ⟨(blk_cell BK101.out 0).trans rfl,(blk_cell BK101.out 1).trans rfl⟩ (fun hHeld => ?_);refine with_tabW spec_DualTable.tab3 spec_DualTable.bits3 (fun HT_ HW_ => ?_)
   generalize w12.drew = w13 at BK101 BK102 HB hHeld ⊢
   refine pZ_ 1 (some 10) #[false,true,false,false,false,false,false,false] ?_
   refine tZ2_ 0 (some 9) #[true,true,false,false,false,false,false,false] hHeld ?_
   refine tZ2_ 2 (some 11) #[true,true,true,false,false,false,false,false] hHeld ?_
   refine pZ_ 3 (some 12) #[true,true,true,true,false,false,false,false] ?_
   refine pZ_ 4 (some 13) #[true,true,true,true,true,false,false,false] ?_
   refine join_ (σ := Nat) 1 #[true,true,true,true,true,true,true,false] (fun s_ => [(14,.agg #[.int .i64 t104,.int .i64 t105]),(4,.pointer (some ⟨s_,0,none⟩))]) (fun s_ w' => (w'.cell? ⟨gb101,0,none⟩ = some (.int .i64 a0_0) ∧ w'.cell? ⟨gb101,1,none⟩ = some (.int .i64 a0_1)) ∧ (w'.heap[gb101]? = some (.cells #[.int .i64 a0_0,.int .i64 a0_1] 25 (0,0))) ∧ (w'.heap[gb102]? = some (.cells #[.int .i64 0,.int .i64 0] 25 (0,0))) ∧ (w'.heap[s_]? = some (.cells #[.int .i64 0,.int .i64 0] 25 (0,0))) ∧ (w.heap.size ≤ s_) ∧ (w.heap.size ≤ s_) ∧ (gb101 ≠ s_) ∧ (s_ ≠ gb101) ∧ (gb102 ≠ s_) ∧ (s_ ≠ gb102) ∧ (Below w.heap.size w w')) ?_ ?_
   rotate_left
   ·intro hCont
    refine two_ (i := 5) (j := 6) (Ni := some 14) (Nj := some 4) #[true,true,true,true,true,true,false,false] #[true,true,true,true,true,false,true,false] rfl rfl rfl rfl (two_of HT_.out T21_) T66_ T66_ (fun K hK => ?_) (fun K hK => ?_)
    ·skip
     refine goes_ Try.func36 T21_ rfl #[.agg #[.int .i64 a0_0,.int .i64 a0_1],.int .i64 (wrap64 ((ji5) - 1))] (by rfl) rfl rfl T60_ ?_
     with_reducible refine (spec_l3Shift.calls k a0_0 a0_1 (wrap64 ((ji5) - 1)) t104 t105 _ A6.out).mono ?_
     rintro e w14 ⟨rfl,hb⟩
     refine ⟨_,rfl,?_⟩
     have n0_ := aZ_ (blk_below (g := gb101) (o := .cells #[.int .i64 a0_0,.int .i64 a0_1] 25 (0,0)) T1_ hb)
     have n1_ := aZ_ (blk_below (g := gb102) (o := .cells #[.int .i64 0,.int .i64 0] 25 (0,0)) T18_ hb)
     have n2_ := aZ_ (below_step T13_ hb)
     clear BK101
     clear BK102
     clear HB
     have BK101 := n0_
     have BK102 := n1_
     have HB := n2_
     clear n0_ n1_ n2_
     (try clear hb)
     (try clear hb2)
     (try clear hk)
     (try clear hi)
     refine hK.out _ _ ⟨(blk_cell BK101.out 0).trans rfl,(blk_cell BK101.out 1).trans rfl⟩ (fun hHeld => ?_)
     clear hK K
     refine norm_ (a' := ?_) ?_ ?_
     rotate_left
     ·show Act.put _ (some 14) _ = _
      simp only [Act.put,List.setIfInBounds_toArray,List.set_cons_zero,List.set_cons_succ,i64_w,i32_w]
      rfl
     refine one_ (i := 6) (N := some 4) #[true,true,true,true,true,true,true,false] rfl rfl (one_of HT_.out T21_) T66_ (fun K hK => ?_)
     refine box_step ?hg (N := 4) ?hd (cs := #[.int .i64 0,.int .i64 0]) (t := 25) ?hr ?_;(case hd => rfl);(case hg => rfl);(case hr => first | (go_simp;done) | (go_simp;rfl))
     intro gb106 hg w15 hbox hb
     have n0_ := aZ_ (blk_below (g := gb101) (o := .cells #[.int .i64 a0_0,.int .i64 a0_1] 25 (0,0)) T1_ hb)
     have n1_ := aZ_ (blk_below (g := gb102) (o := .cells #[.int .i64 0,.int .i64 0] 25 (0,0)) T18_ hb)
     have n2_ := aZ_ (below_step T13_ hb)
     have n3_ := aZ_ (hbox)
     have n4_ := aZ_ ((T41_ : w.heap.size ≤ gb106))
     have n5_ := aZ_ ((T41_ : w.heap.size ≤ gb106))
     have n6_ := aZ_ ((T8_ : gb101 ≠ gb106))
     have n7_ := aZ_ ((T9_ : gb106 ≠ gb101))
     have n8_ := aZ_ ((T68_ : gb102 ≠ gb106))
     have n9_ := aZ_ ((T69_ : gb106 ≠ gb102))
     clear BK101
     clear BK102
     clear HB
     have BK101 := n0_
     have BK102 := n1_
     have HB := n2_
     have BK106 := n3_
     have GW106 := n4_
     have GE106 := n5_
     have NB101_106 := n6_
     have NB106_101 := n7_
     have NB102_106 := n8_
     have NB106_102 := n9_
     clear n0_ n1_ n2_ n3_ n4_ n5_ n6_ n7_ n8_ n9_
     clear hb hbox hg
     refine hK.out _ _ ⟨(blk_cell BK101.out 0).trans rfl,(blk_cell BK101.out 1).trans rfl⟩ (fun hHeld => ?_)
     clear hK K
     refine norm_ (a' := ?_) ?_ ?_
     rotate_left
     ·show Act.put _ (some 4) _ = _
      simp only [Act.put,List.setIfInBounds_toArray,List.set_cons_zero,List.set_cons_succ,i64_w,i32_w]
      rfl
     exact norm_ (by simp only [putAll,Act.put,List.setIfInBounds_toArray,List.set_cons_zero,List.set_cons_succ]) (hCont (gb106) _ ⟨hHeld,T1_,T18_,T54_,GW106.out,GE106.out,NB101_106.out,NB106_101.out,NB102_106.out,NB106_102.out,T57_⟩)
    ·skip
     refine box_step ?hg (N := 4) ?hd (cs := #[.int .i64 0,.int .i64 0]) (t := 25) ?hr ?_;(case hd => rfl);(case hg => rfl);(case hr => first | (go_simp;done) | (go_simp;rfl))
     intro gb106 hg w14 hbox hb
     have n0_ := aZ_ (blk_below (g := gb101) (o := .cells #[.int .i64 a0_0,.int .i64 a0_1] 25 (0,0)) T1_ hb)
     have n1_ := aZ_ (blk_below (g := gb102) (o := .cells #[.int .i64 0,.int .i64 0] 25 (0,0)) T18_ hb)
     have n2_ := aZ_ (below_step T13_ hb)
     have n3_ := aZ_ (hbox)
     have n4_ := aZ_ ((T41_ : w.heap.size ≤ gb106))
     have n5_ := aZ_ ((T41_ : w.heap.size ≤ gb106))
     have n6_ := aZ_ ((T8_ : gb101 ≠ gb106))
     have n7_ := aZ_ ((T9_ : gb106 ≠ gb101))
     have n8_ := aZ_ ((T68_ : gb102 ≠ gb106))
     have n9_ := aZ_ ((T69_ : gb106 ≠ gb102))
     clear BK101
     clear BK102
     clear HB
     have BK101 := n0_
     have BK102 := n1_
     have HB := n2_
     have BK106 := n3_
     have GW106 := n4_
     have GE106 := n5_
     have NB101_106 := n6_
     have NB106_101 := n7_
     have NB102_106 := n8_
     have NB106_102 := n9_
     clear n0_ n1_ n2_ n3_ n4_ n5_ n6_ n7_ n8_ n9_
     clear hb hbox hg
     refine hK.out _ _ ⟨(blk_cell BK101.out 0).trans rfl,(blk_cell BK101.out 1).trans rfl⟩ (fun hHeld => ?_)
     clear hK K
     refine norm_ (a' := ?_) ?_ ?_
     rotate_left
     ·show Act.put _ (some 4) _ = _
      simp only [Act.put,List.setIfInBounds_toArray,List.set_cons_zero,List.set_cons_succ,i64_w,i32_w]
      rfl
     refine one_ (i := 5) (N := some 14) #[true,true,true,true,true,true,true,false] rfl rfl (one_of HT_.out T21_) T66_ (fun K hK => ?_)
     refine goes_ Try.func36 T21_ rfl #[.agg #[.int .i64 a0_0,.int .i64 a0_1],.int .i64 (wrap64 ((ji5) - 1))] (by rfl) rfl rfl T60_ ?_
     with_reducible refine (spec_l3Shift.calls k a0_0 a0_1 (wrap64 ((ji5) - 1)) t104 t105 _ A6.out).mono ?_
     rintro e w15 ⟨rfl,hb⟩
     refine ⟨_,rfl,?_⟩
     have n0_ := aZ_ (blk_below (g := gb101) (o := .cells #[.int .i64 a0_0,.int .i64 a0_1] 25 (0,0)) T1_ hb)
     have n1_ := aZ_ (blk_below (g := gb102) (o := .cells #[.int .i64 0,.int .i64 0] 25 (0,0)) T18_ hb)
     have n2_ := aZ_ (blk_below (g := gb106) (o := .cells #[.int .i64 0,.int .i64 0] 25 (0,0)) T54_ hb)
     have n3_ := aZ_ (below_step T57_ hb)
     clear BK101
     clear BK102
     clear BK106
     clear HB
     have BK101 := n0_
     have BK102 := n1_
     have BK106 := n2_
     have HB := n3_
     clear n0_ n1_ n2_ n3_
     (try clear hb)
     (try clear hb2)
     (try clear hk)
     (try clear hi)
     refine hK.out _ _ ⟨(blk_cell BK101.out 0).trans rfl,(blk_cell BK101.out 1).trans rfl⟩ (fun hHeld => ?_)
     clear hK K
     refine norm_ (a' := ?_) ?_ ?_
     rotate_left
     ·show Act.put _ (some 14) _ = _
      simp only [Act.put,List.setIfInBounds_toArray,List.set_cons_zero,List.set_cons_succ,i64_w,i32_w]
      rfl
     exact norm_ (by simp only [putAll,Act.put,List.setIfInBounds_toArray,List.set_cons_zero,List.set_cons_succ]) (hCont (gb106) _ ⟨hHeld,T1_,T18_,T54_,GW106.out,GE106.out,NB101_106.out,NB106_101.out,NB102_106.out,NB106_102.out,T57_⟩)
   rintro gb106 w16 ⟨hS_,h0_,h1_,h2_,h3_,h4_,h5_,h6_,h7_,h8_,h9_⟩
   have n0_ : Aside0 (w16.heap[gb101]? = some (.cells #[.int .i64 a0_0,.int .i64 a0_1] 25 (0,0))) := ⟨h0_⟩
   have n1_ : Aside0 (w16.heap[gb102]? = some (.cells #[.int .i64 0,.int .i64 0] 25 (0,0))) := ⟨h1_⟩
   have n2_ : Aside0 (w16.heap[gb106]? = some (.cells #[.int .i64 0,.int .i64 0] 25 (0,0))) := ⟨h2_⟩
   have n3_ : Aside0 (w.heap.size ≤ gb106) := ⟨h3_⟩
   have n4_ : Aside0 (w.heap.size ≤ gb106) := ⟨h4_⟩
   have n5_ : Aside0 (gb101 ≠ gb106) := ⟨h5_⟩
   have n6_ : Aside0 (gb106 ≠ gb101) := ⟨h6_⟩
   have n7_ : Aside0 (gb102 ≠ gb106) := ⟨h7_⟩
   have n8_ : Aside0 (gb106 ≠ gb102) := ⟨h8_⟩
   have n9_ : Aside0 (Below w.heap.size w w16) := ⟨h9_⟩
   clear BK101
   clear BK102
   clear HB
   clear h0_ h1_ h2_ h3_ h4_ h5_ h6_ h7_ h8_ h9_
   have BK101 := n0_
   have BK102 := n1_
   have BK106 := n2_
   have GW106 := n3_
   have GE106 := n4_
   have NB101_106 := n5_
   have NB106_101 := n6_
   have NB102_106 := n7_
   have NB106_102 := n8_
   have HB := n9_
   clear n0_ n1_ n2_ n3_ n4_ n5_ n6_ n7_ n8_ n9_
   have hHeld : w16.cell? ⟨gb101,0,none⟩ = some (.int .i64 a0_0) ∧ w16.cell? ⟨gb101,1,none⟩ = some (.int .i64 a0_1) := hS_
   refine norm_ (a' := ?_) ?_ ?_
   rotate_left
   ·simp only [putAll,Act.put,List.setIfInBounds_toArray,List.set_cons_zero,List.set_cons_succ]
    rfl
   refine one_ (i := 7) (N := none) #[true,true,true,true,true,true,true,true] rfl rfl (one_of HT_.out T21_) T66_ (fun K hK => ?_)
   have hs17 : w16.cell? ⟨gb106,0,none⟩ = some (.int .i64 0) := (blk_cell BK106.out 0).trans rfl
   have hfs17 := blk_frozen BK106.out 0
   have hns17_0 := NB101_106.out
   have hns17_1 := NB102_106.out
   have hms17_0 := NB106_101.out
   have hms17_1 := NB106_102.out
   have hs18 : w16.cell? ⟨gb106,1,none⟩ = some (.int .i64 0) := (blk_cell BK106.out 1).trans rfl
   have hfs18 := blk_frozen BK106.out 1
   have hns18_0 := NB101_106.out
   have hns18_1 := NB102_106.out
   have hms18_0 := NB106_101.out
   have hms18_1 := NB106_102.out
   refine skip_ (w1 := ?_) (by rfl) rfl ?_ ?_
   rotate_left
   ·go_simp
    rfl
   refine hK.out _ _ ⟨((cell_far (p := ⟨gb106,_,none⟩) NB101_106.out _).trans (((cell_far (p := ⟨gb106,_,none⟩) NB101_106.out _).trans (hHeld.1)))),((cell_far (p := ⟨gb106,_,none⟩) NB101_106.out _).trans (((cell_far (p := ⟨gb106,_,none⟩) NB101_106.out _).trans (hHeld.2))))⟩ (fun hHeld => ?_)
   clear hK K
   refine done_ (done_of HT_.out T21_) ?_
   try go_wp2
   have n0_ : Aside0 (((w16.setCell ⟨gb106,0,none⟩ (.int .i64 t104)).setCell ⟨gb106,1,none⟩ (.int .i64 t105)).heap[gb101]? = some (.cells #[.int .i64 a0_0,.int .i64 a0_1] 25 (0,0))) := ⟨by (with_reducible repeat (first | refine blk_drewN ?_ _ | refine blk_drew ?_ | refine blk_alloc ?_ _));refine blk_far ?_ NB101_106.out _;(with_reducible repeat (first | refine blk_drewN ?_ _ | refine blk_drew ?_ | refine blk_alloc ?_ _));refine blk_far ?_ NB101_106.out _;(with_reducible repeat (first | refine blk_drewN ?_ _ | refine blk_drew ?_ | refine blk_alloc ?_ _));exact BK101.out⟩
   have n1_ : Aside0 (((w16.setCell ⟨gb106,0,none⟩ (.int .i64 t104)).setCell ⟨gb106,1,none⟩ (.int .i64 t105)).heap[gb102]? = some (.cells #[.int .i64 0,.int .i64 0] 25 (0,0))) := ⟨by (with_reducible repeat (first | refine blk_drewN ?_ _ | refine blk_drew ?_ | refine blk_alloc ?_ _));refine blk_far ?_ NB102_106.out _;(with_reducible repeat (first | refine blk_drewN ?_ _ | refine blk_drew ?_ | refine blk_alloc ?_ _));refine blk_far ?_ NB102_106.out _;(with_reducible repeat (first | refine blk_drewN ?_ _ | refine blk_drew ?_ | refine blk_alloc ?_ _));exact BK102.out⟩
   have n2_ : Aside0 (((w16.setCell ⟨gb106,0,none⟩ (.int .i64 t104)).setCell ⟨gb106,1,none⟩ (.int .i64 t105)).heap[gb106]? = some (.cells #[.int .i64 t104,.int .i64 t105] 25 (0,0))) := ⟨by (with_reducible repeat (first | refine blk_drewN ?_ _ | refine blk_drew ?_ | refine blk_alloc ?_ _));refine blk_put (cs := #[.int .i64 t104,.int .i64 0]) ?_ 1 _ rfl;(with_reducible repeat (first | refine blk_drewN ?_ _ | refine blk_drew ?_ | refine blk_alloc ?_ _));refine blk_put (cs := #[.int .i64 0,.int .i64 0]) ?_ 0 _ rfl;(with_reducible repeat (first | refine blk_drewN ?_ _ | refine blk_drew ?_ | refine blk_alloc ?_ _));exact BK106.out⟩
   have n3_ : Aside0 (Below w.heap.size w ((w16.setCell ⟨gb106,0,none⟩ (.int .i64 t104)).setCell ⟨gb106,1,none⟩ (.int .i64 t105))) := ⟨by repeat (first | (with_reducible first | exact HB.out | apply below_alloc | apply pw_below_drewN | apply below_drew1 | refine below_set ?_ GE101.out | refine below_set ?_ GE102.out | refine below_set ?_ GE106.out) | exact HB.out)⟩
   (try clear BK101)
   (try clear BK102)
   (try clear BK106)
   (try clear HB)
   generalize ((w16.setCell ⟨gb106,0,none⟩ (.int .i64 t104)).setCell ⟨gb106,1,none⟩ (.int .i64 t105)) = w19 at n0_ n1_ n2_ n3_ ⊢
   have BK101 := n0_
   have BK102 := n1_
   have BK106 := n2_
   have HB := n3_
   clear n0_ n1_ n2_ n3_
   have n0_ := aZ_ (blk_drew BK101.out)
   have n1_ := aZ_ (blk_drew BK102.out)
   have n2_ := aZ_ (blk_drew BK106.out)
   have n3_ := aZ_ (below_drew1 HB.out)
   clear BK101
   clear BK102
   clear BK106
   clear HB
   have BK101 := n0_
   have BK102 := n1_
   have BK106 := n2_
   have HB := n3_
   clear n0_ n1_ n2_ n3_
   refine start_ (n := 11) (S := fun w' => w'.cell? ⟨gb101,0,none⟩ = some (.int .i64 a0_0) ∧ w'.cell? ⟨gb101,1,none⟩ = some (.int .i64 a0_1) ∧ w'.cell? ⟨gb106,0,none⟩ = some (.int .i64 t104) ∧ w'.cell? ⟨gb106,1,none⟩ = some (.int .i64 t105)) (ds := []) #[false,false,false,false,false,false,false,false,false,false,false] T21_ rfl rfl ⟨(blk_cell BK101.out 0).trans rfl,(blk_cell BK101.out 1).trans rfl,(blk_cell BK106.out 0).trans rfl,(blk_cell BK106.out 1).trans rfl⟩ (fun hHeld => ?_);refine with_tabW spec_DualTable.tab4 spec_DualTable.bits4 (fun HT_ HW_ => ?_)
   generalize w19.drew = w20 at BK101 BK102 BK106 HB hHeld ⊢
   refine pZ_ 0 (some 15) #[true,false,false,false,false,false,false,false,false,false,false] ?_
   refine pZ_ 2 (some 17) #[true,false,true,false,false,false,false,false,false,false,false] ?_
   refine pZ_ 5 (some 20) #[true,false,true,false,false,true,false,false,false,false,false] ?_
   refine tZ4_ 1 (some 16) #[true,true,true,false,false,true,false,false,false,false,false] hHeld ?_
   refine tZ4_ 3 (some 18) #[true,true,true,true,false,true,false,false,false,false,false] hHeld ?_
   refine tZ4_ 6 (some 21) #[true,true,true,true,false,true,true,false,false,false,false] hHeld ?_
   refine one_ (i := 4) (N := some 19) #[true,true,true,true,true,true,true,false,false,false,false] rfl rfl (one_of HT_.out T21_) T66_ (fun K hK => ?_)
   refine gZ_ Try.func37 #[.int .i64 a0_0] ?_
   with_reducible refine (spec_l2Full.calls a0_0 t107 _ A7.out).mono ?_
   rintro e w' ⟨rfl,⟨nd,rfl⟩⟩
   refine ⟨_,rfl,?_⟩
   refine hK.out _ _ ⟨(blk_cell BK101.out 0).trans rfl,(blk_cell BK101.out 1).trans rfl,(blk_cell BK106.out 0).trans rfl,(blk_cell BK106.out 1).trans rfl⟩ (fun hHeld => ?_)
   clear hK K
   refine norm_ (a' := ?_) ?_ ?_
   rotate_left
   ·show Act.put _ (some 19) _ = _
    simp only [Act.put,List.setIfInBounds_toArray,List.set_cons_zero,List.set_cons_succ,i64_w,i32_w]
    rfl
   refine pZ_ 7 (some 22) #[true,true,true,true,true,true,true,true,false,false,false] ?_
   refine pZ_ 8 (some 23) #[true,true,true,true,true,true,true,true,true,false,false] ?_
   refine one_ (i := 9) (N := none) #[true,true,true,true,true,true,true,true,true,true,false] rfl rfl (one_of HT_.out T21_) T66_ (fun K hK => ?_)
   have hs21 : w20.cell? ⟨gb102,0,none⟩ = some (.int .i64 0) := (blk_cell BK102.out 0).trans rfl
   have hfs21 := blk_frozen BK102.out 0
   have hns21_0 := NB101_102.out
   have hns21_2 := NB106_102.out
   have hms21_0 := NB102_101.out
   have hms21_2 := NB102_106.out
   have hs22 : w20.cell? ⟨gb102,1,none⟩ = some (.int .i64 0) := (blk_cell BK102.out 1).trans rfl
   have hfs22 := blk_frozen BK102.out 1
   have hns22_0 := NB101_102.out
   have hns22_2 := NB106_102.out
   have hms22_0 := NB102_101.out
   have hms22_2 := NB102_106.out
   refine skip_ (w1 := ?_) (by rfl) rfl ?_ ?_
   rotate_left
   ·go_simp
    rfl
   refine hK.out _ _ ⟨((cell_far (p := ⟨gb102,_,none⟩) NB101_102.out _).trans (((cell_far (p := ⟨gb102,_,none⟩) NB101_102.out _).trans (hHeld.1)))),((cell_far (p := ⟨gb102,_,none⟩) NB101_102.out _).trans (((cell_far (p := ⟨gb102,_,none⟩) NB101_102.out _).trans (hHeld.2.1)))),((cell_far (p := ⟨gb102,_,none⟩) NB106_102.out _).trans (((cell_far (p := ⟨gb102,_,none⟩) NB106_102.out _).trans (hHeld.2.2.1)))),((cell_far (p := ⟨gb102,_,none⟩) NB106_102.out _).trans (((cell_far (p := ⟨gb102,_,none⟩) NB106_102.out _).trans (hHeld.2.2.2))))⟩ (fun hHeld => ?_)
   clear hK K
   refine pZ_ 10 (some 3) #[true,true,true,true,true,true,true,true,true,true,true] ?_
   refine done_ (done_of HT_.out T21_) ?_
   try go_wp2
   refine bodyPost_ret (results_ct rfl _ _ gb102 25 #[.int .i64 a0_0,.int .i64 (wrap64 (t107 - t105))] (0,0) _ rfl T28_ Try.underlying25 rfl T21_) rfl ?_
   exact ⟨by first | rfl | (simp [errW_none,errW_some] <;> rfl) | (simp only [← hji5];first | rfl | (simp [errW_none,errW_some] <;> rfl)) | (simp [*,errW_none,errW_some] <;> rfl),by repeat (first | (with_reducible first | exact HB.out | apply below_alloc | apply pw_below_drewN | apply below_drew1 | refine below_set ?_ GE101.out | refine below_set ?_ GE102.out | refine below_set ?_ GE106.out) | exact HB.out)⟩
  ·rw [if_neg c4] at H
   exact absurd H T67_
 ·replace c3 := Bool.eq_false_iff.mpr c3
  subst c3
  have H1 : (some (0,0,false)) = some (r1,r2,r3) := by rw [if_neg (show ¬ (false = true) by decide)] at H;exact H
  clear H
  have H := H1
  clear H1
  simp only [Option.some.injEq,Prod.mk.injEq] at H
  obtain ⟨rfl,rfl,rfl⟩ := H
  go_enter Try.func14,Try.ntmps14
  go_wp2_with (first | ((with_reducible refine gate_dst (N := 1) rfl ?_);refine box_event ?hg (N := 1) ?hd (cs := #[.int .i64 a0_0,.int .i64 a0_1]) (t := 25) ?hr ?_;(case hd => rfl);(case hg => rfl);(case hr => first | (go_simp;done) | (go_simp;rfl));intro gb101 hg w23 hbox hb;have n0_ := aZ_ (below_step T6_ hb);have n1_ := aZ_ (hbox);have n2_ := aZ_ ((T2_ : w.heap.size ≤ gb101));have n3_ := aZ_ ((T2_ : w.heap.size ≤ gb101));clear HB;have HB := n0_;have BK101 := n1_;have GW101 := n2_;have GE101 := n3_;clear n0_ n1_ n2_ n3_;clear hb hbox hg) | ((with_reducible refine gate_dst (N := 2) rfl ?_);refine box_event ?hg (N := 2) ?hd (cs := #[.int .i64 0,.int .i64 0]) (t := 25) ?hr ?_;(case hd => rfl);(case hg => rfl);(case hr => first | (go_simp;done) | (go_simp;rfl));intro gb102 hg w24 hbox hb;have n0_ := aZ_ (blk_below (g := gb101) (o := .cells #[.int .i64 a0_0,.int .i64 a0_1] 25 (0,0)) T1_ hb);have n1_ := aZ_ (below_step T3_ hb);have n2_ := aZ_ (hbox);have n3_ := aZ_ ((T5_ : w.heap.size ≤ gb102));have n4_ := aZ_ ((T5_ : w.heap.size ≤ gb102));have n5_ := aZ_ ((T8_ : gb101 ≠ gb102));have n6_ := aZ_ ((T9_ : gb102 ≠ gb101));clear BK101;clear HB;have BK101 := n0_;have HB := n1_;have BK102 := n2_;have GW102 := n3_;have GE102 := n4_;have NB101_102 := n5_;have NB102_101 := n6_;clear n0_ n1_ n2_ n3_ n4_ n5_ n6_;clear hb hbox hg;have hnb25 := NB101_102.out;have hnc25 := NB102_101.out;have hcz26_0 : w24.cell? ⟨gb101,0,none⟩ = some (.int .i64 a0_0) := (blk_cell BK101.out 0).trans rfl;have hcz26_1 : w24.cell? ⟨gb101,1,none⟩ = some (.int .i64 a0_1) := (blk_cell BK101.out 1).trans rfl;have hfz26_0 := blk_frozen BK101.out 0;have hfz26_1 := blk_frozen BK101.out 1) | ((with_reducible refine gate_callee (f := 33) rfl ?_);refine goesL_ (some 6) rfl rfl Try.func33 T21_ rfl #[.agg #[.int .i64 a0_0,.int .i64 a0_1]] rfl T4_ ?_;(with_reducible refine (spec_IsTable.calls a0_0 a0_1 false _ A2.out).mono ?_);rintro e w27 ⟨rfl,hb⟩;refine ⟨_,rfl,?_⟩;have n0_ := aZ_ (blk_below (g := gb101) (o := .cells #[.int .i64 a0_0,.int .i64 a0_1] 25 (0,0)) T1_ hb);have n1_ := aZ_ (blk_below (g := gb102) (o := .cells #[.int .i64 0,.int .i64 0] 25 (0,0)) T18_ hb);have n2_ := aZ_ (below_step T13_ hb);clear BK101;clear BK102;clear HB;have BK101 := n0_;have BK102 := n1_;have HB := n2_;clear n0_ n1_ n2_;(try clear hb);(try clear hb2);(try clear hk);(try clear hi);have hcz28_0 : w27.cell? ⟨gb102,0,none⟩ = some (.int .i64 0) := (blk_cell BK102.out 0).trans rfl;have hcz28_1 : w27.cell? ⟨gb102,1,none⟩ = some (.int .i64 0) := (blk_cell BK102.out 1).trans rfl;have hfz28_0 := blk_frozen BK102.out 0;have hfz28_1 := blk_frozen BK102.out 1))
  refine bodyPost_ret (results_ct rfl _ _ gb102 25 #[.int .i64 0,.int .i64 0] (0,0) _ rfl T29_ Try.underlying25 rfl T21_) rfl ?_
  exact ⟨by first | rfl | (simp [errW_none,errW_some] <;> rfl) | (simp [*,errW_none,errW_some] <;> rfl),by repeat (first | (with_reducible first | exact HB.out | apply below_alloc | apply pw_below_drewN | apply below_drew1 | refine below_set ?_ GE101.out | refine below_set ?_ GE102.out) | exact HB.out)⟩
theorem hull_size {n : Nat} (v : Int) (hn : n ≤ 5) : impl_Table_size.f n v = some ((2 ^ n : Nat) : Int) := by
 unfold impl_Table_size.f
 rw [if_pos T74_,B.shl1_of T74_]
theorem hull_at {n : Int} {w x : Nat} (hw : w < 9223372036854775808) (hx : x ≤ 64) : impl_Table_at.f n w x = some ((B.bitN w x : Nat) : Int) := by
 unfold impl_Table_at.f
 rw [if_pos T74_,B.bit_cast hw hx]
set_option maxHeartbeats 400000 in
set_option maxRecDepth 100000 in
theorem impl_Table_hull_1.any (n v x : Nat) (hn : n ≤ 5) (hv : v < 9223372036854775808) (hx : x < 32) (g1 : Nat) (W : World) (h1 : W.heap[g1]? = some (.cells #[.int .i64 n,.int .i64 v] 25 (0,0))) :
  Gives Try.prog 58 #[.pointer (some ⟨g1,0,none⟩)] #[.int .i64 x] (.bool (B.exN (fun y => B.ldiff y x == 0 && v.testBit y) (2 ^ n))) W := by
 show Calls Try.prog 58 #[.int .i64 x,.pointer (some ⟨g1,0,none⟩)] W _
 have hu := Try.underlying25
 have A0 := aZ_ (hull_size (v : Int) hn)
 have hM32 := B.pow_le hn
 have HV := aZ_ hv
 generalize 2 ^ n = M at A0 hM32 ⊢
 have BK := aZ_ h1
 have hc0 : W.cell? ⟨g1,0,none⟩ = some (.int .i64 n) := (blk_cell h1 0).trans rfl
 have hc1 : W.cell? ⟨g1,1,none⟩ = some (.int .i64 v) := (blk_cell h1 1).trans rfl
 clear h1 hv hn
 go_enter Try.func58,Try.ntmps58
 go_wp2_with (go_at_call 50;refine (impl_Table_size.calls n v M _ A0.out).mono ?_;rintro e w' ⟨rfl,hb⟩;have BK' := aZ_ (blk_below BK.out hb);have HB := aZ_ hb;clear hb)
 clear hc0 hc1
 go_loopg [7] M (fun gg v7 wr => ∃ y : Nat,y ≤ M ∧ M - y ≤ gg ∧ v7 = .int .i64 y ∧ Aside0 (wr.heap[g1]? = some (.cells #[.int .i64 n,.int .i64 v] 25 (0,0))) ∧ Aside0 (Below W.heap.size W wr) ∧ Aside0 (B.exN (fun y => B.ldiff y x == 0 && v.testBit y) y = false))
 case atStart => exact ⟨0,Nat.zero_le _,by omega,rfl,BK',HB,⟨rfl⟩⟩
 case round =>
  clear BK' HB
  obtain ⟨y,hy,hg,rfl,BK,HB,HX⟩ := hrel
  by_cases hlt : y < M
  ·have hltz : (y : Int) < (M : Int) := by omega
   have hc0 : wr.cell? ⟨g1,0,none⟩ = some (.int .i64 n) := (blk_cell BK.out 0).trans rfl
   have hc1 : wr.cell? ⟨g1,1,none⟩ = some (.int .i64 v) := (blk_cell BK.out 1).trans rfl
   have hxr : Go.bits .andNot .i64 (y : Int) (x : Int) = ((B.ldiff y x : Nat) : Int) := B.andNot_cast T74_ T74_
   by_cases hz : B.ldiff y x = 0
   ·rw [hz] at hxr
    have A1 := aZ_ (hull_at (n := (n : Int)) (x := y) HV.out T74_)
    cases hq : v.testBit y with
    | true =>
     rw [show B.bitN v y = 1 from B.bitN_eq_one.mpr hq] at A1
     have HH : Aside0 (B.exN (fun y => B.ldiff y x == 0 && v.testBit y) M = true) := ⟨B.exN_hit hlt (by simp [hz,hq])⟩
     clear hq hz
     go_wp2_with (go_at_call 52;refine (impl_Table_at.calls n v y _ _ A1.out).mono ?_;rintro e w' ⟨rfl,hb⟩;have HB' := aZ_ (below_step HB.out hb);clear hb)
     go_ret
     rw [HH.out]
     exact ⟨rfl,HB'.out⟩
    | false =>
     rw [show B.bitN v y = 0 from B.bitN_eq_zero.mpr hq] at A1
     have HH : Aside0 (B.exN (fun y => B.ldiff y x == 0 && v.testBit y) (y + 1) = false) := ⟨B.exN_skip HX.out (by simp [hq])⟩
     clear hq hz
     go_wp2_with (go_at_call 52;refine (impl_Table_at.calls n v y _ _ A1.out).mono ?_;rintro e w' ⟨rfl,hb⟩;have BK' := aZ_ (blk_below BK.out hb);have HB' := aZ_ (below_step HB.out hb);clear hb)
     go_roundg (M - (y + 1))
     case measure => omega
     case rel => exact ⟨y + 1,by omega,by omega,by go_num,BK',HB',HH⟩
   ·have HH : Aside0 (B.exN (fun y => B.ldiff y x == 0 && v.testBit y) (y + 1) = false) := ⟨B.exN_skip HX.out (by simp [hz])⟩
    have hz1 : (((B.ldiff y x : Nat) : Int) == 0) = false := by simpa using hz
    clear hz
    go_wp2
    go_roundg (M - (y + 1))
    case measure => omega
    case rel => exact ⟨y + 1,by omega,by omega,by go_num,BK,HB,HH⟩
  ·have hltz : ¬ (y : Int) < (M : Int) := by omega
   obtain rfl : y = M := by omega
   go_wp2
   go_ret
   rw [HX.out]
   exact ⟨rfl,HB.out⟩
def impl_Table_hull.f (a0_0 a0_1 : Int) : Option (Int × Int) :=
 if 0 ≤ a0_0 ∧ a0_0 ≤ 5 ∧ 0 ≤ a0_1 ∧ a0_1 < 4294967296 then some (a0_0,((B.tabN (fun x => B.exN (fun y => B.ldiff y x == 0 && a0_1.toNat.testBit y) (2 ^ a0_0.toNat)) (2 ^ a0_0.toNat) : Nat) : Int)) else none
set_option maxHeartbeats 400000 in
set_option maxRecDepth 100000 in
theorem impl_Table_hull.any (n v : Nat) (hn : n ≤ 5) (hv : v < 9223372036854775808) (w : World) :
  Calls Try.prog 38 #[.agg #[.int .i64 n,.int .i64 v]] w fun e w' => e = .returned (.agg #[.int .i64 n,.int .i64 (B.tabN (fun x => B.exN (fun y => B.ldiff y x == 0 && v.testBit y) (2 ^ n)) (2 ^ n) : Nat)]) ∧ Below w.heap.size w w' := by
 have hu := Try.underlying25
 have HN := aZ_ hn
 have HV := aZ_ hv
 clear hn hv
 have EG := aZ_ (enters_of Try.func58 T21_ rfl)
 go_enter Try.func38,Try.ntmps38
 go_wp2_with (go_at_call 57;refine (impl_makeTable.any n HN.out (fun x => B.exN (fun y => B.ldiff y x == 0 && v.testBit y) (2 ^ n)) 58 #[.pointer (some ⟨w.heap.size,0,none⟩)] EG.out _ (fun W x hx hb => impl_Table_hull_1.any n v x HN.out HV.out (Nat.lt_of_lt_of_le hx (B.pow_le HN.out)) _ W (blk_below (blk_alloc (blk_new w _) _) hb))).mono ?_;rintro e w' ⟨rfl,hb⟩;have BK : Aside0 (w'.heap[w.heap.size + 1]? = some (.cells #[.int .i64 0,.int .i64 0] 25 (0,0))) := ⟨by have h_ := blk_below (blk_new _ _) hb;simpa using h_⟩;have HB := aZ_ (below_step (below_alloc (below_alloc (Below.refl w.heap.size w) _) _) hb);clear hb;have hc0 : w'.cell? ⟨w.heap.size + 1,0,none⟩ = some (.int .i64 0) := (blk_cell BK.out 0).trans rfl;have hc1 : w'.cell? ⟨w.heap.size + 1,1,none⟩ = some (.int .i64 0) := (blk_cell BK.out 1).trans rfl;have hf0 : w'.frozen? ⟨w.heap.size + 1,0,none⟩ = false := blk_frozen BK.out 0;have hf1 : w'.frozen? ⟨w.heap.size + 1,1,none⟩ = false := blk_frozen BK.out 1)
 refine bodyPost_ret (results_cell_row rfl _ _ (w.heap.size + 1) 25 #[.int .i64 n,.int .i64 (B.tabN (fun x => B.exN (fun y => B.ldiff y x == 0 && v.testBit y) (2 ^ n)) (2 ^ n) : Nat)] (0,0) _ rfl T75_ Try.underlying25 rfl T21_) rfl ?_
 exact ⟨rfl,below_set (below_set HB.out T74_) T74_⟩
theorem impl_Table_hull.calls (a0_0 a0_1 r1 r2 : Int) (w : World) (h : impl_Table_hull.f a0_0 a0_1 = some (r1,r2)) :
  Calls Try.prog 38 #[.agg #[.int .i64 a0_0,.int .i64 a0_1]] w fun e w' => e = .returned (.agg #[.int .i64 r1,.int .i64 r2]) ∧ Below w.heap.size w w' := by
 unfold impl_Table_hull.f at h
 split at h
 next hc =>
  obtain ⟨n,rfl⟩ := Int.eq_ofNat_of_zero_le hc.1
  obtain ⟨v,rfl⟩ := Int.eq_ofNat_of_zero_le hc.2.2.1
  simp only [Option.some.injEq,Prod.mk.injEq,Int.toNat_natCast] at h
  obtain ⟨rfl,rfl⟩ := h
  exact impl_Table_hull.any n v T74_ T74_ w
 next => cases h
def impl_MonotoneHull.f (a0_0 : Int) (a0_1 : Int) : Option (Int × Int × Bool) := (impl_IsTable.f a0_0 a0_1).bind fun t103 => (if t103 = true then ((impl_Table_hull.f a0_0 a0_1).bind fun bt104 => (some (bt104.1,bt104.2,true))) else (some (0,0,false)))
set_option maxHeartbeats 8000000 in
set_option maxRecDepth 100000 in
theorem impl_MonotoneHull.calls (a0_0 : Int) (a0_1 : Int) (r1 : Int) (r2 : Int) (r3 : Bool) (w : World) (h : impl_MonotoneHull.f a0_0 a0_1 = some (r1,r2,r3)) :
  Calls Try.prog 15 #[.agg #[.int .i64 a0_0,.int .i64 a0_1]] w fun e w' => e = .returned (.tuple #[.agg #[.int .i64 r1,.int .i64 r2],.bool r3]) ∧ Below w.heap.size w w' := by
 have hu25 := Try.underlying25
 have HB := aZ_ (Below.refl w.heap.size w)
 have H : ((impl_IsTable.f a0_0 a0_1).bind fun t103 => (if t103 = true then ((impl_Table_hull.f a0_0 a0_1).bind fun bt104 => (some (bt104.1,bt104.2,true))) else (some (0,0,false)))) = some (r1,r2,r3) := h
 clear h
 replace H := Option.bind_eq_some_iff.mp H
 obtain ⟨t103,A20,H⟩ := H
 replace H : (if t103 = true then ((impl_Table_hull.f a0_0 a0_1).bind fun bt104 => (some (bt104.1,bt104.2,true))) else (some (0,0,false))) = some (r1,r2,r3) := H
 have A2 := aZ_ A20
 clear A20
 by_cases c3 : t103 = true
 ·subst c3
  have H1 : ((impl_Table_hull.f a0_0 a0_1).bind fun bt104 => (some (bt104.1,bt104.2,true))) = some (r1,r2,r3) := by rw [if_pos rfl] at H;exact H
  clear H
  have H := H1
  clear H1
  replace H := Option.bind_eq_some_iff.mp H
  obtain ⟨⟨t104,t105⟩,A40,H⟩ := H
  replace H : (some (t104,t105,true)) = some (r1,r2,r3) := H
  have A4 := aZ_ A40
  clear A40
  simp only [Option.some.injEq,Prod.mk.injEq] at H
  obtain ⟨rfl,rfl,rfl⟩ := H
  go_enter Try.func15,Try.ntmps15
  go_wp2_with (first | ((with_reducible refine gate_dst (N := 1) rfl ?_);refine box_event ?hg (N := 1) ?hd (cs := #[.int .i64 a0_0,.int .i64 a0_1]) (t := 25) ?hr ?_;(case hd => rfl);(case hg => rfl);(case hr => first | (go_simp;done) | (go_simp;rfl));intro gb101 hg w5 hbox hb;have n0_ := aZ_ (below_step T6_ hb);have n1_ := aZ_ (hbox);have n2_ := aZ_ ((T2_ : w.heap.size ≤ gb101));have n3_ := aZ_ ((T2_ : w.heap.size ≤ gb101));clear HB;have HB := n0_;have BK101 := n1_;have GW101 := n2_;have GE101 := n3_;clear n0_ n1_ n2_ n3_;clear hb hbox hg) | ((with_reducible refine gate_dst (N := 2) rfl ?_);refine box_event ?hg (N := 2) ?hd (cs := #[.int .i64 0,.int .i64 0]) (t := 25) ?hr ?_;(case hd => rfl);(case hg => rfl);(case hr => first | (go_simp;done) | (go_simp;rfl));intro gb102 hg w6 hbox hb;have n0_ := aZ_ (blk_below (g := gb101) (o := .cells #[.int .i64 a0_0,.int .i64 a0_1] 25 (0,0)) T1_ hb);have n1_ := aZ_ (below_step T3_ hb);have n2_ := aZ_ (hbox);have n3_ := aZ_ ((T5_ : w.heap.size ≤ gb102));have n4_ := aZ_ ((T5_ : w.heap.size ≤ gb102));have n5_ := aZ_ ((T8_ : gb101 ≠ gb102));have n6_ := aZ_ ((T9_ : gb102 ≠ gb101));clear BK101;clear HB;have BK101 := n0_;have HB := n1_;have BK102 := n2_;have GW102 := n3_;have GE102 := n4_;have NB101_102 := n5_;have NB102_101 := n6_;clear n0_ n1_ n2_ n3_ n4_ n5_ n6_;clear hb hbox hg;have hnb7 := NB101_102.out;have hnc7 := NB102_101.out;have hcz8_0 : w6.cell? ⟨gb101,0,none⟩ = some (.int .i64 a0_0) := (blk_cell BK101.out 0).trans rfl;have hcz8_1 : w6.cell? ⟨gb101,1,none⟩ = some (.int .i64 a0_1) := (blk_cell BK101.out 1).trans rfl;have hfz8_0 := blk_frozen BK101.out 0;have hfz8_1 := blk_frozen BK101.out 1) | ((with_reducible refine gate_callee (f := 30) rfl ?_);refine goesL_ (some 5) rfl rfl Try.func30 T21_ rfl #[.agg #[.int .i64 a0_0,.int .i64 a0_1]] rfl T4_ ?_;(with_reducible refine (impl_IsTable.calls a0_0 a0_1 true _ A2.out).mono ?_);rintro e w9 ⟨rfl,hb⟩;refine ⟨_,rfl,?_⟩;have n0_ := aZ_ (blk_below (g := gb101) (o := .cells #[.int .i64 a0_0,.int .i64 a0_1] 25 (0,0)) T1_ hb);have n1_ := aZ_ (blk_below (g := gb102) (o := .cells #[.int .i64 0,.int .i64 0] 25 (0,0)) T18_ hb);have n2_ := aZ_ (below_step T13_ hb);clear BK101;clear BK102;clear HB;have BK101 := n0_;have BK102 := n1_;have HB := n2_;clear n0_ n1_ n2_;(try clear hb);(try clear hb2);(try clear hk);(try clear hi);have hcz10_0 : w9.cell? ⟨gb101,0,none⟩ = some (.int .i64 a0_0) := (blk_cell BK101.out 0).trans rfl;have hcz10_1 : w9.cell? ⟨gb101,1,none⟩ = some (.int .i64 a0_1) := (blk_cell BK101.out 1).trans rfl;have hfz10_0 := blk_frozen BK101.out 0;have hfz10_1 := blk_frozen BK101.out 1) | ((with_reducible refine gate_callee (f := 38) rfl ?_);refine goesL_ (some 9) rfl rfl Try.func38 T21_ rfl #[.agg #[.int .i64 a0_0,.int .i64 a0_1]] rfl T4_ ?_;(with_reducible refine (impl_Table_hull.calls a0_0 a0_1 t104 t105 _ A4.out).mono ?_);rintro e w11 ⟨rfl,hb⟩;refine ⟨_,rfl,?_⟩;have n0_ := aZ_ (blk_below (g := gb101) (o := .cells #[.int .i64 a0_0,.int .i64 a0_1] 25 (0,0)) T1_ hb);have n1_ := aZ_ (blk_below (g := gb102) (o := .cells #[.int .i64 0,.int .i64 0] 25 (0,0)) T18_ hb);have n2_ := aZ_ (below_step T13_ hb);clear BK101;clear BK102;clear HB;have BK101 := n0_;have BK102 := n1_;have HB := n2_;clear n0_ n1_ n2_;(try clear hb);(try clear hb2);(try clear hk);(try clear hi);have hcz12_0 : w11.cell? ⟨gb102,0,none⟩ = some (.int .i64 0) := (blk_cell BK102.out 0).trans rfl;have hcz12_1 : w11.cell? ⟨gb102,1,none⟩ = some (.int .i64 0) := (blk_cell BK102.out 1).trans rfl;have hfz12_0 := blk_frozen BK102.out 0;have hfz12_1 := blk_frozen BK102.out 1))
  refine bodyPost_ret (results_ct rfl _ _ gb102 25 #[.int .i64 t104,.int .i64 t105] (0,0) _ rfl T43_ Try.underlying25 rfl T21_) rfl ?_
  exact ⟨by first | rfl | (simp [errW_none,errW_some] <;> rfl) | (simp [*,errW_none,errW_some] <;> rfl),by repeat (first | (with_reducible first | exact HB.out | apply below_alloc | apply pw_below_drewN | apply below_drew1 | refine below_set ?_ GE101.out | refine below_set ?_ GE102.out) | exact HB.out)⟩
 ·replace c3 := Bool.eq_false_iff.mpr c3
  subst c3
  have H1 : (some (0,0,false)) = some (r1,r2,r3) := by rw [if_neg (show ¬ (false = true) by decide)] at H;exact H
  clear H
  have H := H1
  clear H1
  simp only [Option.some.injEq,Prod.mk.injEq] at H
  obtain ⟨rfl,rfl,rfl⟩ := H
  go_enter Try.func15,Try.ntmps15
  go_wp2_with (first | ((with_reducible refine gate_dst (N := 1) rfl ?_);refine box_event ?hg (N := 1) ?hd (cs := #[.int .i64 a0_0,.int .i64 a0_1]) (t := 25) ?hr ?_;(case hd => rfl);(case hg => rfl);(case hr => first | (go_simp;done) | (go_simp;rfl));intro gb101 hg w13 hbox hb;have n0_ := aZ_ (below_step T6_ hb);have n1_ := aZ_ (hbox);have n2_ := aZ_ ((T2_ : w.heap.size ≤ gb101));have n3_ := aZ_ ((T2_ : w.heap.size ≤ gb101));clear HB;have HB := n0_;have BK101 := n1_;have GW101 := n2_;have GE101 := n3_;clear n0_ n1_ n2_ n3_;clear hb hbox hg) | ((with_reducible refine gate_dst (N := 2) rfl ?_);refine box_event ?hg (N := 2) ?hd (cs := #[.int .i64 0,.int .i64 0]) (t := 25) ?hr ?_;(case hd => rfl);(case hg => rfl);(case hr => first | (go_simp;done) | (go_simp;rfl));intro gb102 hg w14 hbox hb;have n0_ := aZ_ (blk_below (g := gb101) (o := .cells #[.int .i64 a0_0,.int .i64 a0_1] 25 (0,0)) T1_ hb);have n1_ := aZ_ (below_step T3_ hb);have n2_ := aZ_ (hbox);have n3_ := aZ_ ((T5_ : w.heap.size ≤ gb102));have n4_ := aZ_ ((T5_ : w.heap.size ≤ gb102));have n5_ := aZ_ ((T8_ : gb101 ≠ gb102));have n6_ := aZ_ ((T9_ : gb102 ≠ gb101));clear BK101;clear HB;have BK101 := n0_;have HB := n1_;have BK102 := n2_;have GW102 := n3_;have GE102 := n4_;have NB101_102 := n5_;have NB102_101 := n6_;clear n0_ n1_ n2_ n3_ n4_ n5_ n6_;clear hb hbox hg;have hnb15 := NB101_102.out;have hnc15 := NB102_101.out;have hcz16_0 : w14.cell? ⟨gb101,0,none⟩ = some (.int .i64 a0_0) := (blk_cell BK101.out 0).trans rfl;have hcz16_1 : w14.cell? ⟨gb101,1,none⟩ = some (.int .i64 a0_1) := (blk_cell BK101.out 1).trans rfl;have hfz16_0 := blk_frozen BK101.out 0;have hfz16_1 := blk_frozen BK101.out 1) | ((with_reducible refine gate_callee (f := 30) rfl ?_);refine goesL_ (some 5) rfl rfl Try.func30 T21_ rfl #[.agg #[.int .i64 a0_0,.int .i64 a0_1]] rfl T4_ ?_;(with_reducible refine (impl_IsTable.calls a0_0 a0_1 false _ A2.out).mono ?_);rintro e w17 ⟨rfl,hb⟩;refine ⟨_,rfl,?_⟩;have n0_ := aZ_ (blk_below (g := gb101) (o := .cells #[.int .i64 a0_0,.int .i64 a0_1] 25 (0,0)) T1_ hb);have n1_ := aZ_ (blk_below (g := gb102) (o := .cells #[.int .i64 0,.int .i64 0] 25 (0,0)) T18_ hb);have n2_ := aZ_ (below_step T13_ hb);clear BK101;clear BK102;clear HB;have BK101 := n0_;have BK102 := n1_;have HB := n2_;clear n0_ n1_ n2_;(try clear hb);(try clear hb2);(try clear hk);(try clear hi);have hcz18_0 : w17.cell? ⟨gb102,0,none⟩ = some (.int .i64 0) := (blk_cell BK102.out 0).trans rfl;have hcz18_1 : w17.cell? ⟨gb102,1,none⟩ = some (.int .i64 0) := (blk_cell BK102.out 1).trans rfl;have hfz18_0 := blk_frozen BK102.out 0;have hfz18_1 := blk_frozen BK102.out 1))
  refine bodyPost_ret (results_ct rfl _ _ gb102 25 #[.int .i64 0,.int .i64 0] (0,0) _ rfl T29_ Try.underlying25 rfl T21_) rfl ?_
  exact ⟨by first | rfl | (simp [errW_none,errW_some] <;> rfl) | (simp [*,errW_none,errW_some] <;> rfl),by repeat (first | (with_reducible first | exact HB.out | apply below_alloc | apply pw_below_drewN | apply below_drew1 | refine below_set ?_ GE101.out | refine below_set ?_ GE102.out) | exact HB.out)⟩
theorem eqA25 (d : Nat) (w : World) (x0 y0 : Int) (x1 y1 : Int) :
  (Op.equalIn (d + 2) 25 (.agg #[.int .i64 x0,.int .i64 x1]) (.agg #[.int .i64 y0,.int .i64 y1])).run Try.prog w = .ok (x0 == y0 && (x1 == y1)) w := by
 refine eqA_of Try.underlying25 T21_ ?_
 refine eqf_cons (by rfl) (by go_simp;rfl) (by go_simp;rfl) (by go_simp) ?_
 exact eqf_last (by rfl) (by go_simp;rfl) (by go_simp;rfl) (by go_simp)
end Go.Proofs.Ytgojehaneegaeab.F
namespace Go.Proofs.Ytgojehaneegaeab.F
open Go.RowKit Go.Proofs.YtgojehaneegaeabW.PrintWords Go.Proofs.YtgojehaneegaeabW.PrintLast Go.Proofs.YtgojehaneegaeabW.PrintMore
attribute [local go_sem] max2_int min2_int max_two min_two max_three min_three max_four min_four 
set_option linter.unusedVariables false
set_option linter.unusedSimpArgs false
attribute [local go_sem high] eqA25
def impl_IsSelfDual.f (a0_0 : Int) (a0_1 : Int) : Option (Bool) := (impl_IsTable.f a0_0 a0_1).bind fun t102 => (if t102 = true then ((impl_Table_dual.f a0_0 a0_1).bind fun bt103 => (some (bt103.1 == a0_0 && (bt103.2 == a0_1)))) else (some false))
def impl_IsSelfDual.T1 : Bool × List (List Nat × List Nat) := (true,[([],[]),([0],[0]),([1,1],[1]),([2],[2]),([3,2,2],[2,3]),([2],[2]),([4,5,2],[2,4,5]),([2,6],[2,6]),([7,4,0,1,2,3,4,5,6,7],[7])])
def impl_IsSelfDual.B1 : List Nat := [0,1,3,7,15,7,63,127,255]
theorem impl_IsSelfDual.tab1 : rtab .any (opsOf Try.f17 1) = impl_IsSelfDual.T1 := by kernel_rfl
theorem impl_IsSelfDual.bits1 : waitsOk impl_IsSelfDual.T1.2 impl_IsSelfDual.B1 = true := by kernel_rfl
set_option maxHeartbeats 8000000 in
set_option maxRecDepth 100000 in
theorem impl_IsSelfDual.calls (a0_0 : Int) (a0_1 : Int) (r : Bool) (w : World) (h : impl_IsSelfDual.f a0_0 a0_1 = some r) :
  Calls Try.prog 17 #[.agg #[.int .i64 a0_0,.int .i64 a0_1]] w fun e w' => e = .returned (.bool r) ∧ Below w.heap.size w w' := by
 have hu25 := Try.underlying25
 have HB := aZ_ (Below.refl w.heap.size w)
 have H : ((impl_IsTable.f a0_0 a0_1).bind fun t102 => (if t102 = true then ((impl_Table_dual.f a0_0 a0_1).bind fun bt103 => (some (bt103.1 == a0_0 && (bt103.2 == a0_1)))) else (some false))) = some r := h
 clear h
 replace H := Option.bind_eq_some_iff.mp H
 obtain ⟨t102,A20,H⟩ := H
 replace H : (if t102 = true then ((impl_Table_dual.f a0_0 a0_1).bind fun bt103 => (some (bt103.1 == a0_0 && (bt103.2 == a0_1)))) else (some false)) = some r := H
 have A2 := aZ_ A20
 clear A20
 by_cases c3 : t102 = true
 ·subst c3
  have H1 : ((impl_Table_dual.f a0_0 a0_1).bind fun bt103 => (some (bt103.1 == a0_0 && (bt103.2 == a0_1)))) = some r := by rw [if_pos rfl] at H;exact H
  clear H
  have H := H1
  clear H1
  replace H := Option.bind_eq_some_iff.mp H
  obtain ⟨⟨t103,t104⟩,A40,H⟩ := H
  replace H : (some (t103 == a0_0 && (t104 == a0_1))) = some r := H
  have A4 := aZ_ A40
  clear A40
  obtain rfl := Option.some.inj H
  go_enter Try.func17,Try.ntmps17
  try go_wp2_with (first | ((with_reducible refine gate_dst (N := 1) rfl ?_);refine box_event ?hg (N := 1) ?hd (cs := #[.int .i64 a0_0,.int .i64 a0_1]) (t := 25) ?hr ?_;(case hd => rfl);(case hg => rfl);(case hr => first | (go_simp;done) | (go_simp;rfl));intro gb101 hg w5 hbox hb;have n0_ := aZ_ (below_step T6_ hb);have n1_ := aZ_ (hbox);have n2_ := aZ_ ((T2_ : w.heap.size ≤ gb101));have n3_ := aZ_ ((T2_ : w.heap.size ≤ gb101));clear HB;have HB := n0_;have BK101 := n1_;have GW101 := n2_;have GE101 := n3_;clear n0_ n1_ n2_ n3_;clear hb hbox hg))
  have n0_ := aZ_ (blk_drew BK101.out)
  have n1_ := aZ_ (below_drew1 HB.out)
  clear BK101
  clear HB
  have BK101 := n0_
  have HB := n1_
  clear n0_ n1_
  refine start_ (n := 9) (S := fun w' => w'.cell? ⟨gb101,0,none⟩ = some (.int .i64 a0_0) ∧ w'.cell? ⟨gb101,1,none⟩ = some (.int .i64 a0_1)) (ds := []) #[false,false,false,false,false,false,false,false,false] T21_ rfl rfl ⟨(blk_cell BK101.out 0).trans rfl,(blk_cell BK101.out 1).trans rfl⟩ (fun hHeld => ?_);refine with_tabW impl_IsSelfDual.tab1 impl_IsSelfDual.bits1 (fun HT_ HW_ => ?_)
  generalize w5.drew = w6 at BK101 HB hHeld ⊢
  refine tZ2_ 0 (some 3) #[true,false,false,false,false,false,false,false,false] hHeld ?_
  refine one_ (i := 1) (N := some 4) #[true,true,false,false,false,false,false,false,false] rfl rfl (one_of HT_.out T21_) T66_ (fun K hK => ?_)
  refine gZ_ Try.func30 #[.agg #[.int .i64 a0_0,.int .i64 a0_1]] ?_
  with_reducible refine (impl_IsTable.calls a0_0 a0_1 true _ A2.out).mono ?_
  rintro e w7 ⟨rfl,hb⟩
  refine ⟨_,rfl,?_⟩
  have n0_ := aZ_ (blk_below (g := gb101) (o := .cells #[.int .i64 a0_0,.int .i64 a0_1] 25 (0,0)) T1_ hb)
  have n1_ := aZ_ (below_step T3_ hb)
  clear BK101
  clear HB
  have BK101 := n0_
  have HB := n1_
  clear n0_ n1_
  (try clear hb)
  (try clear hb2)
  (try clear hk)
  (try clear hi)
  refine hK.out _ _ ⟨(blk_cell BK101.out 0).trans rfl,(blk_cell BK101.out 1).trans rfl⟩ (fun hHeld => ?_)
  clear hK K
  refine norm_ (a' := ?_) ?_ ?_
  rotate_left
  ·show Act.put _ (some 4) _ = _
   simp only [Act.put,List.setIfInBounds_toArray,List.set_cons_zero,List.set_cons_succ,i64_w,i32_w]
   rfl
  refine pZ_ 2 (some 5) #[true,true,true,false,false,false,false,false,false] ?_
  refine tZ2_ 3 (some 6) #[true,true,true,true,false,false,false,false,false] hHeld ?_
  refine tZ2_ 5 (some 8) #[true,true,true,true,false,true,false,false,false] hHeld ?_
  refine one_ (i := 4) (N := some 7) #[true,true,true,true,true,true,false,false,false] rfl rfl (one_of HT_.out T21_) T66_ (fun K hK => ?_)
  refine gZ_ Try.func35 #[.agg #[.int .i64 a0_0,.int .i64 a0_1]] ?_
  with_reducible refine (impl_Table_dual.calls a0_0 a0_1 t103 t104 _ A4.out).mono ?_
  rintro e w8 ⟨rfl,hb⟩
  refine ⟨_,rfl,?_⟩
  have n0_ := aZ_ (blk_below (g := gb101) (o := .cells #[.int .i64 a0_0,.int .i64 a0_1] 25 (0,0)) T1_ hb)
  have n1_ := aZ_ (below_step T3_ hb)
  clear BK101
  clear HB
  have BK101 := n0_
  have HB := n1_
  clear n0_ n1_
  (try clear hb)
  (try clear hb2)
  (try clear hk)
  (try clear hi)
  refine hK.out _ _ ⟨(blk_cell BK101.out 0).trans rfl,(blk_cell BK101.out 1).trans rfl⟩ (fun hHeld => ?_)
  clear hK K
  refine norm_ (a' := ?_) ?_ ?_
  rotate_left
  ·show Act.put _ (some 7) _ = _
   simp only [Act.put,List.setIfInBounds_toArray,List.set_cons_zero,List.set_cons_succ,i64_w,i32_w]
   rfl
  refine pZ_ 6 (some 9) #[true,true,true,true,true,true,true,false,false] ?_
  refine pZ_ 7 (some 10) #[true,true,true,true,true,true,true,true,false] ?_
  refine pZ_ 8 (some 2) #[true,true,true,true,true,true,true,true,true] ?_
  refine done_ (done_of HT_.out T21_) ?_
  try go_wp2
  go_ret
  exact ⟨by first | rfl | (simp [errW_none,errW_some] <;> rfl) | (simp [*,errW_none,errW_some] <;> rfl),by repeat (first | (with_reducible first | exact HB.out | apply below_alloc | apply pw_below_drewN | apply below_drew1 | refine below_set ?_ GE101.out) | exact HB.out)⟩
 ·replace c3 := Bool.eq_false_iff.mpr c3
  subst c3
  have H1 : (some false) = some r := by rw [if_neg (show ¬ (false = true) by decide)] at H;exact H
  clear H
  have H := H1
  clear H1
  obtain rfl := Option.some.inj H
  go_enter Try.func17,Try.ntmps17
  try go_wp2_with (first | ((with_reducible refine gate_dst (N := 1) rfl ?_);refine box_event ?hg (N := 1) ?hd (cs := #[.int .i64 a0_0,.int .i64 a0_1]) (t := 25) ?hr ?_;(case hd => rfl);(case hg => rfl);(case hr => first | (go_simp;done) | (go_simp;rfl));intro gb101 hg w9 hbox hb;have n0_ := aZ_ (below_step T6_ hb);have n1_ := aZ_ (hbox);have n2_ := aZ_ ((T2_ : w.heap.size ≤ gb101));have n3_ := aZ_ ((T2_ : w.heap.size ≤ gb101));clear HB;have HB := n0_;have BK101 := n1_;have GW101 := n2_;have GE101 := n3_;clear n0_ n1_ n2_ n3_;clear hb hbox hg))
  have n0_ := aZ_ (blk_drew BK101.out)
  have n1_ := aZ_ (below_drew1 HB.out)
  clear BK101
  clear HB
  have BK101 := n0_
  have HB := n1_
  clear n0_ n1_
  refine start_ (n := 9) (S := fun w' => w'.cell? ⟨gb101,0,none⟩ = some (.int .i64 a0_0) ∧ w'.cell? ⟨gb101,1,none⟩ = some (.int .i64 a0_1)) (ds := []) #[false,false,false,false,false,false,false,false,false] T21_ rfl rfl ⟨(blk_cell BK101.out 0).trans rfl,(blk_cell BK101.out 1).trans rfl⟩ (fun hHeld => ?_);refine with_tabW impl_IsSelfDual.tab1 impl_IsSelfDual.bits1 (fun HT_ HW_ => ?_)
  generalize w9.drew = w10 at BK101 HB hHeld ⊢
  refine tZ2_ 0 (some 3) #[true,false,false,false,false,false,false,false,false] hHeld ?_
  refine one_ (i := 1) (N := some 4) #[true,true,false,false,false,false,false,false,false] rfl rfl (one_of HT_.out T21_) T66_ (fun K hK => ?_)
  refine gZ_ Try.func30 #[.agg #[.int .i64 a0_0,.int .i64 a0_1]] ?_
  with_reducible refine (impl_IsTable.calls a0_0 a0_1 false _ A2.out).mono ?_
  rintro e w11 ⟨rfl,hb⟩
  refine ⟨_,rfl,?_⟩
  have n0_ := aZ_ (blk_below (g := gb101) (o := .cells #[.int .i64 a0_0,.int .i64 a0_1] 25 (0,0)) T1_ hb)
  have n1_ := aZ_ (below_step T3_ hb)
  clear BK101
  clear HB
  have BK101 := n0_
  have HB := n1_
  clear n0_ n1_
  (try clear hb)
  (try clear hb2)
  (try clear hk)
  (try clear hi)
  refine hK.out _ _ ⟨(blk_cell BK101.out 0).trans rfl,(blk_cell BK101.out 1).trans rfl⟩ (fun hHeld => ?_)
  clear hK K
  refine norm_ (a' := ?_) ?_ ?_
  rotate_left
  ·show Act.put _ (some 4) _ = _
   simp only [Act.put,List.setIfInBounds_toArray,List.set_cons_zero,List.set_cons_succ,i64_w,i32_w]
   rfl
  refine pZ_ 2 (some 5) #[true,true,true,false,false,false,false,false,false] ?_
  refine oZ_ 3 (some 6) #[true,true,true,true,false,false,false,false,false] ?_
  refine oZ_ 4 (some 7) #[true,true,true,true,true,false,false,false,false] ?_
  refine oZ_ 5 (some 8) #[true,true,true,true,true,true,false,false,false] ?_
  refine oZ_ 6 (some 9) #[true,true,true,true,true,true,true,false,false] ?_
  refine pZ_ 7 (some 10) #[true,true,true,true,true,true,true,true,false] ?_
  refine pZ_ 8 (some 2) #[true,true,true,true,true,true,true,true,true] ?_
  refine done_ (done_of HT_.out T21_) ?_
  try go_wp2
  go_ret
  exact ⟨by first | rfl | (simp [errW_none,errW_some] <;> rfl) | (simp [*,errW_none,errW_some] <;> rfl),by repeat (first | (with_reducible first | exact HB.out | apply below_alloc | apply pw_below_drewN | apply below_drew1 | refine below_set ?_ GE101.out) | exact HB.out)⟩
end Go.Proofs.Ytgojehaneegaeab.F
namespace Go.Proofs.Ytgojehaneegaeab.F
open Go.RowKit Go.Proofs.YtgojehaneegaeabW.PrintWords Go.Proofs.YtgojehaneegaeabW.PrintLast Go.Proofs.YtgojehaneegaeabW.PrintMore
attribute [local go_sem] max2_int min2_int max_two min_two max_three min_three max_four min_four 
set_option linter.unusedVariables false
set_option linter.unusedSimpArgs false
set_option maxHeartbeats 400000 in
set_option maxRecDepth 100000 in
theorem slices_IndexFunc_int.any (A : Option Addr) (c : Nat) (l : List Int) (p : Int → Bool) (g : Nat) (lb : Array Value) (eg : ∀ args w,(callFunc g args).run Try.prog w = .ok (.enter g args) w) (w : World) (hr : Kd.C (Kd.int .i64) w A l.length l)
  (hp : ∀ (W : World) (x : Nat),x < l.length → Below w.heap.size w W → Gives Try.prog g lb #[.int .i64 (rd l x)] (.bool (p (rd l x))) W) (hl : l.length < 9223372036854775807) :
  Calls Try.prog 59 #[.slice A l.length c,.func (.func g) #[] lb] w fun e w' => ∃ r : Int,e = .returned (.int .i64 r) ∧ decide (0 ≤ r) = B.exN (fun x => p (rd l x)) l.length ∧ Below w.heap.size w w' := by
 have HP := aZ_ hp
 have HR := aZ_ hr
 have HL := aZ_ hl
 clear hp hr
 obtain ⟨M,hM⟩ : ∃ M : Nat,M = l.length := ⟨_,rfl⟩
 have HM := aZ_ hM
 go_enter Try.func59,Try.ntmps59
 go_wp2
 go_loopg [8] l.length (fun gg v8 wr => ∃ x : Nat,x ≤ l.length ∧ l.length - x ≤ gg ∧ v8 = .int .i64 x ∧ Aside0 (B.exN (fun x => p (rd l x)) x = false) ∧ Aside0 (Below w.heap.size w wr))
 case atStart => exact ⟨0,Nat.zero_le _,by omega,rfl,⟨rfl⟩,⟨Below.refl _ _⟩⟩
 case round =>
  obtain ⟨x,hx,hg,rfl,HZ,HB⟩ := hrel
  by_cases hlt : x < l.length
  ·have hltz : (x : Int) < (l.length : Int) := by omega
   have h0z : (0 : Int) ≤ (x : Int) := by omega
   have hcall := HP.out wr x hlt HB.out
   unfold Gives at hcall
   obtain ⟨ad,rfl,hc⟩ := Kd.at_int HR.out (x : Int) h0z hltz
   have hc' := (HB.out.cell (World.block_lt_of_cell? w _ hc)).trans hc
   rw [Int.toNat_natCast] at hc'
   cases hq : p (rd l x) with
   | true =>
    rw [hq] at hcall
    have HQ := aZ_ hq
    clear hq
    go_wp2_with (go_at_fn g;refine hcall.mono ?_;rintro e w' ⟨rfl,hb'⟩;have HB' := aZ_ (below_step HB.out hb');clear hb')
    go_ret
    refine ⟨_,rfl,?_,HB'.out⟩
    rw [B.exN_hit hlt HQ.out]
    exact decide_eq_true h0z
   | false =>
    rw [hq] at hcall
    have HQ := aZ_ hq
    clear hq
    go_wp2_with (go_at_fn g;refine hcall.mono ?_;rintro e w' ⟨rfl,hb'⟩;have HB' := aZ_ (below_step HB.out hb');clear hb')
    go_roundg (l.length - (x + 1))
    case measure => omega
    case rel => exact ⟨x + 1,by omega,by omega,by have := HL.out;go_num,⟨B.exN_skip HZ.out HQ.out⟩,HB'⟩
  ·have hltz : ¬ (x : Int) < (l.length : Int) := by omega
   obtain rfl : x = l.length := by omega
   go_wp2
   go_ret
   exact ⟨-1,rfl,by rw [HZ.out];decide,HB.out⟩
set_option maxHeartbeats 400000 in
set_option maxRecDepth 100000 in
theorem slices_ContainsFunc_int.any (A : Option Addr) (c : Nat) (l : List Int) (p : Int → Bool) (g : Nat) (lb : Array Value) (eg : ∀ args w,(callFunc g args).run Try.prog w = .ok (.enter g args) w) (w : World) (hr : Kd.C (Kd.int .i64) w A l.length l)
  (hp : ∀ (W : World) (x : Nat),x < l.length → Below w.heap.size w W → Gives Try.prog g lb #[.int .i64 (rd l x)] (.bool (p (rd l x))) W) (hl : l.length < 9223372036854775807) :
  Calls Try.prog 40 #[.slice A l.length c,.func (.func g) #[] lb] w fun e w' => e = .returned (.bool (B.exN (fun x => p (rd l x)) l.length)) ∧ Below w.heap.size w w' := by
 have HC := slices_IndexFunc_int.any A c l p g lb eg w hr hp hl
 clear hp hr
 go_enter Try.func40,Try.ntmps40
 go_wp2_with (go_at_call 59;refine HC.mono ?_;rintro e w' ⟨r,rfl,hd,hb⟩)
 go_ret
 exact ⟨by rw [← hd];rfl,hb⟩
set_option maxHeartbeats 400000 in
theorem impl_TableOfPoints_1.any (n x : Int) (b : Bool) (hb : impl_isInput.f n x = some b) (g1 : Nat) (W : World) (h1 : W.heap[g1]? = some (.cells #[.int .i64 n] 3 (0,0))) :
  Gives Try.prog 41 #[.pointer (some ⟨g1,0,none⟩)] #[.int .i64 x] (.bool (!b)) W := by
 show Calls Try.prog 41 #[.int .i64 x,.pointer (some ⟨g1,0,none⟩)] W _
 have hc0 : W.cell? ⟨g1,0,none⟩ = some (.int .i64 n) := (blk_cell h1 0).trans rfl
 have HB := aZ_ hb
 clear hb h1
 go_enter Try.func41,Try.ntmps41
 go_wp2_with (go_at_call 42;refine (impl_isInput.calls n x b _ HB.out).mono ?_;rintro e w' ⟨rfl,hd⟩)
 go_ret
 exact ⟨rfl,hd.below⟩
def impl_TableOfPoints.w (l : List Int) : Nat → Int
 | 0 => 0
 | i + 1 => Go.bits .or .i64 (impl_TableOfPoints.w l i) (shl .i64 1 (rd l i))
def impl_TableOfPoints.no (n x : Int) : Bool := impl_isInput.f n x == some false
def impl_TableOfPoints.f (a0 : Int) (l1 : List Int) : Option (Int × Int × Bool) :=
 (impl_isBits.f a0).bind fun t => if t = true then
  (if B.allN (fun i => (impl_isInput.f a0 (rd l1 i)).isSome) l1.length = true ∧ l1.length < 9223372036854775807 then
   (if B.exN (fun i => impl_TableOfPoints.no a0 (rd l1 i)) l1.length = true then some (0,0,false)
    else if B.allN (fun i => decide (0 ≤ rd l1 i)) l1.length = true then (impl_Table_hull.f a0 (impl_TableOfPoints.w l1 l1.length)).bind fun r => some (r.1,r.2,true) else none) else none) else some (0,0,false)
set_option maxHeartbeats 400000 in
set_option maxRecDepth 100000 in
theorem impl_TableOfPoints.calls (a0 : Int) (A1 : Option Addr) (c1 : Nat) (l1 : List Int) (r1 r2 : Int) (r3 : Bool) (w : World) (hr1 : Kd.C (Kd.int .i64) w A1 l1.length l1) (hc1 : l1.length ≤ c1) (h : impl_TableOfPoints.f a0 l1 = some (r1,r2,r3)) :
  Calls Try.prog 18 #[.int .i64 a0,.slice A1 l1.length c1] w fun e w' => e = .returned (.tuple #[.agg #[.int .i64 r1,.int .i64 r2],.bool r3]) ∧ Below w.heap.size w w' := by
 have hu := Try.underlying25
 have HR := aZ_ hr1
 clear hr1
 unfold impl_TableOfPoints.f at h
 obtain ⟨t,ht,h⟩ := Option.bind_eq_some_iff.mp h
 have HT := aZ_ ht
 clear ht
 have k1 := blk_alloc (blk_new w (.cells #[.int .i64 a0] 3 (0,0))) (.cells #[.int .i64 0,.int .i64 0] 25 (0,0))
 have k2 : ((w.alloc (.cells #[.int .i64 a0] 3 (0,0))).alloc (.cells #[.int .i64 0,.int .i64 0] 25 (0,0))).heap[w.heap.size + 1]? = some (.cells #[.int .i64 0,.int .i64 0] 25 (0,0)) := by simpa using blk_new (w.alloc (.cells #[.int .i64 a0] 3 (0,0))) (.cells #[.int .i64 0,.int .i64 0] 25 (0,0))
 have kb := below_alloc (below_alloc (Below.refl w.heap.size w) (.cells #[.int .i64 a0] 3 (0,0))) (.cells #[.int .i64 0,.int .i64 0] 25 (0,0))
 cases t with
 | false =>
  rw [if_neg T66_] at h
  cases h
  go_enter Try.func18,Try.ntmps18
  go_wp2_with (go_at_call 39;refine (impl_isBits.calls a0 false _ HT.out).mono ?_;rintro e w' ⟨rfl,hd⟩;have K2 := blk_below k2 hd.below;have HB := below_step kb hd.below;have hc0 : w'.cell? ⟨w.heap.size + 1,0,none⟩ = some (.int .i64 0) := (blk_cell K2 0).trans rfl;have hc1 : w'.cell? ⟨w.heap.size + 1,1,none⟩ = some (.int .i64 0) := (blk_cell K2 1).trans rfl;have hf0 := blk_frozen K2 0;have hf1 := blk_frozen K2 1)
  refine bodyPost_ret (results_ct rfl _ _ (w.heap.size + 1) 25 #[.int .i64 0,.int .i64 0] (0,0) _ rfl (by refine blk_put (cs := #[.int .i64 0,.int .i64 0]) ?_ 1 _ rfl;refine blk_put (cs := #[.int .i64 0,.int .i64 0]) ?_ 0 _ rfl;exact K2) Try.underlying25 rfl T21_) rfl ?_
  exact ⟨rfl,below_set (below_set HB (Nat.le_succ _)) (Nat.le_succ _)⟩
 | true =>
  rw [if_pos rfl] at h
  split at h
  next ha =>
   have HL := aZ_ ha.2
   have HA := aZ_ (B.allN_iff.mp ha.1)
   clear ha
   have eg := enters_of Try.func41 T21_ rfl
   have EG := aZ_ eg
   clear eg
   have HC : ∀ w' : World,w'.heap[w.heap.size]? = some (.cells #[.int .i64 a0] 3 (0,0)) → Below w.heap.size w w' → Calls Try.prog 40 #[.slice A1 l1.length c1,.func (.func 41) #[] #[.pointer (some ⟨w.heap.size,0,none⟩)]] w' fun e w'' => e = .returned (.bool (B.exN (fun i => impl_TableOfPoints.no a0 (rd l1 i)) l1.length)) ∧ Below w'.heap.size w' w'' := by
    intro w' hk hb
    refine slices_ContainsFunc_int.any A1 c1 l1 (impl_TableOfPoints.no a0) 41 _ EG.out w' (Kd.Heap.C (Kd.heap_int .i64) hb.block HR.out) (fun W x hx hw => ?_) HL.out
    obtain ⟨b,hb'⟩ := Option.isSome_iff_exists.mp (HA.out x hx)
    have e : impl_TableOfPoints.no a0 (rd l1 x) = !b := by unfold impl_TableOfPoints.no;rw [hb'];cases b <;> rfl
    rw [e]
    exact impl_TableOfPoints_1.any a0 (rd l1 x) b hb' _ W (blk_below hk hw)
   have HCC := aZ_ HC
   clear HC
   obtain ⟨q,hq⟩ : ∃ q,q = B.exN (fun i => impl_TableOfPoints.no a0 (rd l1 i)) l1.length := ⟨_,rfl⟩
   rw [← hq] at h HCC
   have HQ := aZ_ hq
   clear hq
   cases q with
   | true =>
    rw [if_pos rfl] at h
    cases h
    go_enter Try.func18,Try.ntmps18
    go_wp2_with (first | (go_at_call 39;refine (impl_isBits.calls a0 true _ HT.out).mono ?_;rintro e w' ⟨rfl,hd⟩;have K1 := blk_below k1 hd.below;have K2 := blk_below k2 hd.below;have HB := below_step kb hd.below;have hc0 : w'.cell? ⟨w.heap.size,0,none⟩ = some (.int .i64 a0) := (blk_cell K1 0).trans rfl) | (go_at_call 40;refine (HCC.out _ K1 HB).mono ?_;rintro e w2 ⟨rfl,hd2⟩;have K2' := blk_below K2 hd2;have HB' := below_step HB hd2;have hx0 : w2.cell? ⟨w.heap.size + 1,0,none⟩ = some (.int .i64 0) := (blk_cell K2' 0).trans rfl;have hx1 : w2.cell? ⟨w.heap.size + 1,1,none⟩ = some (.int .i64 0) := (blk_cell K2' 1).trans rfl;have hf0 := blk_frozen K2' 0;have hf1 := blk_frozen K2' 1))
    refine bodyPost_ret (results_ct rfl _ _ (w.heap.size + 1) 25 #[.int .i64 0,.int .i64 0] (0,0) _ rfl (by refine blk_put (cs := #[.int .i64 0,.int .i64 0]) ?_ 1 _ rfl;refine blk_put (cs := #[.int .i64 0,.int .i64 0]) ?_ 0 _ rfl;exact K2') Try.underlying25 rfl T21_) rfl ?_
    exact ⟨rfl,below_set (below_set HB' (Nat.le_succ _)) (Nat.le_succ _)⟩
   | false =>
    rw [if_neg T66_] at h
    split at h
    next hz =>
     have HZ := aZ_ (B.allN_iff.mp hz)
     clear hz
     obtain ⟨⟨s1,s2⟩,hs,h⟩ := Option.bind_eq_some_iff.mp h
     have HS := aZ_ hs
     clear hs
     cases h
     go_enter Try.func18,Try.ntmps18
     go_wp2_with (first | (go_at_call 39;refine (impl_isBits.calls a0 true _ HT.out).mono ?_;rintro e w' ⟨rfl,hd⟩;have K1 := blk_below k1 hd.below;have K2 := blk_below k2 hd.below;have HB := below_step kb hd.below;have hc0 : w'.cell? ⟨w.heap.size,0,none⟩ = some (.int .i64 a0) := (blk_cell K1 0).trans rfl) | (go_at_call 40;refine (HCC.out _ K1 HB).mono ?_;rintro e w2 ⟨rfl,hd2⟩;have K1' := blk_below K1 hd2;have K2' := blk_below K2 hd2;have HB' := below_step HB hd2;have hx0 : w2.cell? ⟨w.heap.size,0,none⟩ = some (.int .i64 a0) := (blk_cell K1' 0).trans rfl))
     have hG := blk_lt K2'
     have KF := aZ_ (blk_new w2 (.cells #[.int .i64 a0,.int .i64 0] 25 (0,0)))
     have KB := aZ_ (below_alloc HB' (.cells #[.int .i64 a0,.int .i64 0] 25 (0,0)))
     have K3 := aZ_ (blk_alloc K2' (.cells #[.int .i64 a0,.int .i64 0] 25 (0,0)))
     clear hd hd2 K1 K2 K1' K2' HB HB' hc0 hx0 kb k1 k2
     generalize w2.alloc (.cells #[.int .i64 a0,.int .i64 0] 25 (0,0)) = w4 at KF KB K3 ⊢
     generalize w2.heap.size = G at hG KF ⊢
     go_loopg [22] l1.length (fun gg v22 wr => ∃ x : Nat,x ≤ l1.length ∧ l1.length - x ≤ gg ∧ v22 = .int .i64 x ∧ Aside0 (wr.heap[G]? = some (.cells #[.int .i64 a0,.int .i64 (impl_TableOfPoints.w l1 x)] 25 (0,0))) ∧ Aside0 (wr.heap[w.heap.size + 1]? = some (.cells #[.int .i64 0,.int .i64 0] 25 (0,0))) ∧ Aside0 (Below w.heap.size w wr))
     case atStart => exact ⟨0,Nat.zero_le _,by omega,rfl,KF,K3,KB⟩
     case round =>
      obtain ⟨x,hx,hg,rfl,BF,BK,HB⟩ := hrel
      by_cases hlt : x < l1.length
      ·have hltz : (x : Int) < (l1.length : Int) := by omega
       have h0z : (0 : Int) ≤ (x : Int) := by omega
       obtain ⟨ad,rfl,hc⟩ := Kd.at_int HR.out (x : Int) h0z hltz
       have hc' := (HB.out.cell (World.block_lt_of_cell? w _ hc)).trans hc
       rw [Int.toNat_natCast] at hc'
       clear hc
       have h0r : 0 ≤ rd l1 (x : Int) := of_decide_eq_true (HZ.out x hlt)
       have hw : impl_TableOfPoints.w l1 (x + 1) = Go.bits .or .i64 (impl_TableOfPoints.w l1 x) (shl .i64 1 (rd l1 x)) := rfl
       have HW := aZ_ hw
       clear hw
       obtain ⟨j,hj⟩ : ∃ j : Int,shl .i64 1 (rd l1 (x : Int)) = j := ⟨_,rfl⟩
       rw [hj] at HW
       have hj1 : (IntKind.i64.wrap (1 * 2 ^ min (rd l1 (x : Int)).toNat 64)) = j := hj
       have hj2 : (IntKind.i64.wrap (2 ^ min (rd l1 (x : Int)).toNat 64)) = j := by have h_ := hj1;rw [Int.one_mul] at h_;exact h_
       have hj3 : (wrap64 (1 * 2 ^ min (rd l1 (x : Int)).toNat 64)) = j := (i64_w _).symm.trans hj1
       have hj4 : (wrap64 (2 ^ min (rd l1 (x : Int)).toNat 64)) = j := (i64_w _).symm.trans hj2
       have he1 : wr.cell? ⟨G,1,none⟩ = some (.int .i64 (impl_TableOfPoints.w l1 x)) := (blk_cell BF.out 1).trans rfl
       have hf1 := blk_frozen BF.out 1
       go_wp2
       go_region
       go_wp2
       go_roundg (l1.length - (x + 1))
       case measure => omega
       case rel =>
        refine ⟨x + 1,by omega,by omega,by rw [B.wrap64_succ (by have := HL.out;omega)],⟨?_⟩,⟨?_⟩,⟨?_⟩⟩
        ·rw [HW.out]
         exact blk_drew (blk_put BF.out 1 _ rfl)
        ·exact blk_drew (blk_far BK.out (by show _ ≠ G;omega) _)
        ·exact below_drew1 (below_set HB.out T74_)
      ·have hltz : ¬ (x : Int) < (l1.length : Int) := by omega
       obtain rfl : x = l1.length := by omega
       have he0 : wr.cell? ⟨G,0,none⟩ = some (.int .i64 a0) := (blk_cell BF.out 0).trans rfl
       have he1 : wr.cell? ⟨G,1,none⟩ = some (.int .i64 (impl_TableOfPoints.w l1 l1.length)) := (blk_cell BF.out 1).trans rfl
       go_wp2_with (go_at_call 38;refine (impl_Table_hull.calls a0 (impl_TableOfPoints.w l1 l1.length) s1 s2 _ HS.out).mono ?_;rintro e w5 ⟨rfl,hd5⟩;have K5 := blk_below BK.out hd5;have HB5 := below_step HB.out hd5;have hx0 : w5.cell? ⟨w.heap.size + 1,0,none⟩ = some (.int .i64 0) := (blk_cell K5 0).trans rfl;have hx1 : w5.cell? ⟨w.heap.size + 1,1,none⟩ = some (.int .i64 0) := (blk_cell K5 1).trans rfl;have hf0 := blk_frozen K5 0;have hf1 := blk_frozen K5 1)
       refine bodyPost_ret (results_ct rfl _ _ (w.heap.size + 1) 25 #[.int .i64 s1,.int .i64 s2] (0,0) _ rfl (by refine blk_put (cs := #[.int .i64 s1,.int .i64 0]) ?_ 1 _ rfl;refine blk_put (cs := #[.int .i64 0,.int .i64 0]) ?_ 0 _ rfl;exact K5) Try.underlying25 rfl T21_) rfl ?_
       exact ⟨rfl,below_set (below_set HB5 (Nat.le_succ _)) (Nat.le_succ _)⟩
    next => cases h
  next => cases h
def impl_Table_cube.p (w m v : Nat) (b : Bool) (x : Nat) : Bool := (x &&& m == v) && (w.testBit x == b)
def impl_Table_cube.v (s0 s1 : Bool) : Int := if s0 = true ∧ s1 = true then 2 else if s1 = true then 1 else 0
def impl_Table_cube.f (a0_0 a0_1 a1 a2 : Int) : Option Int :=
 if 0 ≤ a0_0 ∧ a0_0 ≤ 5 ∧ 0 ≤ a0_1 ∧ a0_1 < 4294967296 ∧ 0 ≤ a1 ∧ a1 < 64 ∧ 0 ≤ a2 ∧ a2 < 64 then some (impl_Table_cube.v (B.exN (impl_Table_cube.p a0_1.toNat a1.toNat a2.toNat false) (2 ^ a0_0.toNat)) (B.exN (impl_Table_cube.p a0_1.toNat a1.toNat a2.toNat true) (2 ^ a0_0.toNat))) else none
set_option maxHeartbeats 2000000 in
set_option maxRecDepth 100000 in
theorem impl_Table_cube.any (n v m q : Nat) (hn : n ≤ 5) (hv : v < 4294967296) (hm : m < 64) (hq : q < 64) (w : World) :
  Calls Try.prog 72 #[.agg #[.int .i64 n,.int .i64 v],.int .i64 m,.int .i64 q] w fun e w' => e = .returned (.int .i64 (impl_Table_cube.v (B.exN (impl_Table_cube.p v m q false) (2 ^ n)) (B.exN (impl_Table_cube.p v m q true) (2 ^ n)))) ∧ Below w.heap.size w w' := by
 have hu := Try.underlying25
 obtain ⟨M,hM⟩ : ∃ M : Nat,M = 2 ^ n := ⟨_,rfl⟩
 have hM32 : M ≤ 32 := by rw [hM];exact B.pow_le hn
 have HSZ : Aside0 (impl_Table_size.f (n : Int) (v : Int) = some (M : Int)) := ⟨by unfold impl_Table_size.f;rw [if_pos T74_,B.shl1_of T74_,hM]⟩
 rw [← hM]
 have HV := aZ_ hv
 have HM := aZ_ hm
 have HQ := aZ_ hq
 clear hM hv hm hq hn
 have hpp : ∀ b x,impl_Table_cube.p v m q b x = ((x &&& m == q) && (v.testBit x == b)) := fun _ _ => rfl
 generalize impl_Table_cube.p v m q = p at hpp ⊢
 have HP := aZ_ hpp
 clear hpp
 go_enter Try.func72,Try.ntmps72
 have k1_ : ((w.alloc (.cells #[.int .i64 n,.int .i64 v] 25 (0,0))).alloc (.cells #[.bool false,.bool false] 76 (0,0))).heap[w.heap.size + 1]? = some (.cells #[.bool false,.bool false] 76 (0,0)) := by simpa using blk_new (w.alloc (.cells #[.int .i64 n,.int .i64 v] 25 (0,0))) (.cells #[.bool false,.bool false] 76 (0,0))
 go_wp2_with (go_at_call 50;refine (impl_Table_size.calls n v M _ HSZ.out).mono ?_;rintro e w2 ⟨rfl,hb⟩;have BK0 := aZ_ (blk_below (blk_alloc (blk_new w (.cells #[.int .i64 n,.int .i64 v] 25 (0,0))) _) hb);have BK1 := aZ_ (blk_below k1_ hb);have HB := aZ_ (below_step (below_alloc (below_alloc (Below.refl w.heap.size w) _) _) hb);clear hb)
 go_loopg [12] M (fun gg v12 wr => ∃ x : Nat,x ≤ M ∧ M - x ≤ gg ∧ v12 = .int .i64 x ∧ Aside0 (wr.heap[w.heap.size]? = some (.cells #[.int .i64 n,.int .i64 v] 25 (0,0))) ∧ Aside0 (wr.heap[w.heap.size + 1]? = some (.cells #[.bool (B.exN (p false) x),.bool (B.exN (p true) x)] 76 (0,0))) ∧ Aside0 (Below w.heap.size w wr))
 case atStart => exact ⟨0,Nat.zero_le _,by omega,rfl,BK0,BK1,HB⟩
 case round =>
  clear BK0 BK1 HB
  obtain ⟨x,hx,hg,rfl,BK0,BK1,HB⟩ := hrel
  by_cases hlt : x < M
  ·have hltz : (x : Int) < (M : Int) := by omega
   have hc0 : wr.cell? ⟨w.heap.size,0,none⟩ = some (.int .i64 n) := (blk_cell BK0.out 0).trans rfl
   have hc1 : wr.cell? ⟨w.heap.size,1,none⟩ = some (.int .i64 v) := (blk_cell BK0.out 1).trans rfl
   have hand : Go.bits .and .i64 (x : Int) (m : Int) = ((x &&& m : Nat) : Int) := B.and_cast T74_ (by have := HM.out;omega)
   have HAT := aZ_ (at_some (n := n) (w := v) (x := x) (by have := HV.out;omega) T74_)
   have hpf := HP.out false x
   have hpt := HP.out true x
   by_cases hc : x &&& m = q
   ·have hcz1 : (((x &&& m : Nat) : Int) == (q : Int)) = true := by rw [hc];exact beq_self_eq_true _
    have hcz2 : decide (((x &&& m : Nat) : Int) = (q : Int)) = true := decide_eq_true (by rw [hc])
    rw [beq_iff_eq.mpr hc,Bool.true_and] at hpf hpt
    generalize x &&& m = xm at hand hcz1 hcz2
    cases hw : v.testBit x with
    | true =>
     rw [hw] at hpf hpt
     have hbit : B.bitN v x = 1 := B.bitN_eq_one.mpr hw
     rw [hbit] at HAT
     have HPF := aZ_ hpf
     have HPT := aZ_ hpt
     have HX := aZ_ (And.intro hx (And.intro hg (And.intro hlt hM32)))
     clear hpf hpt hw hbit hc hx hg hlt hM32
     go_wp2_with (go_at_call 52;refine (impl_Table_at.calls n v x 1 _ HAT.out).mono ?_;rintro e w' ⟨rfl,hb'⟩;have BK0' := aZ_ (blk_below BK0.out hb');have BK1' := aZ_ (blk_below BK1.out hb');have HB' := aZ_ (below_step HB.out hb');clear hb';have hd1 : w'.cell? ⟨w.heap.size + 1,1,none⟩ = some (.bool (B.exN (p true) x)) := (blk_cell BK1'.out 1).trans rfl;have hf1 : w'.frozen? ⟨w.heap.size + 1,1,none⟩ = false := blk_frozen BK1'.out 1)
     go_roundg (M - (x + 1))
     case measure => have := HX.out;omega
     case rel =>
      refine ⟨x + 1,by have := HX.out;omega,by omega,(by have hx_ := HX.out;have e_ : wrap64 ((x : Int) + 1) = ((x + 1 : Nat) : Int) := B.wrap64_succ T74_;first | (rw [e_];done) | (simp only [i64_w];rw [e_];done) | (congr 1;done) | go_num),⟨blk_far BK0'.out T67_ _⟩,⟨?_⟩,⟨below_set HB'.out (Nat.le_succ _)⟩⟩
      rw [show B.exN (p false) (x + 1) = B.exN (p false) x by rw [B.exN,HPF.out];exact Bool.or_false _,show B.exN (p true) (x + 1) = true by rw [B.exN,HPT.out];exact Bool.or_true _]
      exact blk_put BK1'.out 1 _ rfl
    | false =>
     rw [hw] at hpf hpt
     have hbit : B.bitN v x = 0 := B.bitN_eq_zero.mpr hw
     rw [hbit] at HAT
     have HPF := aZ_ hpf
     have HPT := aZ_ hpt
     have HX := aZ_ (And.intro hx (And.intro hg (And.intro hlt hM32)))
     clear hpf hpt hw hbit hc hx hg hlt hM32
     go_wp2_with (go_at_call 52;refine (impl_Table_at.calls n v x 0 _ HAT.out).mono ?_;rintro e w' ⟨rfl,hb'⟩;have BK0' := aZ_ (blk_below BK0.out hb');have BK1' := aZ_ (blk_below BK1.out hb');have HB' := aZ_ (below_step HB.out hb');clear hb';have hd1 : w'.cell? ⟨w.heap.size + 1,0,none⟩ = some (.bool (B.exN (p false) x)) := (blk_cell BK1'.out 0).trans rfl;have hf1 : w'.frozen? ⟨w.heap.size + 1,0,none⟩ = false := blk_frozen BK1'.out 0)
     go_roundg (M - (x + 1))
     case measure => have := HX.out;omega
     case rel =>
      refine ⟨x + 1,by have := HX.out;omega,by omega,(by have hx_ := HX.out;have e_ : wrap64 ((x : Int) + 1) = ((x + 1 : Nat) : Int) := B.wrap64_succ T74_;first | (rw [e_];done) | (simp only [i64_w];rw [e_];done) | (congr 1;done) | go_num),⟨blk_far BK0'.out T67_ _⟩,⟨?_⟩,⟨below_set HB'.out (Nat.le_succ _)⟩⟩
      rw [show B.exN (p true) (x + 1) = B.exN (p true) x by rw [B.exN,HPT.out];exact Bool.or_false _,show B.exN (p false) (x + 1) = true by rw [B.exN,HPF.out];exact Bool.or_true _]
      exact blk_put BK1'.out 0 _ rfl
   ·have hcz1 : (((x &&& m : Nat) : Int) == (q : Int)) = false := beq_eq_false_iff_ne.mpr T74_
    have hcz2 : decide (((x &&& m : Nat) : Int) = (q : Int)) = false := decide_eq_false T74_
    rw [beq_eq_false_iff_ne.mpr hc,Bool.false_and] at hpf hpt
    have HPF := aZ_ hpf
    have HPT := aZ_ hpt
    have HX := aZ_ (And.intro hx (And.intro hg (And.intro hlt hM32)))
    clear hpf hpt hx hg hlt hM32
    generalize x &&& m = xm at hand hcz1 hcz2 hc
    clear hc
    go_wp2
    go_roundg (M - (x + 1))
    case measure => have := HX.out;omega
    case rel =>
     refine ⟨x + 1,by have := HX.out;omega,by omega,(by have hx_ := HX.out;have e_ : wrap64 ((x : Int) + 1) = ((x + 1 : Nat) : Int) := B.wrap64_succ T74_;first | (rw [e_];done) | (simp only [i64_w];rw [e_];done) | (congr 1;done) | go_num),BK0,⟨?_⟩,HB⟩
     rw [show B.exN (p true) (x + 1) = B.exN (p true) x by rw [B.exN,HPT.out];exact Bool.or_false _,show B.exN (p false) (x + 1) = B.exN (p false) x by rw [B.exN,HPF.out];exact Bool.or_false _]
     exact BK1.out
  ·have hltz : ¬ (x : Int) < (M : Int) := by omega
   obtain rfl : x = M := by omega
   have hd0 : wr.cell? ⟨w.heap.size + 1,0,none⟩ = some (.bool (B.exN (p false) x)) := (blk_cell BK1.out 0).trans rfl
   have hd1 : wr.cell? ⟨w.heap.size + 1,1,none⟩ = some (.bool (B.exN (p true) x)) := (blk_cell BK1.out 1).trans rfl
   clear hx hg hlt BK0 BK1
   obtain ⟨s0,e0⟩ : ∃ s0,B.exN (p false) x = s0 := ⟨_,rfl⟩
   obtain ⟨s1,e1⟩ : ∃ s1,B.exN (p true) x = s1 := ⟨_,rfl⟩
   rw [e0] at hd0
   rw [e1] at hd1
   have E0 := aZ_ e0
   have E1 := aZ_ e1
   clear e0 e1
   cases s0 <;> cases s1
   all_goals
    go_wp2
    go_ret
    exact ⟨by rw [E0.out,E1.out];rfl,HB.out⟩
theorem impl_Table_cube.calls (a0_0 a0_1 a1 a2 r : Int) (w : World) (h : impl_Table_cube.f a0_0 a0_1 a1 a2 = some r) :
  Calls Try.prog 72 #[.agg #[.int .i64 a0_0,.int .i64 a0_1],.int .i64 a1,.int .i64 a2] w fun e w' => e = .returned (.int .i64 r) ∧ Below w.heap.size w w' := by
 unfold impl_Table_cube.f at h
 split at h
 next hc =>
  obtain ⟨n,rfl⟩ := Int.eq_ofNat_of_zero_le hc.1
  obtain ⟨v,rfl⟩ := Int.eq_ofNat_of_zero_le hc.2.2.1
  obtain ⟨m,rfl⟩ := Int.eq_ofNat_of_zero_le hc.2.2.2.2.1
  obtain ⟨q,rfl⟩ := Int.eq_ofNat_of_zero_le hc.2.2.2.2.2.2.1
  simp only [Int.toNat_natCast] at h
  obtain rfl := Option.some.inj h
  exact impl_Table_cube.any n v m q T74_ T74_ T74_ T74_ w
 next => cases h
def impl_Table_isImplicant.f (a0_0 : Int) (a0_1 : Int) (a1_0 : Int) (a1_1 : Int) : Option (Bool) := (impl_Table_cube.f a0_0 a0_1 a1_0 a1_1).bind fun t103 => (some (t103 == 1))
set_option maxHeartbeats 8000000 in
set_option maxRecDepth 100000 in
theorem impl_Table_isImplicant.calls (a0_0 : Int) (a0_1 : Int) (a1_0 : Int) (a1_1 : Int) (r : Bool) (w : World) (h : impl_Table_isImplicant.f a0_0 a0_1 a1_0 a1_1 = some r) :
  Calls Try.prog 69 #[.agg #[.int .i64 a0_0,.int .i64 a0_1],.agg #[.int .i64 a1_0,.int .i64 a1_1]] w fun e w' => e = .returned (.bool r) ∧ Below w.heap.size w w' := by
 have hu25 := Try.underlying25
 have hu38 := Try.underlying38
 have HB := aZ_ (Below.refl w.heap.size w)
 have H : ((impl_Table_cube.f a0_0 a0_1 a1_0 a1_1).bind fun t103 => (some (t103 == 1))) = some r := h
 clear h
 replace H := Option.bind_eq_some_iff.mp H
 obtain ⟨t103,A30,H⟩ := H
 replace H : (some (t103 == 1)) = some r := H
 have A3 := aZ_ A30
 clear A30
 obtain rfl := Option.some.inj H
 go_enter Try.func69,Try.ntmps69
 go_wp2_with (first | ((with_reducible refine gate_dst (N := 2) rfl ?_);refine box_event ?hg (N := 2) ?hd (cs := #[.int .i64 a0_0,.int .i64 a0_1]) (t := 25) ?hr ?_;(case hd => rfl);(case hg => rfl);(case hr => first | (go_simp;done) | (go_simp;rfl));intro gb101 hg w4 hbox hb;have n0_ := aZ_ (below_step T6_ hb);have n1_ := aZ_ (hbox);have n2_ := aZ_ ((T2_ : w.heap.size ≤ gb101));have n3_ := aZ_ ((T2_ : w.heap.size ≤ gb101));clear HB;have HB := n0_;have BK101 := n1_;have GW101 := n2_;have GE101 := n3_;clear n0_ n1_ n2_ n3_;clear hb hbox hg) | ((with_reducible refine gate_dst (N := 3) rfl ?_);refine box_event ?hg (N := 3) ?hd (cs := #[.int .i64 a1_0,.int .i64 a1_1]) (t := 38) ?hr ?_;(case hd => rfl);(case hg => rfl);(case hr => first | (go_simp;done) | (go_simp;rfl));intro gb102 hg w5 hbox hb;have n0_ := aZ_ (blk_below (g := gb101) (o := .cells #[.int .i64 a0_0,.int .i64 a0_1] 25 (0,0)) T1_ hb);have n1_ := aZ_ (below_step T3_ hb);have n2_ := aZ_ (hbox);have n3_ := aZ_ ((T5_ : w.heap.size ≤ gb102));have n4_ := aZ_ ((T5_ : w.heap.size ≤ gb102));have n5_ := aZ_ ((T8_ : gb101 ≠ gb102));have n6_ := aZ_ ((T9_ : gb102 ≠ gb101));clear BK101;clear HB;have BK101 := n0_;have HB := n1_;have BK102 := n2_;have GW102 := n3_;have GE102 := n4_;have NB101_102 := n5_;have NB102_101 := n6_;clear n0_ n1_ n2_ n3_ n4_ n5_ n6_;clear hb hbox hg;have hnb6 := NB101_102.out;have hnc6 := NB102_101.out;have hcz7_0 : w5.cell? ⟨gb101,0,none⟩ = some (.int .i64 a0_0) := (blk_cell BK101.out 0).trans rfl;have hcz7_1 : w5.cell? ⟨gb101,1,none⟩ = some (.int .i64 a0_1) := (blk_cell BK101.out 1).trans rfl;have hfz7_0 := blk_frozen BK101.out 0;have hfz7_1 := blk_frozen BK101.out 1;have hcz8_0 : w5.cell? ⟨gb102,0,none⟩ = some (.int .i64 a1_0) := (blk_cell BK102.out 0).trans rfl;have hcz8_1 : w5.cell? ⟨gb102,1,none⟩ = some (.int .i64 a1_1) := (blk_cell BK102.out 1).trans rfl;have hfz8_0 := blk_frozen BK102.out 0;have hfz8_1 := blk_frozen BK102.out 1) | ((with_reducible refine gate_callee (f := 72) rfl ?_);refine goesL_ (some 10) rfl rfl Try.func72 T21_ rfl #[.agg #[.int .i64 a0_0,.int .i64 a0_1],.int .i64 a1_0,.int .i64 a1_1] rfl T4_ ?_;(with_reducible refine (impl_Table_cube.calls a0_0 a0_1 a1_0 a1_1 t103 _ A3.out).mono ?_);rintro e w9 ⟨rfl,hb⟩;refine ⟨_,rfl,?_⟩;have n0_ := aZ_ (blk_below (g := gb101) (o := .cells #[.int .i64 a0_0,.int .i64 a0_1] 25 (0,0)) T1_ hb);have n1_ := aZ_ (blk_below (g := gb102) (o := .cells #[.int .i64 a1_0,.int .i64 a1_1] 38 (0,0)) T18_ hb);have n2_ := aZ_ (below_step T13_ hb);clear BK101;clear BK102;clear HB;have BK101 := n0_;have BK102 := n1_;have HB := n2_;clear n0_ n1_ n2_;(try clear hb);(try clear hb2);(try clear hk);(try clear hi)))
 go_ret
 exact ⟨by first | rfl | (simp [errW_none,errW_some] <;> rfl) | (simp [*,errW_none,errW_some] <;> rfl),by repeat (first | (with_reducible first | exact HB.out | apply below_alloc | apply pw_below_drewN | apply below_drew1 | refine below_set ?_ GE101.out | refine below_set ?_ GE102.out) | exact HB.out)⟩
def impl_Table_isPrime.l0 : Nat → Int → Int → Int → Int → Int → Int → Option (Bool)
 | 0,_,_,_,_,_,_ => none
 | k + 1,x12,x13,x102000,x102001,x103000,x103001 => if x13 < x12 then (if 0 ≤ x13 then (if (Go.bits .and .i64 x103000 (shl .i64 1 x13)) = 0 then (impl_Table_isPrime.l0 k x12 (wrap64 (x13 + 1)) x102000 x102001 x103000 x103001) else ((impl_Table_isImplicant.f x102000 x102001 (Go.bits .andNot .i64 x103000 (shl .i64 1 x13)) (Go.bits .andNot .i64 x103001 (shl .i64 1 x13))).bind fun t104 => (if t104 = true then (some false) else (impl_Table_isPrime.l0 k x12 (wrap64 (x13 + 1)) x102000 x102001 x103000 x103001)))) else (none)) else (some true)
def impl_Table_isPrime.f (k : Nat) (a0_0 : Int) (a0_1 : Int) (a1_0 : Int) (a1_1 : Int) : Option (Bool) := (impl_Table_isImplicant.f a0_0 a0_1 a1_0 a1_1).bind fun t103 => (if t103 = true then (impl_Table_isPrime.l0 k a0_0 0 a0_0 a0_1 a1_0 a1_1) else (some false))
set_option maxHeartbeats 8000000 in
set_option maxRecDepth 100000 in
theorem impl_Table_isPrime.calls (k : Nat) (a0_0 : Int) (a0_1 : Int) (a1_0 : Int) (a1_1 : Int) (r : Bool) (w : World) (h : impl_Table_isPrime.f k a0_0 a0_1 a1_0 a1_1 = some r) :
  Calls Try.prog 60 #[.agg #[.int .i64 a0_0,.int .i64 a0_1],.agg #[.int .i64 a1_0,.int .i64 a1_1]] w fun e w' => e = .returned (.bool r) ∧ Below w.heap.size w w' := by
 have hu25 := Try.underlying25
 have hu38 := Try.underlying38
 have HB := aZ_ (Below.refl w.heap.size w)
 have H : ((impl_Table_isImplicant.f a0_0 a0_1 a1_0 a1_1).bind fun t103 => (if t103 = true then (impl_Table_isPrime.l0 k a0_0 0 a0_0 a0_1 a1_0 a1_1) else (some false))) = some r := h
 clear h
 replace H := Option.bind_eq_some_iff.mp H
 obtain ⟨t103,A30,H⟩ := H
 replace H : (if t103 = true then (impl_Table_isPrime.l0 k a0_0 0 a0_0 a0_1 a1_0 a1_1) else (some false)) = some r := H
 have A3 := aZ_ A30
 clear A30
 by_cases c4 : t103 = true
 ·subst c4
  have H1 : (impl_Table_isPrime.l0 k a0_0 0 a0_0 a0_1 a1_0 a1_1) = some r := by rw [if_pos rfl] at H;exact H
  clear H
  have H := H1
  clear H1
  have H' := aZ_ H
  clear H
  go_enter Try.func60,Try.ntmps60
  go_wp2_with (first | ((with_reducible refine gate_dst (N := 2) rfl ?_);refine box_event ?hg (N := 2) ?hd (cs := #[.int .i64 a0_0,.int .i64 a0_1]) (t := 25) ?hr ?_;(case hd => rfl);(case hg => rfl);(case hr => first | (go_simp;done) | (go_simp;rfl));intro gb101 hg w5 hbox hb;have n0_ := aZ_ (below_step T6_ hb);have n1_ := aZ_ (hbox);have n2_ := aZ_ ((T2_ : w.heap.size ≤ gb101));have n3_ := aZ_ ((T2_ : w.heap.size ≤ gb101));clear HB;have HB := n0_;have BK101 := n1_;have GW101 := n2_;have GE101 := n3_;clear n0_ n1_ n2_ n3_;clear hb hbox hg) | ((with_reducible refine gate_dst (N := 3) rfl ?_);refine box_event ?hg (N := 3) ?hd (cs := #[.int .i64 a1_0,.int .i64 a1_1]) (t := 38) ?hr ?_;(case hd => rfl);(case hg => rfl);(case hr => first | (go_simp;done) | (go_simp;rfl));intro gb102 hg w6 hbox hb;have n0_ := aZ_ (blk_below (g := gb101) (o := .cells #[.int .i64 a0_0,.int .i64 a0_1] 25 (0,0)) T1_ hb);have n1_ := aZ_ (below_step T3_ hb);have n2_ := aZ_ (hbox);have n3_ := aZ_ ((T5_ : w.heap.size ≤ gb102));have n4_ := aZ_ ((T5_ : w.heap.size ≤ gb102));have n5_ := aZ_ ((T8_ : gb101 ≠ gb102));have n6_ := aZ_ ((T9_ : gb102 ≠ gb101));clear BK101;clear HB;have BK101 := n0_;have HB := n1_;have BK102 := n2_;have GW102 := n3_;have GE102 := n4_;have NB101_102 := n5_;have NB102_101 := n6_;clear n0_ n1_ n2_ n3_ n4_ n5_ n6_;clear hb hbox hg;have hnb7 := NB101_102.out;have hnc7 := NB102_101.out;have hcz8_0 : w6.cell? ⟨gb101,0,none⟩ = some (.int .i64 a0_0) := (blk_cell BK101.out 0).trans rfl;have hcz8_1 : w6.cell? ⟨gb101,1,none⟩ = some (.int .i64 a0_1) := (blk_cell BK101.out 1).trans rfl;have hfz8_0 := blk_frozen BK101.out 0;have hfz8_1 := blk_frozen BK101.out 1;have hcz9_0 : w6.cell? ⟨gb102,0,none⟩ = some (.int .i64 a1_0) := (blk_cell BK102.out 0).trans rfl;have hcz9_1 : w6.cell? ⟨gb102,1,none⟩ = some (.int .i64 a1_1) := (blk_cell BK102.out 1).trans rfl;have hfz9_0 := blk_frozen BK102.out 0;have hfz9_1 := blk_frozen BK102.out 1) | ((with_reducible refine gate_callee (f := 69) rfl ?_);refine goesL_ (some 9) rfl rfl Try.func69 T21_ rfl #[.agg #[.int .i64 a0_0,.int .i64 a0_1],.agg #[.int .i64 a1_0,.int .i64 a1_1]] rfl T4_ ?_;(with_reducible refine (impl_Table_isImplicant.calls a0_0 a0_1 a1_0 a1_1 true _ A3.out).mono ?_);rintro e w10 ⟨rfl,hb⟩;refine ⟨_,rfl,?_⟩;have n0_ := aZ_ (blk_below (g := gb101) (o := .cells #[.int .i64 a0_0,.int .i64 a0_1] 25 (0,0)) T1_ hb);have n1_ := aZ_ (blk_below (g := gb102) (o := .cells #[.int .i64 a1_0,.int .i64 a1_1] 38 (0,0)) T18_ hb);have n2_ := aZ_ (below_step T13_ hb);clear BK101;clear BK102;clear HB;have BK101 := n0_;have BK102 := n1_;have HB := n2_;clear n0_ n1_ n2_;(try clear hb);(try clear hb2);(try clear hk);(try clear hi);have hcz11_0 : w10.cell? ⟨gb101,0,none⟩ = some (.int .i64 a0_0) := (blk_cell BK101.out 0).trans rfl;have hcz11_1 : w10.cell? ⟨gb101,1,none⟩ = some (.int .i64 a0_1) := (blk_cell BK101.out 1).trans rfl;have hfz11_0 := blk_frozen BK101.out 0;have hfz11_1 := blk_frozen BK101.out 1))
  go_loopg [13] k (fun kq v13 w' => ∃ (x13_1 : Int),v13 = .int .i64 x13_1 ∧ Aside0 (impl_Table_isPrime.l0 kq a0_0 x13_1 a0_0 a0_1 a1_0 a1_1 = some r) ∧ Aside0 (kq ≤ k) ∧ Aside0 (w'.heap[gb101]? = some (.cells #[.int .i64 a0_0,.int .i64 a0_1] 25 (0,0))) ∧ Aside0 (w'.heap[gb102]? = some (.cells #[.int .i64 a1_0,.int .i64 a1_1] 38 (0,0))) ∧ Aside0 (Below w.heap.size w w'))
  case atStart => exact ⟨(0),T11_,H',⟨Nat.le_refl _⟩,⟨by (with_reducible repeat (first | refine blk_drewN ?_ _ | refine blk_drew ?_ | refine blk_alloc ?_ _));exact BK101.out⟩,⟨by (with_reducible repeat (first | refine blk_drewN ?_ _ | refine blk_drew ?_ | refine blk_alloc ?_ _));exact BK102.out⟩,⟨by repeat (first | (with_reducible first | exact HB.out | apply below_alloc | apply pw_below_drewN | apply below_drew1 | refine below_set ?_ GE101.out | refine below_set ?_ GE102.out) | exact HB.out)⟩⟩
  case round =>
   clear H'
   try clear p2
   try clear c4
   try clear c6
   try clear c7
   try clear hcz11_0
   try clear hcz11_1
   try clear hcz8_0
   try clear hcz8_1
   try clear hcz9_0
   try clear hcz9_1
   try clear hfz11_0
   try clear hfz11_1
   try clear hfz8_0
   try clear hfz8_1
   try clear hfz9_0
   try clear hfz9_1
   obtain ⟨x13_1,rfl,HA,HK1,BK101,BK102,HB⟩ := hrel
   cases gk with
   | zero => exact absurd HA.out (by simp [impl_Table_isPrime.l0])
   | succ k1 =>
    have H := HA.out
    clear HA
    simp only [impl_Table_isPrime.l0] at H
    by_cases c12 : x13_1 < a0_0
    ·rw [if_pos c12] at H
     have c12b0 : decide (x13_1 < a0_0) = true := decide_eq_true c12
     clear c12
     by_cases c13 : 0 ≤ x13_1
     ·rw [if_pos c13] at H
      have c13b0 := eq_true c13
      have c13b1 : decide (0 ≤ x13_1) = true := decide_eq_true c13
      clear c13
      obtain ⟨ji14,hji14⟩ : ∃ j_ : Int,(shl .i64 1 x13_1) = j_ := ⟨_,rfl⟩
      replace H : (if (Go.bits .and .i64 a1_0 (ji14)) = 0 then (impl_Table_isPrime.l0 k1 a0_0 (wrap64 (x13_1 + 1)) a0_0 a0_1 a1_0 a1_1) else ((impl_Table_isImplicant.f a0_0 a0_1 (Go.bits .andNot .i64 a1_0 (ji14)) (Go.bits .andNot .i64 a1_1 (ji14))).bind fun t104 => (if t104 = true then (some false) else (impl_Table_isPrime.l0 k1 a0_0 (wrap64 (x13_1 + 1)) a0_0 a0_1 a1_0 a1_1)))) = some r := by first | (rw [hji14] at H;exact H) | (simp only [hji14] at H ⊢;exact H)
      have hji14_ : (IntKind.i64.wrap (1 * 2 ^ min x13_1.toNat 64)) = ji14 := hji14
      have hji14z : x13_1 ≤ 64 → (IntKind.i64.wrap (1 * 2 ^ x13_1.toNat)) = ji14 := shl_small hji14
      have hji14u : (IntKind.i64.wrap (2 ^ min x13_1.toNat 64)) = ji14 := by have h_ := hji14_;rw [Int.one_mul] at h_;exact h_
      have hji14v : x13_1 ≤ 64 → (IntKind.i64.wrap (2 ^ x13_1.toNat)) = ji14 := fun hle_ => by have h_ := hji14z hle_;rw [Int.one_mul] at h_;exact h_
      have hji14y : (wrap64 (1 * 2 ^ min x13_1.toNat 64)) = ji14 := (i64_w _).symm.trans hji14_
      have hji14x : x13_1 ≤ 64 → (wrap64 (1 * 2 ^ x13_1.toNat)) = ji14 := fun h_ => (i64_w _).symm.trans (hji14z h_)
      by_cases c15 : (Go.bits .and .i64 a1_0 (ji14)) = 0
      ·rw [if_pos c15] at H
       have c15b0 : ((Go.bits .and .i64 a1_0 (ji14)) == 0) = true := beq_iff_eq.mpr c15
       have c15b1 : ((Go.bits .and .i64 a1_0 (ji14)) != 0) = false := bne_eq_false_iff_eq.mpr c15
       clear c15
       have H' := aZ_ H
       clear H
       have hnb16 := NB102_101.out
       have hnc16 := NB101_102.out
       have hcz17_0 : wr.cell? ⟨gb102,0,none⟩ = some (.int .i64 a1_0) := (blk_cell BK102.out 0).trans rfl
       have hcz17_1 : wr.cell? ⟨gb102,1,none⟩ = some (.int .i64 a1_1) := (blk_cell BK102.out 1).trans rfl
       have hfz17_0 := blk_frozen BK102.out 0
       have hfz17_1 := blk_frozen BK102.out 1
       go_wp2
       go_roundg k1
       case measure => have := HK1.out;omega
       case rel => exact ⟨(wrap64 (x13_1 + 1)),T11_,H',⟨by have := HK1.out;omega⟩,⟨by (with_reducible repeat (first | refine blk_drewN ?_ _ | refine blk_drew ?_ | refine blk_alloc ?_ _));exact BK101.out⟩,⟨by (with_reducible repeat (first | refine blk_drewN ?_ _ | refine blk_drew ?_ | refine blk_alloc ?_ _));exact BK102.out⟩,⟨by repeat (first | (with_reducible first | exact HB.out | apply below_alloc | apply pw_below_drewN | apply below_drew1 | refine below_set ?_ GE101.out | refine below_set ?_ GE102.out) | exact HB.out)⟩⟩
      ·rw [if_neg c15] at H
       have c15b0 : ((Go.bits .and .i64 a1_0 (ji14)) == 0) = false := beq_eq_false_iff_ne.mpr c15
       have c15b1 : ((Go.bits .and .i64 a1_0 (ji14)) != 0) = true := bne_iff_ne.mpr c15
       replace H := Option.bind_eq_some_iff.mp H
       obtain ⟨t104,A180,H⟩ := H
       replace H : (if t104 = true then (some false) else (impl_Table_isPrime.l0 k1 a0_0 (wrap64 (x13_1 + 1)) a0_0 a0_1 a1_0 a1_1)) = some r := H
       have A18 := aZ_ A180
       clear A180
       by_cases c19 : t104 = true
       ·subst c19
        have H1 : (some false) = some r := by rw [if_pos rfl] at H;exact H
        clear H
        have H := H1
        clear H1
        obtain rfl := Option.some.inj H
        have hnb20 := NB102_101.out
        have hnc20 := NB101_102.out
        have hcz21_0 : wr.cell? ⟨gb102,0,none⟩ = some (.int .i64 a1_0) := (blk_cell BK102.out 0).trans rfl
        have hcz21_1 : wr.cell? ⟨gb102,1,none⟩ = some (.int .i64 a1_1) := (blk_cell BK102.out 1).trans rfl
        have hfz21_0 := blk_frozen BK102.out 0
        have hfz21_1 := blk_frozen BK102.out 1
        have hcz22_0 : wr.cell? ⟨gb101,0,none⟩ = some (.int .i64 a0_0) := (blk_cell BK101.out 0).trans rfl
        have hcz22_1 : wr.cell? ⟨gb101,1,none⟩ = some (.int .i64 a0_1) := (blk_cell BK101.out 1).trans rfl
        have hfz22_0 := blk_frozen BK101.out 0
        have hfz22_1 := blk_frozen BK101.out 1
        go_wp2_with (first | (go_at_call 69;(with_reducible refine (impl_Table_isImplicant.calls a0_0 a0_1 (Go.bits .andNot .i64 a1_0 (ji14)) (Go.bits .andNot .i64 a1_1 (ji14)) true _ A18.out).mono ?_);rintro e w23 ⟨rfl,hb⟩;have n0_ := aZ_ (blk_below (g := gb101) (o := .cells #[.int .i64 a0_0,.int .i64 a0_1] 25 (0,0)) T1_ hb);have n1_ := aZ_ (blk_below (g := gb102) (o := .cells #[.int .i64 a1_0,.int .i64 a1_1] 38 (0,0)) T18_ hb);have n2_ := aZ_ (below_step T13_ hb);clear BK101;clear BK102;clear HB;have BK101 := n0_;have BK102 := n1_;have HB := n2_;clear n0_ n1_ n2_;(try clear hb);(try clear hb2);(try clear hk);(try clear hi)))
        go_ret
        exact ⟨by first | rfl | (simp [errW_none,errW_some] <;> rfl) | (simp only [← hji14];first | rfl | (simp [errW_none,errW_some] <;> rfl)) | (simp [*,errW_none,errW_some] <;> rfl),by repeat (first | (with_reducible first | exact HB.out | apply below_alloc | apply pw_below_drewN | apply below_drew1 | refine below_set ?_ GE101.out | refine below_set ?_ GE102.out) | exact HB.out)⟩
       ·replace c19 := Bool.eq_false_iff.mpr c19
        subst c19
        have H1 : (impl_Table_isPrime.l0 k1 a0_0 (wrap64 (x13_1 + 1)) a0_0 a0_1 a1_0 a1_1) = some r := by rw [if_neg (show ¬ (false = true) by decide)] at H;exact H
        clear H
        have H := H1
        clear H1
        have H' := aZ_ H
        clear H
        have hnb24 := NB102_101.out
        have hnc24 := NB101_102.out
        have hcz25_0 : wr.cell? ⟨gb102,0,none⟩ = some (.int .i64 a1_0) := (blk_cell BK102.out 0).trans rfl
        have hcz25_1 : wr.cell? ⟨gb102,1,none⟩ = some (.int .i64 a1_1) := (blk_cell BK102.out 1).trans rfl
        have hfz25_0 := blk_frozen BK102.out 0
        have hfz25_1 := blk_frozen BK102.out 1
        have hcz26_0 : wr.cell? ⟨gb101,0,none⟩ = some (.int .i64 a0_0) := (blk_cell BK101.out 0).trans rfl
        have hcz26_1 : wr.cell? ⟨gb101,1,none⟩ = some (.int .i64 a0_1) := (blk_cell BK101.out 1).trans rfl
        have hfz26_0 := blk_frozen BK101.out 0
        have hfz26_1 := blk_frozen BK101.out 1
        go_wp2_with (first | (go_at_call 69;(with_reducible refine (impl_Table_isImplicant.calls a0_0 a0_1 (Go.bits .andNot .i64 a1_0 (ji14)) (Go.bits .andNot .i64 a1_1 (ji14)) false _ A18.out).mono ?_);rintro e w27 ⟨rfl,hb⟩;have n0_ := aZ_ (blk_below (g := gb101) (o := .cells #[.int .i64 a0_0,.int .i64 a0_1] 25 (0,0)) T1_ hb);have n1_ := aZ_ (blk_below (g := gb102) (o := .cells #[.int .i64 a1_0,.int .i64 a1_1] 38 (0,0)) T18_ hb);have n2_ := aZ_ (below_step T13_ hb);clear BK101;clear BK102;clear HB;have BK101 := n0_;have BK102 := n1_;have HB := n2_;clear n0_ n1_ n2_;(try clear hb);(try clear hb2);(try clear hk);(try clear hi)))
        go_roundg k1
        case measure => have := HK1.out;omega
        case rel => exact ⟨(wrap64 (x13_1 + 1)),T11_,H',⟨by have := HK1.out;omega⟩,⟨by (with_reducible repeat (first | refine blk_drewN ?_ _ | refine blk_drew ?_ | refine blk_alloc ?_ _));exact BK101.out⟩,⟨by (with_reducible repeat (first | refine blk_drewN ?_ _ | refine blk_drew ?_ | refine blk_alloc ?_ _));exact BK102.out⟩,⟨by repeat (first | (with_reducible first | exact HB.out | apply below_alloc | apply pw_below_drewN | apply below_drew1 | refine below_set ?_ GE101.out | refine below_set ?_ GE102.out) | exact HB.out)⟩⟩
     ·rw [if_neg c13] at H
      exact absurd H T67_
    ·rw [if_neg c12] at H
     have c12b0 : decide (x13_1 < a0_0) = false := decide_eq_false c12
     clear c12
     obtain rfl := Option.some.inj H
     go_wp2
     go_ret
     exact ⟨by first | rfl | (simp [errW_none,errW_some] <;> rfl) | (simp [*,errW_none,errW_some] <;> rfl),by repeat (first | (with_reducible first | exact HB.out | apply below_alloc | apply pw_below_drewN | apply below_drew1 | refine below_set ?_ GE101.out | refine below_set ?_ GE102.out) | exact HB.out)⟩
 ·replace c4 := Bool.eq_false_iff.mpr c4
  subst c4
  have H1 : (some false) = some r := by rw [if_neg (show ¬ (false = true) by decide)] at H;exact H
  clear H
  have H := H1
  clear H1
  obtain rfl := Option.some.inj H
  go_enter Try.func60,Try.ntmps60
  go_wp2_with (first | ((with_reducible refine gate_dst (N := 2) rfl ?_);refine box_event ?hg (N := 2) ?hd (cs := #[.int .i64 a0_0,.int .i64 a0_1]) (t := 25) ?hr ?_;(case hd => rfl);(case hg => rfl);(case hr => first | (go_simp;done) | (go_simp;rfl));intro gb101 hg w28 hbox hb;have n0_ := aZ_ (below_step T6_ hb);have n1_ := aZ_ (hbox);have n2_ := aZ_ ((T2_ : w.heap.size ≤ gb101));have n3_ := aZ_ ((T2_ : w.heap.size ≤ gb101));clear HB;have HB := n0_;have BK101 := n1_;have GW101 := n2_;have GE101 := n3_;clear n0_ n1_ n2_ n3_;clear hb hbox hg) | ((with_reducible refine gate_dst (N := 3) rfl ?_);refine box_event ?hg (N := 3) ?hd (cs := #[.int .i64 a1_0,.int .i64 a1_1]) (t := 38) ?hr ?_;(case hd => rfl);(case hg => rfl);(case hr => first | (go_simp;done) | (go_simp;rfl));intro gb102 hg w29 hbox hb;have n0_ := aZ_ (blk_below (g := gb101) (o := .cells #[.int .i64 a0_0,.int .i64 a0_1] 25 (0,0)) T1_ hb);have n1_ := aZ_ (below_step T3_ hb);have n2_ := aZ_ (hbox);have n3_ := aZ_ ((T5_ : w.heap.size ≤ gb102));have n4_ := aZ_ ((T5_ : w.heap.size ≤ gb102));have n5_ := aZ_ ((T8_ : gb101 ≠ gb102));have n6_ := aZ_ ((T9_ : gb102 ≠ gb101));clear BK101;clear HB;have BK101 := n0_;have HB := n1_;have BK102 := n2_;have GW102 := n3_;have GE102 := n4_;have NB101_102 := n5_;have NB102_101 := n6_;clear n0_ n1_ n2_ n3_ n4_ n5_ n6_;clear hb hbox hg;have hnb30 := NB101_102.out;have hnc30 := NB102_101.out;have hcz31_0 : w29.cell? ⟨gb101,0,none⟩ = some (.int .i64 a0_0) := (blk_cell BK101.out 0).trans rfl;have hcz31_1 : w29.cell? ⟨gb101,1,none⟩ = some (.int .i64 a0_1) := (blk_cell BK101.out 1).trans rfl;have hfz31_0 := blk_frozen BK101.out 0;have hfz31_1 := blk_frozen BK101.out 1;have hcz32_0 : w29.cell? ⟨gb102,0,none⟩ = some (.int .i64 a1_0) := (blk_cell BK102.out 0).trans rfl;have hcz32_1 : w29.cell? ⟨gb102,1,none⟩ = some (.int .i64 a1_1) := (blk_cell BK102.out 1).trans rfl;have hfz32_0 := blk_frozen BK102.out 0;have hfz32_1 := blk_frozen BK102.out 1) | ((with_reducible refine gate_callee (f := 69) rfl ?_);refine goesL_ (some 9) rfl rfl Try.func69 T21_ rfl #[.agg #[.int .i64 a0_0,.int .i64 a0_1],.agg #[.int .i64 a1_0,.int .i64 a1_1]] rfl T4_ ?_;(with_reducible refine (impl_Table_isImplicant.calls a0_0 a0_1 a1_0 a1_1 false _ A3.out).mono ?_);rintro e w33 ⟨rfl,hb⟩;refine ⟨_,rfl,?_⟩;have n0_ := aZ_ (blk_below (g := gb101) (o := .cells #[.int .i64 a0_0,.int .i64 a0_1] 25 (0,0)) T1_ hb);have n1_ := aZ_ (blk_below (g := gb102) (o := .cells #[.int .i64 a1_0,.int .i64 a1_1] 38 (0,0)) T18_ hb);have n2_ := aZ_ (below_step T13_ hb);clear BK101;clear BK102;clear HB;have BK101 := n0_;have BK102 := n1_;have HB := n2_;clear n0_ n1_ n2_;(try clear hb);(try clear hb2);(try clear hk);(try clear hi)))
  go_ret
  exact ⟨by first | rfl | (simp [errW_none,errW_some] <;> rfl) | (simp [*,errW_none,errW_some] <;> rfl),by repeat (first | (with_reducible first | exact HB.out | apply below_alloc | apply pw_below_drewN | apply below_drew1 | refine below_set ?_ GE101.out | refine below_set ?_ GE102.out) | exact HB.out)⟩
end Go.Proofs.Ytgojehaneegaeab.F
