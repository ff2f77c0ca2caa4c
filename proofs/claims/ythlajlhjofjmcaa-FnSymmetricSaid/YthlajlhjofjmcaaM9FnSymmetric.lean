/- Walks of Go functions and lemmas on what they compute, for the row of FnSymmetric (a part of several): each call ends as the Lean function of its name tells; the conditions are those of each theorem. -/
import Derived.Test.YthlajlhjofjmcaaM1FnSymmetric
import Derived.Test.YthlajlhjofjmcaaM2FnSymmetric
import Derived.Test.YthlajlhjofjmcaaM3FnSymmetric
import Derived.Test.YthlajlhjofjmcaaM5FnSymmetric
import Derived.Test.YthlajlhjofjmcaaM7FnSymmetric
namespace Go.Proofs.Ythlajlhjofjmcaa.F
open Go.RowKit Go.Proofs.YthlajlhjofjmcaaW.PrintWords Go.Proofs.YthlajlhjofjmcaaW.PrintLast Go.Proofs.YthlajlhjofjmcaaW.PrintMore
attribute [local go_sem] max2_int min2_int max_two min_two max_three min_three max_four min_four 
set_option linter.unusedVariables false
set_option linter.unusedSimpArgs false
mutual
def spec_GroupsOf.l0 : Nat → List (List Int) → Int → Int → Int → Option ((List (List Int)))
 | 0,_,_,_,_ => none
 | k + 1,x3,x4,x102000,x102001 => (spec_IsTable.f x102000 x102001).bind fun t105 => (if t105 = true then (spec_GroupsOf.j1 k x3 x4 (decide (x4 < x102000)) x102000 x102001) else (spec_GroupsOf.j1 k x3 x4 false x102000 x102001))
def spec_GroupsOf.j1 : Nat → List (List Int) → Int → Bool → Int → Int → Option ((List (List Int)))
 | 0,_,_,_,_,_ => none
 | k + 1,x3,x4,x15,x102000,x102001 => if x15 = true then (spec_GroupsOf.l1 k x3 x4 false 0 x102000 x102001) else (some x3)
def spec_GroupsOf.l1 : Nat → List (List Int) → Int → Bool → Int → Int → Int → Option ((List (List Int)))
 | 0,_,_,_,_,_,_ => none
 | k + 1,x3,x4,x5,x6,x102000,x102001 => if x6 < (x3.length : Int) then (spec_GroupsOf.j3 k x3 x4 x5 x6 (!x5) x102000 x102001) else (spec_GroupsOf.j3 k x3 x4 x5 x6 false x102000 x102001)
def spec_GroupsOf.j3 : Nat → List (List Int) → Int → Bool → Int → Bool → Int → Int → Option ((List (List Int)))
 | 0,_,_,_,_,_,_,_ => none
 | k + 1,x3,x4,x5,x6,x25,x102000,x102001 => if x25 = true then (if 0 ≤ x6 then (if x6 < (x3.length : Int) then (if 0 < ((rd_L2 x3 x6).length : Int) then ((spec_AreExchangeable.f k x102000 x102001 (rd (rd_L2 x3 x6) 0) x4).bind fun t108 => (if t108 = true then (if (rd_L2 x3 x6).length < 17592186044416 then (spec_GroupsOf.l1 k (x3.set (x6 : Int).toNat ((rd_L2 x3 x6) ++ [x4])) x4 true (wrap64 (x6 + 1)) x102000 x102001) else (none)) else (spec_GroupsOf.l1 k x3 x4 x5 (wrap64 (x6 + 1)) x102000 x102001))) else (none)) else (none)) else (none)) else (if x5 = true then (spec_GroupsOf.l0 k x3 (wrap64 (x4 + 1)) x102000 x102001) else (if x3.length < 5864062014805 then (spec_GroupsOf.l0 k (x3 ++ [(([x4] : List Int))]) (wrap64 (x4 + 1)) x102000 x102001) else (none)))
end
def spec_GroupsOf.f (k : Nat) (a0_0 : Int) (a0_1 : Int) : Option ((List (List Int))) := spec_GroupsOf.l0 k (([] : List (List Int))) 0 a0_0 a0_1
def spec_GroupsOf.T9 : Bool × List (List Nat × List Nat) := (true,[([],[]),([],[]),([],[]),([1,2],[1,2]),([3],[3]),([4],[4]),([5],[5]),([],[]),([0,6,7],[0,6,7])])
def spec_GroupsOf.B9 : List Nat := [0,0,0,6,14,30,62,0,255]
theorem spec_GroupsOf.tab9 : rtab .any (opsOf Try.f14 9) = spec_GroupsOf.T9 := by kernel_rfl
theorem spec_GroupsOf.bits9 : waitsOk spec_GroupsOf.T9.2 spec_GroupsOf.B9 = true := by kernel_rfl
set_option maxHeartbeats 8000000 in
set_option maxRecDepth 100000 in
theorem spec_GroupsOf.calls (k : Nat) (a0_0 : Int) (a0_1 : Int) (r : List (List Int)) (w : World) (h : spec_GroupsOf.f k a0_0 a0_1 = some r) :
  Calls Try.prog 14 #[.agg #[.int .i64 a0_0,.int .i64 a0_1]] w fun e w' => ∃ v0_ : Value,e = .returned (v0_) ∧ Kd.S (Kd.slice 3 (Kd.int .i64)) 27 w' w.heap.size (fun _ => True) v0_ r ∧ Below w.heap.size w w' := by
 have hu25 := Try.underlying25
 have HB := Aside0.mk (Below.refl w.heap.size w)
 have H : (spec_GroupsOf.l0 k (([] : List (List Int))) 0 a0_0 a0_1) = some r := h
 clear h
 obtain ⟨y102,hy102⟩ : ∃ y_ : List (List Int),y_ = (([] : List (List Int))) := ⟨_,rfl⟩
 replace H : (spec_GroupsOf.l0 k y102 0 a0_0 a0_1) = some r := by first | (rw [hy102];with_reducible exact H) | (have H2_ := (Option.bind_some _ _).symm.trans H;rw [hy102];with_reducible exact H2_) | (have H2_ := (Option.bind_some _ _).symm.trans H;with_reducible exact H2_) | with_reducible exact H | (rw [hy102];exact H) | exact H
 have Ny102 := Aside0.mk hy102
 clear hy102
 have H' := Aside0.mk H
 clear H
 go_enter Try.func14,Try.ntmps14
 go_wp2_with (first | ((with_reducible refine gate_dst (N := 1) rfl ?_);refine box_event ?hg (N := 1) ?hd (cs := #[.int .i64 a0_0,.int .i64 a0_1]) (t := 25) ?hr ?_;(case hd => rfl);(case hg => rfl);(case hr => first | (go_simp;done) | (go_simp;rfl));intro gb101 hg w2 hbox hb;have n0_ := Aside0.mk (below_step (by repeat (first | (with_reducible first | exact HB.out | apply below_alloc | apply pw_below_drewN | apply below_drew1) | exact HB.out)) hb);have n1_ := Aside0.mk (hbox);have n2_ := Aside0.mk ((by rw [hg];exact (below_size (by repeat (first | (with_reducible first | exact HB.out | apply below_alloc | apply pw_below_drewN | apply below_drew1) | exact HB.out))) : w.heap.size ≤ gb101));have n3_ := Aside0.mk ((by rw [hg];exact (below_size (by repeat (first | (with_reducible first | exact HB.out | apply below_alloc | apply pw_below_drewN | apply below_drew1) | exact HB.out))) : w.heap.size ≤ gb101));clear HB;have HB := n0_;have BK101 := n1_;have GW101 := n2_;have GE101 := n3_;clear n0_ n1_ n2_ n3_;clear hb hbox hg) | ((with_reducible refine gate_dst (N := 7) rfl ?_);refine Kd.S_lit (Kd.slice 3 (Kd.int .i64)) _ 27 ?hg (N := 7) ?hd (xs := ([] : List (List Int))) (inner := []) (ok := fun _ => True) (okp := fun _ => True) ?hr ?hp (fun _ hk => hk) trivial (Below.refl _ _) (Nat.le_refl _) (by simp) ?_;(case hd => rfl);(case hg => rfl);(case hr => first | (go_simp;done) | (go_simp;rfl));(case hp => exact (Reps.none _ _));intro v103 w3 ho4 hb hg_ hnew_;clear hg_ hnew_;(first | rw [← Ny102.out] at ho4 | (simp only [Int.reduceToNat] at ho4;rw [← Ny102.out] at ho4));have n0_ := Aside0.mk (Kd.S_lower ho4 (below_size (by repeat (first | (with_reducible first | exact HB.out | apply below_alloc | apply pw_below_drewN | apply below_drew1 | refine below_set ?_ GE101.out) | exact HB.out))));have n1_ := Aside0.mk (blk_below (g := gb101) (o := .cells #[.int .i64 a0_0,.int .i64 a0_1] 25 (0,0)) (by (with_reducible repeat (first | refine blk_drewN ?_ _ | refine blk_drew ?_ | refine blk_alloc ?_ _));exact BK101.out) hb);have n2_ := Aside0.mk (below_step (by repeat (first | (with_reducible first | exact HB.out | apply below_alloc | apply pw_below_drewN | apply below_drew1 | refine below_set ?_ GE101.out) | exact HB.out)) hb);clear BK101;clear HB;have HO104 := n0_;have BK101 := n1_;have HB := n2_;clear n0_ n1_ n2_;clear hb ho4))
 go_loopg [3,4] k (fun kq v3 v4 w' => ∃ (x3_1 : List (List Int)) (x4_1 : Int),v4 = .int .i64 x4_1 ∧ Aside0 (spec_GroupsOf.l0 kq x3_1 x4_1 a0_0 a0_1 = some r) ∧ Aside0 (kq ≤ k) ∧ Aside0 (Kd.S (Kd.slice 3 (Kd.int .i64)) 27 w' w.heap.size (fun _ => True) v3 x3_1) ∧ Aside0 (w'.heap[gb101]? = some (.cells #[.int .i64 a0_0,.int .i64 a0_1] 25 (0,0))) ∧ Aside0 (Below w.heap.size w w'))
 case atStart => exact ⟨(y102),(0),(by first | rfl | (simp;done) | (simp [*];done)),H',⟨Nat.le_refl _⟩,⟨by (with_reducible repeat (first | apply Kd.S_alloc | apply Kd.S_drewN | apply Kd.S_drew));exact HO104.out⟩,⟨by (with_reducible repeat (first | refine blk_drewN ?_ _ | refine blk_drew ?_ | refine blk_alloc ?_ _));exact BK101.out⟩,⟨by repeat (first | (with_reducible first | exact HB.out | apply below_alloc | apply pw_below_drewN | apply below_drew1 | refine below_set ?_ GE101.out) | exact HB.out)⟩⟩
 case round =>
  clear H'
  try clear c1
  try clear p2
  obtain ⟨x3_1,x4_1,rfl,HA,HK1,HO_3,BK101,HB⟩ := hrel
  cases gk with
  | zero => exact absurd HA.out (by simp [spec_GroupsOf.l0])
  | succ k1 =>
   have H := HA.out
   clear HA
   simp only [spec_GroupsOf.l0] at H
   have HC5 := Aside0.mk H
   clear H
   go_upto_region 3 with (fail)
   go_cut [15] (fun v15 wc => ∃ (kq : Nat) (x15_4 : Bool),v15 = .bool x15_4 ∧ Aside0 (spec_GroupsOf.j1 kq x3_1 x4_1 x15_4 a0_0 a0_1 = some r) ∧ Aside0 (kq ≤ k1) ∧ Aside0 (Kd.S (Kd.slice 3 (Kd.int .i64)) 27 wc w.heap.size (fun _ => True) u3 x3_1) ∧ Aside0 (wc.heap[gb101]? = some (.cells #[.int .i64 a0_0,.int .i64 a0_1] 25 (0,0))) ∧ Aside0 (Below w.heap.size w wc))
   case first =>
    have H := HC5.out
    clear HC5
    replace H := Option.bind_eq_some_iff.mp H
    obtain ⟨t105,A60,H⟩ := H
    replace H : (if t105 = true then (spec_GroupsOf.j1 k1 x3_1 x4_1 (decide (x4_1 < a0_0)) a0_0 a0_1) else (spec_GroupsOf.j1 k1 x3_1 x4_1 false a0_0 a0_1)) = some r := H
    have A6 := Aside0.mk A60
    clear A60
    by_cases c7 : t105 = true
    ·subst c7
     have H1 : (spec_GroupsOf.j1 k1 x3_1 x4_1 (decide (x4_1 < a0_0)) a0_0 a0_1) = some r := by rw [if_pos rfl] at H;exact H
     clear H
     have H := H1
     clear H1
     have H' := Aside0.mk H
     clear H
     have hcz8_0 : wr.cell? ⟨gb101,0,none⟩ = some (.int .i64 a0_0) := (blk_cell BK101.out 0).trans rfl
     have hcz8_1 : wr.cell? ⟨gb101,1,none⟩ = some (.int .i64 a0_1) := (blk_cell BK101.out 1).trans rfl
     have hfz8_0 := blk_frozen BK101.out 0
     have hfz8_1 := blk_frozen BK101.out 1
     go_wp2_with (first | ((with_reducible refine gate_callee (f := 17) rfl ?_);refine goesL_ (some 9) rfl rfl Try.func17 (by kernel_rfl) rfl #[.agg #[.int .i64 a0_0,.int .i64 a0_1]] rfl (by (try simp only [List.map_toArray,List.map_cons,List.map_nil]);first | done | rfl | (simp only [List.length_drop,List.length_take];rfl)) ?_;(with_reducible refine (spec_IsTable.calls a0_0 a0_1 true _ A6.out).mono ?_);rintro e w9 ⟨rfl,hb⟩;refine ⟨_,rfl,?_⟩;have n0_ := Aside0.mk (Kd.S_below (by (with_reducible repeat (first | apply Kd.S_alloc | apply Kd.S_drewN | apply Kd.S_drew));exact HO_3.out) hb);have n1_ := Aside0.mk (blk_below (g := gb101) (o := .cells #[.int .i64 a0_0,.int .i64 a0_1] 25 (0,0)) (by (with_reducible repeat (first | refine blk_drewN ?_ _ | refine blk_drew ?_ | refine blk_alloc ?_ _));exact BK101.out) hb);have n2_ := Aside0.mk (below_step (by repeat (first | (with_reducible first | exact HB.out | apply below_alloc | apply pw_below_drewN | apply below_drew1 | refine below_set ?_ GE101.out) | exact HB.out)) hb);clear HO_3;clear BK101;clear HB;have HO_3 := n0_;have BK101 := n1_;have HB := n2_;clear n0_ n1_ n2_;(try clear hb);(try clear hb2);(try clear hk);(try clear hi);have hcz10_0 : w9.cell? ⟨gb101,0,none⟩ = some (.int .i64 a0_0) := (blk_cell BK101.out 0).trans rfl;have hcz10_1 : w9.cell? ⟨gb101,1,none⟩ = some (.int .i64 a0_1) := (blk_cell BK101.out 1).trans rfl;have hfz10_0 := blk_frozen BK101.out 0;have hfz10_1 := blk_frozen BK101.out 1))
     go_meet
     case rel => exact ⟨_,(decide (x4_1 < a0_0)),(by first | rfl | (simp;done) | (simp [*];done)),H',⟨by have := HK1.out;first | omega | exact Nat.le_refl _⟩,⟨by (with_reducible repeat (first | apply Kd.S_alloc | apply Kd.S_drewN | apply Kd.S_drew));exact HO_3.out⟩,⟨by (with_reducible repeat (first | refine blk_drewN ?_ _ | refine blk_drew ?_ | refine blk_alloc ?_ _));exact BK101.out⟩,⟨by repeat (first | (with_reducible first | exact HB.out | apply below_alloc | apply pw_below_drewN | apply below_drew1 | refine below_set ?_ GE101.out) | exact HB.out)⟩⟩
    ·replace c7 := Bool.eq_false_iff.mpr c7
     subst c7
     have H1 : (spec_GroupsOf.j1 k1 x3_1 x4_1 false a0_0 a0_1) = some r := by rw [if_neg (show ¬ (false = true) by decide)] at H;exact H
     clear H
     have H := H1
     clear H1
     have H' := Aside0.mk H
     clear H
     have hcz11_0 : wr.cell? ⟨gb101,0,none⟩ = some (.int .i64 a0_0) := (blk_cell BK101.out 0).trans rfl
     have hcz11_1 : wr.cell? ⟨gb101,1,none⟩ = some (.int .i64 a0_1) := (blk_cell BK101.out 1).trans rfl
     have hfz11_0 := blk_frozen BK101.out 0
     have hfz11_1 := blk_frozen BK101.out 1
     go_wp2_with (first | ((with_reducible refine gate_callee (f := 17) rfl ?_);refine goesL_ (some 9) rfl rfl Try.func17 (by kernel_rfl) rfl #[.agg #[.int .i64 a0_0,.int .i64 a0_1]] rfl (by (try simp only [List.map_toArray,List.map_cons,List.map_nil]);first | done | rfl | (simp only [List.length_drop,List.length_take];rfl)) ?_;(with_reducible refine (spec_IsTable.calls a0_0 a0_1 false _ A6.out).mono ?_);rintro e w12 ⟨rfl,hb⟩;refine ⟨_,rfl,?_⟩;have n0_ := Aside0.mk (Kd.S_below (by (with_reducible repeat (first | apply Kd.S_alloc | apply Kd.S_drewN | apply Kd.S_drew));exact HO_3.out) hb);have n1_ := Aside0.mk (blk_below (g := gb101) (o := .cells #[.int .i64 a0_0,.int .i64 a0_1] 25 (0,0)) (by (with_reducible repeat (first | refine blk_drewN ?_ _ | refine blk_drew ?_ | refine blk_alloc ?_ _));exact BK101.out) hb);have n2_ := Aside0.mk (below_step (by repeat (first | (with_reducible first | exact HB.out | apply below_alloc | apply pw_below_drewN | apply below_drew1 | refine below_set ?_ GE101.out) | exact HB.out)) hb);clear HO_3;clear BK101;clear HB;have HO_3 := n0_;have BK101 := n1_;have HB := n2_;clear n0_ n1_ n2_;(try clear hb);(try clear hb2);(try clear hk);(try clear hi)))
     go_meet
     case rel => exact ⟨_,(false),(by first | rfl | (simp;done) | (simp [*];done)),H',⟨by have := HK1.out;first | omega | exact Nat.le_refl _⟩,⟨by (with_reducible repeat (first | apply Kd.S_alloc | apply Kd.S_drewN | apply Kd.S_drew));exact HO_3.out⟩,⟨by (with_reducible repeat (first | refine blk_drewN ?_ _ | refine blk_drew ?_ | refine blk_alloc ?_ _));exact BK101.out⟩,⟨by repeat (first | (with_reducible first | exact HB.out | apply below_alloc | apply pw_below_drewN | apply below_drew1 | refine below_set ?_ GE101.out) | exact HB.out)⟩⟩
   case rest =>
    clear HC5
    try clear c1
    try clear p2
    try clear c7
    try clear hcz10_0
    try clear hcz10_1
    try clear hcz11_0
    try clear hcz11_1
    try clear hcz8_0
    try clear hcz8_1
    try clear hfz10_0
    try clear hfz10_1
    try clear hfz11_0
    try clear hfz11_1
    try clear hfz8_0
    try clear hfz8_1
    try clear p2
    obtain ⟨kq,x15_4,rfl,HA,HJ4,HO_3,BK101,HB⟩ := hcut
    cases kq with
    | zero => exact absurd HA.out (by simp [spec_GroupsOf.j1])
    | succ kj4 =>
     have H := HA.out
     clear HA
     simp only [spec_GroupsOf.j1] at H
     by_cases c13 : x15_4 = true
     ·subst c13
      have H1 : (spec_GroupsOf.l1 kj4 x3_1 x4_1 false 0 a0_0 a0_1) = some r := by rw [if_pos rfl] at H;exact H
      clear H
      have H := H1
      clear H1
      have H' := Aside0.mk H
      clear H
      go_wp2
      go_loopg [5,6] kj4 (fun kq v5 v6 w' => ∃ (x3_3 : List (List Int)) (x5_3 : Bool) (x6_3 : Int),v5 = .bool x5_3 ∧ v6 = .int .i64 x6_3 ∧ Aside0 (spec_GroupsOf.l1 kq x3_3 x4_1 x5_3 x6_3 a0_0 a0_1 = some r) ∧ Aside0 (kq ≤ kj4) ∧ Aside0 (Kd.S (Kd.slice 3 (Kd.int .i64)) 27 w' w.heap.size (fun _ => True) u3 x3_3) ∧ Aside0 (w'.heap[gb101]? = some (.cells #[.int .i64 a0_0,.int .i64 a0_1] 25 (0,0))) ∧ Aside0 (Below w.heap.size w w'))
      case atStart => exact ⟨(x3_1),(false),(0),(by first | rfl | (simp;done) | (simp [*];done)),(by first | rfl | (simp;done) | (simp [*];done)),H',⟨Nat.le_refl _⟩,⟨by (with_reducible repeat (first | apply Kd.S_alloc | apply Kd.S_drewN | apply Kd.S_drew));exact HO_3.out⟩,⟨by (with_reducible repeat (first | refine blk_drewN ?_ _ | refine blk_drew ?_ | refine blk_alloc ?_ _));exact BK101.out⟩,⟨by repeat (first | (with_reducible first | exact HB.out | apply below_alloc | apply pw_below_drewN | apply below_drew1 | refine below_set ?_ GE101.out) | exact HB.out)⟩⟩
      case round =>
       clear H'
       try clear c1
       try clear p2
       try clear c7
       try clear c13
       try clear hcz10_0
       try clear hcz10_1
       try clear hcz11_0
       try clear hcz11_1
       try clear hcz8_0
       try clear hcz8_1
       try clear hfz10_0
       try clear hfz10_1
       try clear hfz11_0
       try clear hfz11_1
       try clear hfz8_0
       try clear hfz8_1
       try clear p2
       obtain ⟨x3_3,x5_3,x6_3,rfl,rfl,HA,HK3,HO_3,BK101,HB⟩ := hrel
       cases gk with
       | zero => exact absurd HA.out (by simp [spec_GroupsOf.l1])
       | succ k3 =>
        have H := HA.out
        clear HA
        simp only [spec_GroupsOf.l1] at H
        have HC14 := Aside0.mk H
        clear H
        go_upto_region 7 with (fail)
        go_cut [25] (fun v25 wc => ∃ (kq : Nat) (x25_13 : Bool),v25 = .bool x25_13 ∧ Aside0 (spec_GroupsOf.j3 kq x3_3 x4_1 x5_3 x6_3 x25_13 a0_0 a0_1 = some r) ∧ Aside0 (kq ≤ k3) ∧ Aside0 (Kd.S (Kd.slice 3 (Kd.int .i64)) 27 wc w.heap.size (fun _ => True) u3 x3_3) ∧ Aside0 (wc.heap[gb101]? = some (.cells #[.int .i64 a0_0,.int .i64 a0_1] 25 (0,0))) ∧ Aside0 (Below w.heap.size w wc))
        case first =>
         have H := HC14.out
         clear HC14
         by_cases c15 : x6_3 < (x3_3.length : Int)
         ·rw [if_pos c15] at H
          have c15b0 : decide (x6_3 < (x3_3.length : Int)) = true := decide_eq_true c15
          clear c15
          (first | rw [c15b0] | (simp only [i64_w,i32_w];rw [c15b0]) | skip)
          have H' := Aside0.mk H
          clear H
          obtain ⟨Ao16,co16,eo16⟩ := Kd.S_slice HO_3.out
          subst eo16
          go_wp2
          go_meet
          case rel => exact ⟨_,(!x5_3),(by first | rfl | (simp;done) | (simp [*];done)),H',⟨by have := HK1.out;have := HJ4.out;have := HK3.out;first | omega | exact Nat.le_refl _⟩,⟨by (with_reducible repeat (first | apply Kd.S_alloc | apply Kd.S_drewN | apply Kd.S_drew));exact HO_3.out⟩,⟨by (with_reducible repeat (first | refine blk_drewN ?_ _ | refine blk_drew ?_ | refine blk_alloc ?_ _));exact BK101.out⟩,⟨by repeat (first | (with_reducible first | exact HB.out | apply below_alloc | apply pw_below_drewN | apply below_drew1 | refine below_set ?_ GE101.out) | exact HB.out)⟩⟩
         ·rw [if_neg c15] at H
          have c15b0 : decide (x6_3 < (x3_3.length : Int)) = false := decide_eq_false c15
          clear c15
          (first | rw [c15b0] | (simp only [i64_w,i32_w];rw [c15b0]) | skip)
          have H' := Aside0.mk H
          clear H
          obtain ⟨Ao17,co17,eo17⟩ := Kd.S_slice HO_3.out
          subst eo17
          go_wp2
          go_meet
          case rel => exact ⟨_,(false),(by first | rfl | (simp;done) | (simp [*];done)),H',⟨by have := HK1.out;have := HJ4.out;have := HK3.out;first | omega | exact Nat.le_refl _⟩,⟨by (with_reducible repeat (first | apply Kd.S_alloc | apply Kd.S_drewN | apply Kd.S_drew));exact HO_3.out⟩,⟨by (with_reducible repeat (first | refine blk_drewN ?_ _ | refine blk_drew ?_ | refine blk_alloc ?_ _));exact BK101.out⟩,⟨by repeat (first | (with_reducible first | exact HB.out | apply below_alloc | apply pw_below_drewN | apply below_drew1 | refine below_set ?_ GE101.out) | exact HB.out)⟩⟩
        case rest =>
         clear HC14
         try clear c1
         try clear p2
         try clear c7
         try clear c13
         try clear c14
         try clear c15
         try clear c15b0
         try clear c17
         try clear hcz10_0
         try clear hcz10_1
         try clear hcz11_0
         try clear hcz11_1
         try clear hcz8_0
         try clear hcz8_1
         try clear hfz10_0
         try clear hfz10_1
         try clear hfz11_0
         try clear hfz11_1
         try clear hfz8_0
         try clear hfz8_1
         try clear p2
         obtain ⟨kq,x25_13,rfl,HA,HJ13,HO_3,BK101,HB⟩ := hcut
         cases kq with
         | zero => exact absurd HA.out (by simp [spec_GroupsOf.j3])
         | succ kj13 =>
          have H := HA.out
          clear HA
          simp only [spec_GroupsOf.j3] at H
          by_cases c18 : x25_13 = true
          ·subst c18
           have H1 : (if 0 ≤ x6_3 then (if x6_3 < (x3_3.length : Int) then (if 0 < ((rd_L2 x3_3 x6_3).length : Int) then ((spec_AreExchangeable.f kj13 a0_0 a0_1 (rd (rd_L2 x3_3 x6_3) 0) x4_1).bind fun t108 => (if t108 = true then (if (rd_L2 x3_3 x6_3).length < 17592186044416 then (spec_GroupsOf.l1 kj13 (x3_3.set (x6_3 : Int).toNat ((rd_L2 x3_3 x6_3) ++ [x4_1])) x4_1 true (wrap64 (x6_3 + 1)) a0_0 a0_1) else (none)) else (spec_GroupsOf.l1 kj13 x3_3 x4_1 x5_3 (wrap64 (x6_3 + 1)) a0_0 a0_1))) else (none)) else (none)) else (none)) = some r := by rw [if_pos rfl] at H;exact H
           clear H
           have H := H1
           clear H1
           by_cases c19 : 0 ≤ x6_3
           ·rw [if_pos c19] at H
            have c19b0 : decide (0 ≤ x6_3) = true := decide_eq_true c19
            clear c19
            by_cases c20 : x6_3 < (x3_3.length : Int)
            ·rw [if_pos c20] at H
             have c20b0 : decide (x6_3 < (x3_3.length : Int)) = true := decide_eq_true c20
             clear c20
             by_cases c21 : 0 < ((rd_L2 x3_3 x6_3).length : Int)
             ·rw [if_pos c21] at H
              have c21b0 : decide (0 < ((rd_L2 x3_3 x6_3).length : Int)) = true := decide_eq_true c21
              have c21b1 : decide (0 < (rd_L2 x3_3 x6_3).length) = true := decide_eq_true (by omega)
              clear c21
              replace H := Option.bind_eq_some_iff.mp H
              obtain ⟨t108,A220,H⟩ := H
              replace H : (if t108 = true then (if (rd_L2 x3_3 x6_3).length < 17592186044416 then (spec_GroupsOf.l1 kj13 (x3_3.set (x6_3 : Int).toNat ((rd_L2 x3_3 x6_3) ++ [x4_1])) x4_1 true (wrap64 (x6_3 + 1)) a0_0 a0_1) else (none)) else (spec_GroupsOf.l1 kj13 x3_3 x4_1 x5_3 (wrap64 (x6_3 + 1)) a0_0 a0_1)) = some r := H
              have A22 := Aside0.mk A220
              clear A220
              by_cases c23 : t108 = true
              ·subst c23
               have H1 : (if (rd_L2 x3_3 x6_3).length < 17592186044416 then (spec_GroupsOf.l1 kj13 (x3_3.set (x6_3 : Int).toNat ((rd_L2 x3_3 x6_3) ++ [x4_1])) x4_1 true (wrap64 (x6_3 + 1)) a0_0 a0_1) else (none)) = some r := by rw [if_pos rfl] at H;exact H
               clear H
               have H := H1
               clear H1
               by_cases c24 : (rd_L2 x3_3 x6_3).length < 17592186044416
               ·rw [if_pos c24] at H
                have LMc24 := Aside0.mk c24
                clear c24
                obtain ⟨y110,hy110⟩ : ∃ y_ : List Int,y_ = ((rd_L2 x3_3 x6_3) ++ [x4_1]) := ⟨_,rfl⟩
                replace H : (spec_GroupsOf.l1 kj13 (x3_3.set (x6_3 : Int).toNat y110) x4_1 true (wrap64 (x6_3 + 1)) a0_0 a0_1) = some r := by first | (rw [hy110];with_reducible exact H) | (have H2_ := (Option.bind_some _ _).symm.trans H;rw [hy110];with_reducible exact H2_) | (have H2_ := (Option.bind_some _ _).symm.trans H;with_reducible exact H2_) | with_reducible exact H | (rw [hy110];exact H) | exact H
                have Ny110 := Aside0.mk hy110
                clear hy110
                obtain ⟨y113,hy113⟩ : ∃ y_ : List (List Int),y_ = (x3_3.set (x6_3 : Int).toNat y110) := ⟨_,rfl⟩
                replace H : (spec_GroupsOf.l1 kj13 y113 x4_1 true (wrap64 (x6_3 + 1)) a0_0 a0_1) = some r := by first | (rw [hy113];with_reducible exact H) | (have H2_ := (Option.bind_some _ _).symm.trans H;rw [hy113];with_reducible exact H2_) | (have H2_ := (Option.bind_some _ _).symm.trans H;with_reducible exact H2_) | with_reducible exact H | (rw [hy113];exact H) | exact H
                have Ny113 := Aside0.mk hy113
                clear hy113
                have H' := Aside0.mk H
                clear H
                try go_wp2
                have n0_ := Aside0.mk (Kd.S_drew HO_3.out)
                have n1_ := Aside0.mk (blk_drew BK101.out)
                have n2_ := Aside0.mk (below_drew1 HB.out)
                clear HO_3
                clear BK101
                clear HB
                have HO_3 := n0_
                have BK101 := n1_
                have HB := n2_
                clear n0_ n1_ n2_
                obtain ⟨Ao27,co27,eo27⟩ := Kd.S_slice HO_3.out
                (first | subst eo27 | (injection eo27 with f1_ f2_ f3_;have f4_ := f1_.symm;have f5_ := f3_.symm;clear f1_ f2_ f3_;subst f4_;subst f5_))
                have p106 : 0 ≤ (x6_3 : Int) := of_decide_eq_true (by first | (with_reducible assumption) | assumption)
                have q106 : x6_3 < (x3_3.length : Int) := of_decide_eq_true (by first | (with_reducible assumption) | assumption)
                obtain ⟨ad106,A106_0,c106_0,e106,hx106_0,hl106_0,hi106_0⟩ := at_L2 (Kd.S_reads' HO_3.out).2.2 x6_3 p106 q106
                cases e106
                obtain ⟨ce106,hce106,hMe106,hcc106⟩ := Kd.S_get HO_3.out [] x6_3 p106 (by first | exact q106 | exact of_decide_eq_true (by first | (with_reducible assumption) | assumption) | (have e_ := (Kd.S_reads' HO_3.out).1;omega))
                obtain ⟨ve106_0,rfl,ge106_0⟩ := hMe106
                have hv106_0 := hcc106 0 _ rfl
                rw [Nat.add_zero,show ((Kd.slice 3 (Kd.int .i64))).sz = 1 from rfl,Nat.mul_one] at hv106_0
                replace hv106_0 := Option.some.inj (hv106_0.symm.trans hx106_0)
                rw [hv106_0] at ge106_0
                have HL106_0 := Aside0.mk (show Kd.R (Kd.int .i64) 3 _ _ _ _ (rd_L2 x3_3 x6_3) from ge106_0)
                clear hv106_0 ge106_0
                have HX106_0 := Aside0.mk hx106_0
                clear hcc106 hce106
                have HR106_0 := Aside0.mk hi106_0
                have HC106_0 := Aside0.mk hl106_0
                clear hi106_0 hl106_0
                replace p106 := eq_true p106
                replace q106 := eq_true q106
                have p107 : 0 ≤ (0 : Int) := (by omega)
                have q107 : 0 < ((rd_L2 x3_3 x6_3).length : Int) := of_decide_eq_true (by first | (with_reducible assumption) | assumption)
                obtain ⟨ad107,e107,hx107_0⟩ := Kd.at_int (by repeat (first | (with_reducible exact HR106_0.out) | (with_reducible refine Kd.C_alloc ?_ _) | (with_reducible refine Kd.C_drewN ?_ _) | (with_reducible refine Kd.C_drew ?_) | exact HR106_0.out)) 0 p107 q107
                cases e107
                have qi107 : (0 < (rd_L2 x3_3 x6_3).length) = True := eq_true (by omega)
                (try rw [show ((0 : Int)).toNat = 0 from rfl] at hx107_0)
                (try rw [Addr.add_zero'] at hx107_0)
                replace p107 := eq_true p107
                replace q107 := eq_true q107
                refine start_ (n := 9) (S := fun w' => w'.cell? ⟨gb101,0,none⟩ = some (.int .i64 a0_0) ∧ w'.cell? ⟨gb101,1,none⟩ = some (.int .i64 a0_1) ∧ w'.cell? (ad106.add (x6_3).toNat) = some (.slice (some ad107) (rd_L2 x3_3 x6_3).length c106_0) ∧ w'.cell? ad107 = some (.int .i64 (rd (rd_L2 x3_3 x6_3) 0))) (ds := []) #[false,false,false,false,false,false,false,false,false] (by kernel_rfl) rfl rfl ⟨(blk_cell BK101.out 0).trans rfl,(blk_cell BK101.out 1).trans rfl,hx106_0,hx107_0⟩ (fun hHeld => ?_);refine with_tabW spec_GroupsOf.tab9 spec_GroupsOf.bits9 (fun HT_ HW_ => ?_)
                generalize wc.drew = w26 at HO_3 BK101 HB HL106_0 HR106_0 HX106_0 hx106_0 hx107_0 hHeld ⊢
                refine pure_ (i := 1) (N := some 29) (v := ?_) (a' := ?_) #[false,true,false,false,false,false,false,false,false] rfl rfl (any_of HT_.out (by kernel_rfl)) (fun _ _ _ h => h) (Or.inl ⟨by rfl,?_⟩) ?_ ?_
                rotate_left
                ·intro w'
                 go_simp
                 with_reducible rfl
                rotate_left
                ·simp only [Act.put,List.setIfInBounds_toArray,List.set_cons_zero,List.set_cons_succ,i64_w,i32_w]
                 rfl
                refine pure_ (i := 2) (N := some 30) (v := ?_) (a' := ?_) #[false,true,true,false,false,false,false,false,false] rfl rfl (any_of HT_.out (by kernel_rfl)) (fun _ _ _ h => h) (Or.inl ⟨by rfl,?_⟩) ?_ ?_
                rotate_left
                ·intro w'
                 go_simp
                 with_reducible rfl
                rotate_left
                ·simp only [Act.put,List.setIfInBounds_toArray,List.set_cons_zero,List.set_cons_succ,i64_w,i32_w]
                 rfl
                refine pure_ (i := 3) (N := some 31) (v := ?_) (a' := ?_) #[false,true,true,true,false,false,false,false,false] rfl rfl (any_of HT_.out (by kernel_rfl)) (fun _ _ _ h => h) (Or.inl ⟨by rfl,?_⟩) ?_ ?_
                rotate_left
                ·intro w'
                 go_simp
                 with_reducible rfl
                rotate_left
                ·simp only [Act.put,List.setIfInBounds_toArray,List.set_cons_zero,List.set_cons_succ,i64_w,i32_w]
                 rfl
                refine pure_ (i := 7) (N := some 35) (v := ?_) (a' := ?_) #[false,true,true,true,false,false,false,true,false] rfl rfl (any_of HT_.out (by kernel_rfl)) (fun _ _ _ h => h) (Or.inl ⟨by rfl,?_⟩) ?_ ?_
                rotate_left
                ·intro w'
                 go_simp
                 with_reducible rfl
                rotate_left
                ·simp only [Act.put,List.setIfInBounds_toArray,List.set_cons_zero,List.set_cons_succ,i64_w,i32_w]
                 rfl
                refine take_ (i := 0) (N := some 28) (v := ?_) (a' := ?_) #[true,true,true,true,false,false,false,true,false] rfl rfl (take_ofW HT_.out HW_.out (by kernel_rfl)) (fun _ _ _ h => h) (Or.inl ⟨by rfl,?_⟩) hHeld ?_ ?_
                rotate_left
                ·rintro w' ⟨s0,s1,s2,s3⟩
                 go_simp
                 with_reducible rfl
                rotate_left
                ·simp only [Act.put,List.setIfInBounds_toArray,List.set_cons_zero,List.set_cons_succ,i64_w,i32_w]
                 rfl
                refine take_ (i := 4) (N := some 32) (v := ?_) (a' := ?_) #[true,true,true,true,true,false,false,true,false] rfl rfl (take_ofW HT_.out HW_.out (by kernel_rfl)) (fun _ _ _ h => h) (Or.inl ⟨by rfl,?_⟩) hHeld ?_ ?_
                rotate_left
                ·rintro w' ⟨s0,s1,s2,s3⟩
                 go_simp
                 with_reducible rfl
                rotate_left
                ·simp only [Act.put,List.setIfInBounds_toArray,List.set_cons_zero,List.set_cons_succ,i64_w,i32_w]
                 rfl
                refine pure_ (i := 5) (N := some 33) (v := ?_) (a' := ?_) #[true,true,true,true,true,true,false,true,false] rfl rfl (any_of HT_.out (by kernel_rfl)) (fun _ _ _ h => h) (Or.inl ⟨by rfl,?_⟩) ?_ ?_
                rotate_left
                ·intro w'
                 go_simp
                 with_reducible rfl
                rotate_left
                ·simp only [Act.put,List.setIfInBounds_toArray,List.set_cons_zero,List.set_cons_succ,i64_w,i32_w]
                 rfl
                refine take_ (i := 6) (N := some 34) (v := ?_) (a' := ?_) #[true,true,true,true,true,true,true,true,false] rfl rfl (take_ofW HT_.out HW_.out (by kernel_rfl)) (fun _ _ _ h => h) (Or.inl ⟨by rfl,?_⟩) hHeld ?_ ?_
                rotate_left
                ·rintro w' ⟨s0,s1,s2,s3⟩
                 go_simp
                 with_reducible rfl
                rotate_left
                ·simp only [Act.put,List.setIfInBounds_toArray,List.set_cons_zero,List.set_cons_succ,i64_w,i32_w]
                 rfl
                refine one_ (i := 8) (N := some 36) #[true,true,true,true,true,true,true,true,true] rfl rfl (one_of HT_.out (by kernel_rfl)) (by decide) (fun K hK => ?_)
                refine goes_ Try.func23 (by kernel_rfl) rfl #[.agg #[.int .i64 a0_0,.int .i64 a0_1],.int .i64 (rd (rd_L2 x3_3 x6_3) 0),.int .i64 x4_1] (by rfl) rfl rfl (by (try simp only [List.map_toArray,List.map_cons,List.map_nil]);first | done | rfl | (simp only [List.length_drop,List.length_take];rfl)) ?_
                with_reducible refine (spec_AreExchangeable.calls kj13 a0_0 a0_1 (rd (rd_L2 x3_3 x6_3) 0) x4_1 true _ A22.out).mono ?_
                rintro e w28 ⟨rfl,hb⟩
                have HS2_ := (hb.cell (World.block_lt_of_cell? _ _ (hHeld.2.2.1))).trans (hHeld.2.2.1)
                have HS3_ := (hb.cell (World.block_lt_of_cell? _ _ (hHeld.2.2.2))).trans (hHeld.2.2.2)
                refine ⟨_,rfl,?_⟩
                have n0_ := Aside0.mk (Kd.S_below (by (with_reducible repeat (first | apply Kd.S_alloc | apply Kd.S_drewN | apply Kd.S_drew));exact HO_3.out) hb)
                have n1_ := Aside0.mk (Kd.R_below (by (with_reducible repeat (first | apply Kd.R_alloc | apply Kd.R_drewN | apply Kd.R_drew));exact HL106_0.out) hb)
                have n2_ := Aside0.mk (blk_below (g := gb101) (o := .cells #[.int .i64 a0_0,.int .i64 a0_1] 25 (0,0)) (by (with_reducible repeat (first | refine blk_drewN ?_ _ | refine blk_drew ?_ | refine blk_alloc ?_ _));exact BK101.out) hb)
                have n3_ := Aside0.mk (Kd.C_below (by repeat (first | (with_reducible exact HR106_0.out) | (with_reducible refine Kd.C_alloc ?_ _) | (with_reducible refine Kd.C_drewN ?_ _) | (with_reducible refine Kd.C_drew ?_) | exact HR106_0.out)) hb)
                have n4_ := Aside0.mk (pw_cell_below hb HX106_0.out)
                have n5_ := Aside0.mk (below_step (by repeat (first | (with_reducible first | exact HB.out | apply below_alloc | apply pw_below_drewN | apply below_drew1 | refine below_set ?_ GE101.out) | exact HB.out)) hb)
                clear HO_3
                clear HL106_0
                clear BK101
                clear HR106_0
                clear HX106_0
                clear HB
                have HO_3 := n0_
                have HL106_0 := n1_
                have BK101 := n2_
                have HR106_0 := n3_
                have HX106_0 := n4_
                have HB := n5_
                clear n0_ n1_ n2_ n3_ n4_ n5_
                (try clear hb)
                (try clear hb2)
                (try clear hk)
                (try clear hi)
                refine hK.out _ _ ⟨(blk_cell BK101.out 0).trans rfl,(blk_cell BK101.out 1).trans rfl,HS2_,HS3_⟩ (fun hHeld => ?_)
                clear hK K
                refine norm_ (a' := ?_) ?_ ?_
                rotate_left
                ·show Act.put _ (some 36) _ = _
                 simp only [Act.put,List.setIfInBounds_toArray,List.set_cons_zero,List.set_cons_succ,i64_w,i32_w]
                 rfl
                refine done_ (done_of HT_.out (by kernel_rfl)) ?_
                have p109 : 0 ≤ (x6_3 : Int) := of_decide_eq_true (by first | (with_reducible assumption) | assumption)
                have q109 : x6_3 < (x3_3.length : Int) := of_decide_eq_true (by first | (with_reducible assumption) | assumption)
                obtain ⟨ad109,A109_0,c109_0,e109,hx109_0,hl109_0,hi109_0⟩ := at_L2 (Kd.S_reads' HO_3.out).2.2 x6_3 p109 q109
                obtain rfl : ad106 = ad109 := (by injection e109)
                obtain ⟨ce109,hce109,hMe109,hcc109⟩ := Kd.S_get HO_3.out [] x6_3 p109 (by first | exact q109 | exact of_decide_eq_true (by first | (with_reducible assumption) | assumption) | (have e_ := (Kd.S_reads' HO_3.out).1;omega))
                obtain ⟨ve109_0,rfl,ge109_0⟩ := hMe109
                have hv109_0 := hcc109 0 _ rfl
                rw [Nat.add_zero,show ((Kd.slice 3 (Kd.int .i64))).sz = 1 from rfl,Nat.mul_one] at hv109_0
                replace hv109_0 := Option.some.inj (hv109_0.symm.trans hx109_0)
                rw [hv109_0] at ge109_0
                have HL109_0 := Aside0.mk (show Kd.R (Kd.int .i64) 3 _ _ _ _ (rd_L2 x3_3 x6_3) from ge109_0)
                clear hv109_0 ge109_0
                have HX109_0 := Aside0.mk hx109_0
                clear hcc109 hce109
                have HR109_0 := Aside0.mk hi109_0
                have HC109_0 := Aside0.mk hl109_0
                clear hi109_0 hl109_0
                replace p109 := eq_true p109
                replace q109 := eq_true q109
                obtain ⟨go29,co29,eo29,gb29,gl29,cl29,HG29⟩ := Kd.S_form HO_3.out (by have h_ : (x6_3 : Int) < ((x3_3.length : Int) : Int) := of_decide_eq_true (by first | (with_reducible assumption) | assumption);have h2_ : 0 ≤ (x6_3 : Int) := (of_decide_eq_true (by first | (with_reducible assumption) | assumption));omega)
                (first | cases eo29 | (injection eo29 with ea_ en_ ec_;(first | subst ea_ | (injection ea_ with ea_;subst ea_));subst ec_;clear en_))
                have GB29 := Aside0.mk gb29
                have GG29 := Aside0.mk HG29
                clear gb29 gl29 HG29
                (first | simp only [add_plain] at hx106_0 | skip)
                (first | simp only [add_plain] at hx109_0 | skip)
                obtain ⟨oki29,ce29,hcl29,hM29,hcc29,_,_,hH29⟩ := Kd.S_elem HO_3.out [] (x6_3 : Int) (of_decide_eq_true (by first | (with_reducible assumption) | assumption)) (by have h_ : (x6_3 : Int) < ((x3_3.length : Int) : Int) := of_decide_eq_true (by first | (with_reducible assumption) | assumption);first | exact h_ | (have e_ := (Kd.S_reads' HO_3.out).1;omega) | simpa using h_)
                obtain ⟨ve29_0,rfl,ge29_0⟩ := hM29
                have hv29 := hcc29 0 _ rfl
                have hX29 := HX109_0.out
                (try simp only [add_plain] at hX29)
                (try simp only [Nat.add_zero] at hv29)
                (try rw [show ((Kd.slice 3 (Kd.int .i64))).sz = 1 from rfl,Nat.mul_one] at hv29)
                replace hv29 := Option.some.inj (hv29.symm.trans hX29)
                subst hv29
                clear hX29 hcc29 hcl29
                have UU29 := Aside0.mk (show Kd.R (Kd.int .i64) 3 _ w.heap.size oki29 (.slice A109_0 (rd_L2 x3_3 x6_3).length c109_0) (rd_L2 x3_3 x6_3) from ge29_0)
                have HH29 := Aside0.mk hH29
                have HN29 := Aside0.mk (Kd.S_reads' HO_3.out).1
                clear hH29 ge29_0
                try go_wp2_with (first | ((with_reducible refine gate_builtin (b := .append) (xs := #[.tmp 42,.tmp 44]) rfl ?_);at_builtin;refine Kd.R_append (Kd.int .i64) (w0 := w) w.heap.size rfl (.tmp 42) (.tmp 44) 27 3 (.int .i64 0) 8 rfl Try.underlying27 info3 rfl (by decide) (by omega) (.slice A109_0 (rd_L2 x3_3 x6_3).length c109_0) (rd_L2 x3_3 x6_3) x4_1 [.int .i64 x4_1] (fun k_ => oki29 k_ ∨ ((fun _ => True)) k_ ∧ w28.heap.size ≤ k_) (fun _ => False) rfl rfl ?aP (fun _ hk => hk.elim) ?aF ?aO ?aB ?aS ?aL ?_;(case aP => exact rfl);(case aB => exact (by repeat (first | (with_reducible first | exact HB.out | apply below_alloc | apply pw_below_drewN | apply below_drew1 | refine below_set ?_ GE101.out) | exact HB.out)));(case aF => exact (fun k_ hk => .inr ⟨trivial,hk⟩));(case aO => exact (by (with_reducible repeat (first | apply Kd.R_alloc | apply Kd.R_drewN | apply Kd.R_drew));exact Kd.R_mono UU29.out (fun _ hk => .inl hk)));(case aS => exact (below_size (by repeat (first | (with_reducible first | exact HB.out | apply below_alloc | apply pw_below_drewN | apply below_drew1 | refine below_set ?_ GE101.out) | exact HB.out))));(case aL => have := LMc24.out;omega);intro v111 w30 ho hb hg hat;rw [← Ny110.out] at ho;have n0_ := Aside0.mk (blk_grown (g := gb101) (o := .cells #[.int .i64 a0_0,.int .i64 a0_1] 25 (0,0)) (by (with_reducible repeat (first | refine blk_drewN ?_ _ | refine blk_drew ?_ | refine blk_alloc ?_ _));exact BK101.out) hg (Kd.R_ne HL109_0.out BK101.out (by decide)));have n1_ := Aside0.mk (hb);have n2_ := Aside0.mk (Kd.H_grown (Kd.H_widen (by repeat (first | exact HH29.out | refine Kd.H_alloc ?_ _ | refine Kd.H_drewN ?_ _ | refine Kd.H_drew ?_))) hg (fun k_ e_ => .inl (UU29.out.1 k_ e_)));have n3_ := Aside0.mk (ho);clear BK101;clear HB;clear HH29;clear HO_3;clear UU29;clear HL106_0;clear HL109_0;have BK101 := n0_;have HB := n1_;have HH29 := n2_;have HO112 := n3_;clear n0_ n1_ n2_ n3_;clear ho hb hg hat;have p25 : 0 ≤ (x6_3 : Int) := of_decide_eq_true (by first | (with_reducible assumption) | assumption);have q25 : (x6_3 : Int) < ((x3_3.length : Int) : Int) := of_decide_eq_true (by first | (with_reducible assumption) | assumption);replace p25 := eq_true p25;replace q25 := eq_true q25;obtain ⟨Ao33,co33,eo33⟩ := Kd.R_slice HO112.out;subst eo33;obtain ⟨_,_,hraw31,_,_,hcc31,_⟩ := Kd.H_raw HH29.out (of_decide_eq_true (by first | (with_reducible assumption) | assumption)) (by have h_ : (x6_3 : Int) < ((x3_3.length : Int) : Int) := of_decide_eq_true (by first | (with_reducible assumption) | assumption);first | exact h_ | (have e_ := (HN29.out);omega) | simpa using h_);obtain ⟨_,hfr31⟩ := Kd.H_at HH29.out (of_decide_eq_true (by first | (with_reducible assumption) | assumption)) (by have h_ : (x6_3 : Int) < ((x3_3.length : Int) : Int) := of_decide_eq_true (by first | (with_reducible assumption) | assumption);first | exact h_ | (have e_ := (HN29.out);omega) | simpa using h_);have hx31_0 := hcc31 0 _ rfl;have hf31_0 := hfr31 0;(try simp only [Nat.add_zero] at hx31_0 hf31_0);(try rw [show ((Kd.slice 3 (Kd.int .i64))).sz = 1 from rfl,Nat.mul_one] at hx31_0);(try rw [show ((Kd.slice 3 (Kd.int .i64))).sz = 1 from rfl,Nat.mul_one] at hf31_0);have HP31 := Kd.S_seg0 HH29.out (of_decide_eq_true (by first | (with_reducible assumption) | assumption)) (by have h_ : (x6_3 : Int) < ((x3_3.length : Int) : Int) := of_decide_eq_true (by first | (with_reducible assumption) | assumption);first | exact h_ | (have e_ := (HN29.out);omega) | simpa using h_) (seg := [.slice Ao33 y110.length co33]) (j := 0) (show 1 ≤ 1 from by decide) (x' := y110) (Kd.M_row HO112.out) (fun _ hk => hk);(try simp only [show ((Kd.slice 3 (Kd.int .i64))).sz = 1 from rfl,Nat.mul_one,Nat.add_zero] at HP31);clear hcc31 hfr31) | ((with_reducible refine gate_store (t := 27) (p := 46) rfl ?_);refine store_event (t := 27) (p := 46) (v := ?vo_w32) (w1 := (w30.setCell ⟨go29,(x6_3 : Int).toNat,none⟩ (.slice Ao33 y110.length co33))) ?hg ?ho ?hn ?hr ?_;(case ho => rfl);(case hg => rfl);(case hn => rfl);(case hr => first | (go_simp;done) | (go_simp;rfl));intro w32 hw;have hg : w30.grownBy w32 (some go29) := (by rw [hw];exact HP31.2);have hp_ : Kd.S (Kd.slice 3 (Kd.int .i64)) 27 w32 w.heap.size (fun _ => True) (.slice (some ⟨go29,0,none⟩) x3_3.length co27) y113 := (by rw [hw,Ny113.out];exact HP31.1);clear HP31;have n0_ := Aside0.mk (blk_grown (g := gb101) (o := .cells #[.int .i64 a0_0,.int .i64 a0_1] 25 (0,0)) (by (with_reducible repeat (first | refine blk_drewN ?_ _ | refine blk_drew ?_ | refine blk_alloc ?_ _));exact BK101.out) hg (Kd.R_ne hraw31 BK101.out (by decide)));have n1_ := Aside0.mk ((by rw [hw];exact below_set HB.out GB29.out : Below w.heap.size w w32));have n2_ := Aside0.mk (hp_);clear BK101;clear HB;clear HO112;clear HH29;have BK101 := n0_;have HB := n1_;have HO_3 := n2_;clear n0_ n1_ n2_;clear hg hw hp_ hraw31))
                go_roundg kj13
                case measure => have := HK1.out;have := HJ4.out;have := HK3.out;have := HJ13.out;omega
                case rel => exact ⟨(y113),(true),(wrap64 (x6_3 + 1)),(by first | rfl | (simp;done) | (simp [*];done)),(by first | rfl | (simp;done) | (simp [*];done)),H',⟨by have := HK1.out;have := HJ4.out;have := HK3.out;have := HJ13.out;omega⟩,⟨by (with_reducible repeat (first | apply Kd.S_alloc | apply Kd.S_drewN | apply Kd.S_drew));exact HO_3.out⟩,⟨by (with_reducible repeat (first | refine blk_drewN ?_ _ | refine blk_drew ?_ | refine blk_alloc ?_ _));exact BK101.out⟩,⟨by repeat (first | (with_reducible first | exact HB.out | apply below_alloc | apply pw_below_drewN | apply below_drew1 | refine below_set ?_ GE101.out) | exact HB.out)⟩⟩
               ·rw [if_neg c24] at H
                exact absurd H (by simp)
              ·replace c23 := Bool.eq_false_iff.mpr c23
               subst c23
               have H1 : (spec_GroupsOf.l1 kj13 x3_3 x4_1 x5_3 (wrap64 (x6_3 + 1)) a0_0 a0_1) = some r := by rw [if_neg (show ¬ (false = true) by decide)] at H;exact H
               clear H
               have H := H1
               clear H1
               have H' := Aside0.mk H
               clear H
               try go_wp2
               have n0_ := Aside0.mk (Kd.S_drew HO_3.out)
               have n1_ := Aside0.mk (blk_drew BK101.out)
               have n2_ := Aside0.mk (below_drew1 HB.out)
               clear HO_3
               clear BK101
               clear HB
               have HO_3 := n0_
               have BK101 := n1_
               have HB := n2_
               clear n0_ n1_ n2_
               obtain ⟨Ao35,co35,eo35⟩ := Kd.S_slice HO_3.out
               (first | subst eo35 | (injection eo35 with f1_ f2_ f3_;have f4_ := f1_.symm;have f5_ := f3_.symm;clear f1_ f2_ f3_;subst f4_;subst f5_))
               have p106 : 0 ≤ (x6_3 : Int) := of_decide_eq_true (by first | (with_reducible assumption) | assumption)
               have q106 : x6_3 < (x3_3.length : Int) := of_decide_eq_true (by first | (with_reducible assumption) | assumption)
               obtain ⟨ad106,A106_0,c106_0,e106,hx106_0,hl106_0,hi106_0⟩ := at_L2 (Kd.S_reads' HO_3.out).2.2 x6_3 p106 q106
               cases e106
               obtain ⟨ce106,hce106,hMe106,hcc106⟩ := Kd.S_get HO_3.out [] x6_3 p106 (by first | exact q106 | exact of_decide_eq_true (by first | (with_reducible assumption) | assumption) | (have e_ := (Kd.S_reads' HO_3.out).1;omega))
               obtain ⟨ve106_0,rfl,ge106_0⟩ := hMe106
               have hv106_0 := hcc106 0 _ rfl
               rw [Nat.add_zero,show ((Kd.slice 3 (Kd.int .i64))).sz = 1 from rfl,Nat.mul_one] at hv106_0
               replace hv106_0 := Option.some.inj (hv106_0.symm.trans hx106_0)
               rw [hv106_0] at ge106_0
               have HL106_0 := Aside0.mk (show Kd.R (Kd.int .i64) 3 _ _ _ _ (rd_L2 x3_3 x6_3) from ge106_0)
               clear hv106_0 ge106_0
               have HX106_0 := Aside0.mk hx106_0
               clear hcc106 hce106
               have HR106_0 := Aside0.mk hi106_0
               have HC106_0 := Aside0.mk hl106_0
               clear hi106_0 hl106_0
               replace p106 := eq_true p106
               replace q106 := eq_true q106
               have p107 : 0 ≤ (0 : Int) := (by omega)
               have q107 : 0 < ((rd_L2 x3_3 x6_3).length : Int) := of_decide_eq_true (by first | (with_reducible assumption) | assumption)
               obtain ⟨ad107,e107,hx107_0⟩ := Kd.at_int (by repeat (first | (with_reducible exact HR106_0.out) | (with_reducible refine Kd.C_alloc ?_ _) | (with_reducible refine Kd.C_drewN ?_ _) | (with_reducible refine Kd.C_drew ?_) | exact HR106_0.out)) 0 p107 q107
               cases e107
               have qi107 : (0 < (rd_L2 x3_3 x6_3).length) = True := eq_true (by omega)
               (try rw [show ((0 : Int)).toNat = 0 from rfl] at hx107_0)
               (try rw [Addr.add_zero'] at hx107_0)
               replace p107 := eq_true p107
               replace q107 := eq_true q107
               refine start_ (n := 9) (S := fun w' => w'.cell? ⟨gb101,0,none⟩ = some (.int .i64 a0_0) ∧ w'.cell? ⟨gb101,1,none⟩ = some (.int .i64 a0_1) ∧ w'.cell? (ad106.add (x6_3).toNat) = some (.slice (some ad107) (rd_L2 x3_3 x6_3).length c106_0) ∧ w'.cell? ad107 = some (.int .i64 (rd (rd_L2 x3_3 x6_3) 0))) (ds := []) #[false,false,false,false,false,false,false,false,false] (by kernel_rfl) rfl rfl ⟨(blk_cell BK101.out 0).trans rfl,(blk_cell BK101.out 1).trans rfl,hx106_0,hx107_0⟩ (fun hHeld => ?_);refine with_tabW spec_GroupsOf.tab9 spec_GroupsOf.bits9 (fun HT_ HW_ => ?_)
               generalize wc.drew = w34 at HO_3 BK101 HB HL106_0 HR106_0 HX106_0 hx106_0 hx107_0 hHeld ⊢
               refine pure_ (i := 1) (N := some 29) (v := ?_) (a' := ?_) #[false,true,false,false,false,false,false,false,false] rfl rfl (any_of HT_.out (by kernel_rfl)) (fun _ _ _ h => h) (Or.inl ⟨by rfl,?_⟩) ?_ ?_
               rotate_left
               ·intro w'
                go_simp
                with_reducible rfl
               rotate_left
               ·simp only [Act.put,List.setIfInBounds_toArray,List.set_cons_zero,List.set_cons_succ,i64_w,i32_w]
                rfl
               refine pure_ (i := 2) (N := some 30) (v := ?_) (a' := ?_) #[false,true,true,false,false,false,false,false,false] rfl rfl (any_of HT_.out (by kernel_rfl)) (fun _ _ _ h => h) (Or.inl ⟨by rfl,?_⟩) ?_ ?_
               rotate_left
               ·intro w'
                go_simp
                with_reducible rfl
               rotate_left
               ·simp only [Act.put,List.setIfInBounds_toArray,List.set_cons_zero,List.set_cons_succ,i64_w,i32_w]
                rfl
               refine pure_ (i := 3) (N := some 31) (v := ?_) (a' := ?_) #[false,true,true,true,false,false,false,false,false] rfl rfl (any_of HT_.out (by kernel_rfl)) (fun _ _ _ h => h) (Or.inl ⟨by rfl,?_⟩) ?_ ?_
               rotate_left
               ·intro w'
                go_simp
                with_reducible rfl
               rotate_left
               ·simp only [Act.put,List.setIfInBounds_toArray,List.set_cons_zero,List.set_cons_succ,i64_w,i32_w]
                rfl
               refine pure_ (i := 7) (N := some 35) (v := ?_) (a' := ?_) #[false,true,true,true,false,false,false,true,false] rfl rfl (any_of HT_.out (by kernel_rfl)) (fun _ _ _ h => h) (Or.inl ⟨by rfl,?_⟩) ?_ ?_
               rotate_left
               ·intro w'
                go_simp
                with_reducible rfl
               rotate_left
               ·simp only [Act.put,List.setIfInBounds_toArray,List.set_cons_zero,List.set_cons_succ,i64_w,i32_w]
                rfl
               refine take_ (i := 0) (N := some 28) (v := ?_) (a' := ?_) #[true,true,true,true,false,false,false,true,false] rfl rfl (take_ofW HT_.out HW_.out (by kernel_rfl)) (fun _ _ _ h => h) (Or.inl ⟨by rfl,?_⟩) hHeld ?_ ?_
               rotate_left
               ·rintro w' ⟨s0,s1,s2,s3⟩
                go_simp
                with_reducible rfl
               rotate_left
               ·simp only [Act.put,List.setIfInBounds_toArray,List.set_cons_zero,List.set_cons_succ,i64_w,i32_w]
                rfl
               refine take_ (i := 4) (N := some 32) (v := ?_) (a' := ?_) #[true,true,true,true,true,false,false,true,false] rfl rfl (take_ofW HT_.out HW_.out (by kernel_rfl)) (fun _ _ _ h => h) (Or.inl ⟨by rfl,?_⟩) hHeld ?_ ?_
               rotate_left
               ·rintro w' ⟨s0,s1,s2,s3⟩
                go_simp
                with_reducible rfl
               rotate_left
               ·simp only [Act.put,List.setIfInBounds_toArray,List.set_cons_zero,List.set_cons_succ,i64_w,i32_w]
                rfl
               refine pure_ (i := 5) (N := some 33) (v := ?_) (a' := ?_) #[true,true,true,true,true,true,false,true,false] rfl rfl (any_of HT_.out (by kernel_rfl)) (fun _ _ _ h => h) (Or.inl ⟨by rfl,?_⟩) ?_ ?_
               rotate_left
               ·intro w'
                go_simp
                with_reducible rfl
               rotate_left
               ·simp only [Act.put,List.setIfInBounds_toArray,List.set_cons_zero,List.set_cons_succ,i64_w,i32_w]
                rfl
               refine take_ (i := 6) (N := some 34) (v := ?_) (a' := ?_) #[true,true,true,true,true,true,true,true,false] rfl rfl (take_ofW HT_.out HW_.out (by kernel_rfl)) (fun _ _ _ h => h) (Or.inl ⟨by rfl,?_⟩) hHeld ?_ ?_
               rotate_left
               ·rintro w' ⟨s0,s1,s2,s3⟩
                go_simp
                with_reducible rfl
               rotate_left
               ·simp only [Act.put,List.setIfInBounds_toArray,List.set_cons_zero,List.set_cons_succ,i64_w,i32_w]
                rfl
               refine one_ (i := 8) (N := some 36) #[true,true,true,true,true,true,true,true,true] rfl rfl (one_of HT_.out (by kernel_rfl)) (by decide) (fun K hK => ?_)
               refine goes_ Try.func23 (by kernel_rfl) rfl #[.agg #[.int .i64 a0_0,.int .i64 a0_1],.int .i64 (rd (rd_L2 x3_3 x6_3) 0),.int .i64 x4_1] (by rfl) rfl rfl (by (try simp only [List.map_toArray,List.map_cons,List.map_nil]);first | done | rfl | (simp only [List.length_drop,List.length_take];rfl)) ?_
               with_reducible refine (spec_AreExchangeable.calls kj13 a0_0 a0_1 (rd (rd_L2 x3_3 x6_3) 0) x4_1 false _ A22.out).mono ?_
               rintro e w36 ⟨rfl,hb⟩
               have HS2_ := (hb.cell (World.block_lt_of_cell? _ _ (hHeld.2.2.1))).trans (hHeld.2.2.1)
               have HS3_ := (hb.cell (World.block_lt_of_cell? _ _ (hHeld.2.2.2))).trans (hHeld.2.2.2)
               refine ⟨_,rfl,?_⟩
               have n0_ := Aside0.mk (Kd.S_below (by (with_reducible repeat (first | apply Kd.S_alloc | apply Kd.S_drewN | apply Kd.S_drew));exact HO_3.out) hb)
               have n1_ := Aside0.mk (Kd.R_below (by (with_reducible repeat (first | apply Kd.R_alloc | apply Kd.R_drewN | apply Kd.R_drew));exact HL106_0.out) hb)
               have n2_ := Aside0.mk (blk_below (g := gb101) (o := .cells #[.int .i64 a0_0,.int .i64 a0_1] 25 (0,0)) (by (with_reducible repeat (first | refine blk_drewN ?_ _ | refine blk_drew ?_ | refine blk_alloc ?_ _));exact BK101.out) hb)
               have n3_ := Aside0.mk (Kd.C_below (by repeat (first | (with_reducible exact HR106_0.out) | (with_reducible refine Kd.C_alloc ?_ _) | (with_reducible refine Kd.C_drewN ?_ _) | (with_reducible refine Kd.C_drew ?_) | exact HR106_0.out)) hb)
               have n4_ := Aside0.mk (pw_cell_below hb HX106_0.out)
               have n5_ := Aside0.mk (below_step (by repeat (first | (with_reducible first | exact HB.out | apply below_alloc | apply pw_below_drewN | apply below_drew1 | refine below_set ?_ GE101.out) | exact HB.out)) hb)
               clear HO_3
               clear HL106_0
               clear BK101
               clear HR106_0
               clear HX106_0
               clear HB
               have HO_3 := n0_
               have HL106_0 := n1_
               have BK101 := n2_
               have HR106_0 := n3_
               have HX106_0 := n4_
               have HB := n5_
               clear n0_ n1_ n2_ n3_ n4_ n5_
               (try clear hb)
               (try clear hb2)
               (try clear hk)
               (try clear hi)
               refine hK.out _ _ ⟨(blk_cell BK101.out 0).trans rfl,(blk_cell BK101.out 1).trans rfl,HS2_,HS3_⟩ (fun hHeld => ?_)
               clear hK K
               refine norm_ (a' := ?_) ?_ ?_
               rotate_left
               ·show Act.put _ (some 36) _ = _
                simp only [Act.put,List.setIfInBounds_toArray,List.set_cons_zero,List.set_cons_succ,i64_w,i32_w]
                rfl
               refine done_ (done_of HT_.out (by kernel_rfl)) ?_
               try go_wp2
               go_roundg kj13
               case measure => have := HK1.out;have := HJ4.out;have := HK3.out;have := HJ13.out;omega
               case rel => exact ⟨(x3_3),(x5_3),(wrap64 (x6_3 + 1)),(by first | rfl | (simp;done) | (simp [*];done)),(by first | rfl | (simp;done) | (simp [*];done)),H',⟨by have := HK1.out;have := HJ4.out;have := HK3.out;have := HJ13.out;omega⟩,⟨by (with_reducible repeat (first | apply Kd.S_alloc | apply Kd.S_drewN | apply Kd.S_drew));exact HO_3.out⟩,⟨by (with_reducible repeat (first | refine blk_drewN ?_ _ | refine blk_drew ?_ | refine blk_alloc ?_ _));exact BK101.out⟩,⟨by repeat (first | (with_reducible first | exact HB.out | apply below_alloc | apply pw_below_drewN | apply below_drew1 | refine below_set ?_ GE101.out) | exact HB.out)⟩⟩
             ·rw [if_neg c21] at H
              exact absurd H (by simp)
            ·rw [if_neg c20] at H
             exact absurd H (by simp)
           ·rw [if_neg c19] at H
            exact absurd H (by simp)
          ·replace c18 := Bool.eq_false_iff.mpr c18
           subst c18
           have H1 : (if x5_3 = true then (spec_GroupsOf.l0 kj13 x3_3 (wrap64 (x4_1 + 1)) a0_0 a0_1) else (if x3_3.length < 5864062014805 then (spec_GroupsOf.l0 kj13 (x3_3 ++ [(([x4_1] : List Int))]) (wrap64 (x4_1 + 1)) a0_0 a0_1) else (none))) = some r := by rw [if_neg (show ¬ (false = true) by decide)] at H;exact H
           clear H
           have H := H1
           clear H1
           by_cases c37 : x5_3 = true
           ·subst c37
            have H1 : (spec_GroupsOf.l0 kj13 x3_3 (wrap64 (x4_1 + 1)) a0_0 a0_1) = some r := by rw [if_pos rfl] at H;exact H
            clear H
            have H := H1
            clear H1
            have H' := Aside0.mk H
            clear H
            go_wp2
            go_roundg kj13
            case measure => have := HK1.out;have := HJ4.out;have := HK3.out;have := HJ13.out;omega
            case rel => exact ⟨(x3_3),(wrap64 (x4_1 + 1)),(by first | rfl | (simp;done) | (simp [*];done)),H',⟨by have := HK1.out;have := HJ4.out;have := HK3.out;have := HJ13.out;omega⟩,⟨by (with_reducible repeat (first | apply Kd.S_alloc | apply Kd.S_drewN | apply Kd.S_drew));exact HO_3.out⟩,⟨by (with_reducible repeat (first | refine blk_drewN ?_ _ | refine blk_drew ?_ | refine blk_alloc ?_ _));exact BK101.out⟩,⟨by repeat (first | (with_reducible first | exact HB.out | apply below_alloc | apply pw_below_drewN | apply below_drew1 | refine below_set ?_ GE101.out) | exact HB.out)⟩⟩
           ·replace c37 := Bool.eq_false_iff.mpr c37
            subst c37
            have H1 : (if x3_3.length < 5864062014805 then (spec_GroupsOf.l0 kj13 (x3_3 ++ [(([x4_1] : List Int))]) (wrap64 (x4_1 + 1)) a0_0 a0_1) else (none)) = some r := by rw [if_neg (show ¬ (false = true) by decide)] at H;exact H
            clear H
            have H := H1
            clear H1
            obtain ⟨y114,hy114⟩ : ∃ y_ : List Int,y_ = (([x4_1] : List Int)) := ⟨_,rfl⟩
            replace H : (if x3_3.length < 5864062014805 then (spec_GroupsOf.l0 kj13 (x3_3 ++ [y114]) (wrap64 (x4_1 + 1)) a0_0 a0_1) else (none)) = some r := by first | (rw [hy114];with_reducible exact H) | (have H2_ := (Option.bind_some _ _).symm.trans H;rw [hy114];with_reducible exact H2_) | (have H2_ := (Option.bind_some _ _).symm.trans H;with_reducible exact H2_) | with_reducible exact H | (rw [hy114];exact H) | exact H
            have Ny114 := Aside0.mk hy114
            clear hy114
            by_cases c38 : x3_3.length < 5864062014805
            ·rw [if_pos c38] at H
             have LMc38 := Aside0.mk c38
             clear c38
             obtain ⟨y117,hy117⟩ : ∃ y_ : List (List Int),y_ = (x3_3 ++ [y114]) := ⟨_,rfl⟩
             replace H : (spec_GroupsOf.l0 kj13 y117 (wrap64 (x4_1 + 1)) a0_0 a0_1) = some r := by first | (rw [hy117];with_reducible exact H) | (have H2_ := (Option.bind_some _ _).symm.trans H;rw [hy117];with_reducible exact H2_) | (have H2_ := (Option.bind_some _ _).symm.trans H;with_reducible exact H2_) | with_reducible exact H | (rw [hy117];exact H) | exact H
             have Ny117 := Aside0.mk hy117
             clear hy117
             have H' := Aside0.mk H
             clear H
             go_wp2_with (first | ((with_reducible refine gate_dst (N := 51) rfl ?_);refine Kd.R_lit (Kd.int .i64) _ 3 ?hg (N := 51) ?hd (xs := ([x4_1] : List Int)) (inner := [.int .i64 x4_1]) (ok := fun _ => True) (okp := fun _ => True) ?hr ?hp (fun _ hk => hk) trivial (Below.refl _ _) (Nat.le_refl _) (by simp) ?_;(case hd => rfl);(case hg => rfl);(case hr => first | (go_simp;done) | (go_simp;rfl));(case hp => exact (Reps.one (show Kd.M (Kd.int .i64) _ _ _ x4_1 [.int .i64 x4_1] from rfl) (Reps.none _ _)));intro v115 w39 ho40 hb hg_ hnew_;clear hg_ hnew_;(first | rw [← Ny114.out] at ho40 | (simp only [Int.reduceToNat] at ho40;rw [← Ny114.out] at ho40));have n0_ := Aside0.mk (Kd.S_elder' (by (with_reducible repeat (first | apply Kd.S_alloc | apply Kd.S_drewN | apply Kd.S_drew));exact HO_3.out) (Kd.R_base ho40) hb);have n1_ := Aside0.mk (Kd.R_lower ho40 (below_size (by repeat (first | (with_reducible first | exact HB.out | apply below_alloc | apply pw_below_drewN | apply below_drew1 | refine below_set ?_ GE101.out) | exact HB.out))));have n2_ := Aside0.mk (blk_below (g := gb101) (o := .cells #[.int .i64 a0_0,.int .i64 a0_1] 25 (0,0)) (by (with_reducible repeat (first | refine blk_drewN ?_ _ | refine blk_drew ?_ | refine blk_alloc ?_ _));exact BK101.out) hb);have n3_ := Aside0.mk (below_step (by repeat (first | (with_reducible first | exact HB.out | apply below_alloc | apply pw_below_drewN | apply below_drew1 | refine below_set ?_ GE101.out) | exact HB.out)) hb);clear HO_3;clear BK101;clear HB;have HO_3 := n0_;have HO116 := n1_;have BK101 := n2_;have HB := n3_;clear n0_ n1_ n2_ n3_;clear hb ho40;obtain ⟨Ao42,co42,eo42⟩ := Kd.R_slice HO116.out;subst eo42) | ((with_reducible refine gate_builtin (b := .append) (xs := #[.tmp 49,.tmp 52]) rfl ?_);at_builtin;refine Kd.S_append (Kd.slice 3 (Kd.int .i64)) (w0 := w) w.heap.size rfl (.tmp 49) (.tmp 52) 30 27 (.slice none 0 0) 24 rfl Try.underlying30 info27 rfl (by decide) (by omega) u3 x3_3 y114 [.slice Ao42 y114.length co42] (fun _ => True) (fun k_ => some k_ = (.slice Ao42 y114.length co42 : Value).ownBlock) rfl rfl ?aP (fun k_ hk_ => ((Kd.R_mono (ok' := fun k_ => ((fun _ => True)) k_ ∧ some k_ ≠ (u3 : Value).ownBlock) (Kd.R_apart' (HO116.out) (Kd.S_typed HO_3.out) (by decide)) (fun k_ hk => ⟨trivial,hk.2⟩))).1 k_ hk_.symm) ?aF ?aO ?aB ?aS ?aL ?_;(case aP => exact Kd.M_row (Kd.R_mono (Kd.R_tight rfl (Kd.R_mono (ok' := fun k_ => ((fun _ => True)) k_ ∧ some k_ ≠ (u3 : Value).ownBlock) (Kd.R_apart' (HO116.out) (Kd.S_typed HO_3.out) (by decide)) (fun k_ hk => ⟨trivial,hk.2⟩))) (fun _ h_ => h_)));(case aB => exact (by repeat (first | (with_reducible first | exact HB.out | apply below_alloc | apply pw_below_drewN | apply below_drew1 | refine below_set ?_ GE101.out) | exact HB.out)));(case aF => exact (fun _ _ => trivial));(case aO => exact (by (with_reducible repeat (first | apply Kd.S_alloc | apply Kd.S_drewN | apply Kd.S_drew));exact Kd.S_mono HO_3.out (fun k_ hk => ⟨trivial,fun e_ => hk.2 e_⟩)));(case aS => exact (below_size (by repeat (first | (with_reducible first | exact HB.out | apply below_alloc | apply pw_below_drewN | apply below_drew1 | refine below_set ?_ GE101.out) | exact HB.out))));(case aL => have := LMc38.out;omega);intro v118 w41 ho hb hg hat;rw [← Ny117.out] at ho;have n0_ := Aside0.mk (blk_grown (g := gb101) (o := .cells #[.int .i64 a0_0,.int .i64 a0_1] 25 (0,0)) (by (with_reducible repeat (first | refine blk_drewN ?_ _ | refine blk_drew ?_ | refine blk_alloc ?_ _));exact BK101.out) hg (Kd.S_ne HO_3.out BK101.out (by decide)));have n1_ := Aside0.mk (hb);have n2_ := Aside0.mk (ho);clear BK101;clear HB;clear HO_3;clear HO116;have BK101 := n0_;have HB := n1_;have HO119 := n2_;clear n0_ n1_ n2_;clear ho hb hg hat))
             go_roundg kj13
             case measure => have := HK1.out;have := HJ4.out;have := HK3.out;have := HJ13.out;omega
             case rel => exact ⟨(y117),(wrap64 (x4_1 + 1)),(by first | rfl | (simp;done) | (simp [*];done)),H',⟨by have := HK1.out;have := HJ4.out;have := HK3.out;have := HJ13.out;omega⟩,⟨by (with_reducible repeat (first | apply Kd.S_alloc | apply Kd.S_drewN | apply Kd.S_drew));exact HO119.out⟩,⟨by (with_reducible repeat (first | refine blk_drewN ?_ _ | refine blk_drew ?_ | refine blk_alloc ?_ _));exact BK101.out⟩,⟨by repeat (first | (with_reducible first | exact HB.out | apply below_alloc | apply pw_below_drewN | apply below_drew1 | refine below_set ?_ GE101.out) | exact HB.out)⟩⟩
            ·rw [if_neg c38] at H
             exact absurd H (by simp)
     ·replace c13 := Bool.eq_false_iff.mpr c13
      subst c13
      have H1 : (some x3_1) = some r := by rw [if_neg (show ¬ (false = true) by decide)] at H;exact H
      clear H
      have H := H1
      clear H1
      obtain rfl := Option.some.inj H
      go_wp2
      go_ret
      exact ⟨_,by first | rfl | (simp [errW_none,errW_some] <;> rfl) | (simp [*,errW_none,errW_some] <;> rfl),by (with_reducible repeat (first | apply Kd.S_alloc | apply Kd.S_drewN | apply Kd.S_drew));exact HO_3.out,by repeat (first | (with_reducible first | exact HB.out | apply below_alloc | apply pw_below_drewN | apply below_drew1 | refine below_set ?_ GE101.out) | exact HB.out)⟩
set_option maxHeartbeats 400000 in
set_option maxRecDepth 100000 in
theorem slices_IndexFunc_int.any (A : Option Addr) (c : Nat) (l : List Int) (p : Int → Bool) (g : Nat) (lb : Array Value) (eg : ∀ args w,(callFunc g args).run Try.prog w = .ok (.enter g args) w) (w : World) (hr : Kd.C (Kd.int .i64) w A l.length l)
  (hp : ∀ (W : World) (x : Nat),x < l.length → Below w.heap.size w W → Gives Try.prog g lb #[.int .i64 (rd l x)] (.bool (p (rd l x))) W) (hl : l.length < 9223372036854775807) :
  Calls Try.prog 82 #[.slice A l.length c,.func (.func g) #[] lb] w fun e w' => ∃ r : Int,e = .returned (.int .i64 r) ∧ decide (0 ≤ r) = B.exN (fun x => p (rd l x)) l.length ∧ Below w.heap.size w w' := by
 have HP := Aside0.mk hp
 have HR := Aside0.mk hr
 have HL := Aside0.mk hl
 clear hp hr
 obtain ⟨M,hM⟩ : ∃ M : Nat,M = l.length := ⟨_,rfl⟩
 have HM := Aside0.mk hM
 go_enter Try.func82,Try.ntmps82
 go_wp2
 go_loopg [8] l.length (fun gg v8 wr => ∃ x : Nat,x ≤ l.length ∧ l.length - x ≤ gg ∧ v8 = .int .i64 x ∧ Aside0 (B.exN (fun x => p (rd l x)) x = false) ∧ Aside0 (Below w.heap.size w wr))
 case atStart => exact ⟨0,Nat.zero_le _,by omega,rfl,⟨rfl⟩,⟨Below.refl _ _⟩⟩
 case round =>
  obtain ⟨x,hx,hg,rfl,HZ,HB⟩ := hrel
  by_cases hlt : x < l.length
  ·have hltz : (x : Int) < (l.length : Int) := by omega
   have h0z : (0 : Int) ≤ (x : Int) := by omega
   have hcall := HP.out wr x hlt HB.out
   unfold Gives at hcall
   obtain ⟨ad,rfl,hc⟩ := Kd.at_int HR.out (x : Int) h0z hltz
   have hc' := (HB.out.cell (World.block_lt_of_cell? w _ hc)).trans hc
   rw [Int.toNat_natCast] at hc'
   cases hq : p (rd l x) with
   | true =>
    rw [hq] at hcall
    have HQ := Aside0.mk hq
    clear hq
    go_wp2_with (go_at_fn g;refine hcall.mono ?_;rintro e w' ⟨rfl,hb'⟩;have HB' := Aside0.mk (below_step HB.out hb');clear hb')
    go_ret
    refine ⟨_,rfl,?_,HB'.out⟩
    rw [B.exN_hit hlt HQ.out]
    exact decide_eq_true h0z
   | false =>
    rw [hq] at hcall
    have HQ := Aside0.mk hq
    clear hq
    go_wp2_with (go_at_fn g;refine hcall.mono ?_;rintro e w' ⟨rfl,hb'⟩;have HB' := Aside0.mk (below_step HB.out hb');clear hb')
    go_roundg (l.length - (x + 1))
    case measure => omega
    case rel => exact ⟨x + 1,by omega,by omega,by have := HL.out;go_num,⟨B.exN_skip HZ.out HQ.out⟩,HB'⟩
  ·have hltz : ¬ (x : Int) < (l.length : Int) := by omega
   obtain rfl : x = l.length := by omega
   go_wp2
   go_ret
   exact ⟨-1,rfl,by rw [HZ.out];decide,HB.out⟩
set_option maxHeartbeats 400000 in
set_option maxRecDepth 100000 in
theorem slices_ContainsFunc_int.any (A : Option Addr) (c : Nat) (l : List Int) (p : Int → Bool) (g : Nat) (lb : Array Value) (eg : ∀ args w,(callFunc g args).run Try.prog w = .ok (.enter g args) w) (w : World) (hr : Kd.C (Kd.int .i64) w A l.length l)
  (hp : ∀ (W : World) (x : Nat),x < l.length → Below w.heap.size w W → Gives Try.prog g lb #[.int .i64 (rd l x)] (.bool (p (rd l x))) W) (hl : l.length < 9223372036854775807) :
  Calls Try.prog 53 #[.slice A l.length c,.func (.func g) #[] lb] w fun e w' => e = .returned (.bool (B.exN (fun x => p (rd l x)) l.length)) ∧ Below w.heap.size w w' := by
 have HC := slices_IndexFunc_int.any A c l p g lb eg w hr hp hl
 clear hp hr
 go_enter Try.func53,Try.ntmps53
 go_wp2_with (go_at_call 82;refine HC.mono ?_;rintro e w' ⟨r,rfl,hd,hb⟩)
 go_ret
 exact ⟨by rw [← hd];rfl,hb⟩
def impl_isBit.f (a0 : Int) : Option (Bool) := if a0 = 0 then (some true) else (some (a0 == 1))
set_option maxHeartbeats 8000000 in
set_option maxRecDepth 100000 in
theorem impl_isBit.calls (a0 : Int) (r : Bool) (w : World) (h : impl_isBit.f a0 = some r) :
  Calls Try.prog 55 #[.int .i64 a0] w fun e w' => e = .returned (.bool r) ∧ Drawn0 w w' := by
 have H : (if a0 = 0 then (some true) else (some (a0 == 1))) = some r := h
 clear h
 by_cases c2 : a0 = 0
 ·rw [if_pos c2] at H
  have c2b0 : (a0 == 0) = true := beq_iff_eq.mpr c2
  have c2b1 : (a0 != 0) = false := bne_eq_false_iff_eq.mpr c2
  clear c2
  obtain rfl := Option.some.inj H
  go_enter Try.func55,Try.ntmps55
  go_wp2
  go_ret
  exact ⟨by first | rfl | (simp;done) | (simp [*];done),by repeat (first | exact Drawn0.refl _ | apply Drawn0.step)⟩
 ·rw [if_neg c2] at H
  have c2b0 : (a0 == 0) = false := beq_eq_false_iff_ne.mpr c2
  have c2b1 : (a0 != 0) = true := bne_iff_ne.mpr c2
  obtain rfl := Option.some.inj H
  go_enter Try.func55,Try.ntmps55
  go_wp2
  go_ret
  exact ⟨by first | rfl | (simp;done) | (simp [*];done),by repeat (first | exact Drawn0.refl _ | apply Drawn0.step)⟩
def impl_SymmetricTable.bad (r : Int) : Bool := !decide (r = 0 ∨ r = 1)
def impl_SymmetricTable.p (l : List Int) (x : Nat) : Bool := (impl_ones.f x).any fun v => rd l v == 1
def impl_SymmetricTable.okx (l : List Int) (x : Nat) : Bool := (impl_ones.f x).any fun v => decide (0 ≤ v ∧ v < (l.length : Int))
theorem impl_SymmetricTable.okx_of {l : List Int} {x : Nat} (h : impl_SymmetricTable.okx l x = true) : ∃ v,impl_ones.f x = some v ∧ 0 ≤ v ∧ v < (l.length : Int) ∧ impl_SymmetricTable.p l x = (rd l v == 1) := by
 unfold impl_SymmetricTable.okx at h
 unfold impl_SymmetricTable.p
 generalize impl_ones.f x = o at h ⊢
 cases o with
 | none => cases h
 | some v => have h := of_decide_eq_true h;exact ⟨v,rfl,h.1,h.2,rfl⟩
def impl_SymmetricTable.f (l0 : List Int) : Option (Int × Int × Bool) :=
 if l0.length < 9223372036854775807 then
  (if 1 ≤ l0.length ∧ l0.length ≤ 6 then (if B.exN (fun i => impl_SymmetricTable.bad (rd l0 i)) l0.length = true then some (0,0,false)
   else if B.allN (impl_SymmetricTable.okx l0) (2 ^ (l0.length - 1)) = true then some (((l0.length - 1 : Nat) : Int),((B.tabN (impl_SymmetricTable.p l0) (2 ^ (l0.length - 1)) : Nat) : Int),true) else none) else some (0,0,false)) else none
set_option maxHeartbeats 400000 in
theorem impl_SymmetricTable_1.any (x : Int) (W : World) : Gives Try.prog 54 #[] #[.int .i64 x] (.bool (impl_SymmetricTable.bad x)) W := by
 show Calls Try.prog 54 #[.int .i64 x] W _
 have hb : impl_isBit.f x = some (!impl_SymmetricTable.bad x) := by
  unfold impl_isBit.f impl_SymmetricTable.bad
  rw [Bool.not_not]
  by_cases h : x = 0
  ·rw [if_pos h];simp [h]
  ·rw [if_neg h];congr 1;rw [Bool.eq_iff_iff];simp [h]
 have HX := Aside0.mk hb
 clear hb
 go_enter Try.func54,Try.ntmps54
 go_wp2_with (go_at_call 55;refine (impl_isBit.calls x _ _ HX.out).mono ?_;rintro e w' ⟨rfl,hd⟩)
 go_ret
 exact ⟨by simp,hd.below⟩
set_option maxHeartbeats 400000 in
theorem impl_SymmetricTable_2.any (l : List Int) (A : Option Addr) (c : Nat) (x : Nat) (hx : impl_SymmetricTable.okx l x = true) (g1 : Nat) (W : World) (hr : Kd.C (Kd.int .i64) W A l.length l)
  (h1 : W.heap[g1]? = some (.cells #[.slice A l.length c] 27 (0,0))) :
  Gives Try.prog 57 #[.pointer (some ⟨g1,0,none⟩)] #[.int .i64 x] (.bool (impl_SymmetricTable.p l x)) W := by
 show Calls Try.prog 57 #[.int .i64 x,.pointer (some ⟨g1,0,none⟩)] W _
 obtain ⟨v,hv,h0,hl,hE⟩ := impl_SymmetricTable.okx_of hx
 have HE := Aside0.mk hE
 clear hE hx
 obtain ⟨ad,rfl,he⟩ := Kd.at_int hr v h0 hl
 have hc0 : W.cell? ⟨g1,0,none⟩ = some (.slice (some ad) l.length c) := (blk_cell h1 0).trans rfl
 have HV := Aside0.mk hv
 clear h1 hr hv
 go_enter Try.func57,Try.ntmps57
 go_wp2
 go_quiet ((go_at_call 58;(with_reducible refine (impl_ones.calls x v _ HV.out).mono ?_);rintro e w' ⟨rfl,⟨nd,rfl⟩⟩;(try first | exact ⟨rfl,_,World.drewN_drewN _ _ _⟩ | exact ⟨rfl,_,Eq.trans (World.drewN_drewN _ _ _) (congrArg (World.drewN _) (Nat.add_assoc _ _ _))⟩)))
 go_wp2
 go_ret
 exact ⟨by rw [HE.out];rfl,by repeat (first | (with_reducible first | exact Below.refl _ _ | apply below_alloc | apply pw_below_drewN | apply below_drew1) | exact Below.refl _ _)⟩
set_option maxHeartbeats 400000 in
set_option maxRecDepth 100000 in
theorem impl_SymmetricTable.calls (A0 : Option Addr) (c0 : Nat) (l0 : List Int) (r1 : Int) (r2 : Int) (r3 : Bool) (w : World) (hr0 : Kd.C (Kd.int .i64) w A0 l0.length l0) (hc0 : l0.length ≤ c0) (h : impl_SymmetricTable.f l0 = some (r1,r2,r3)) :
  Calls Try.prog 15 #[.slice A0 l0.length c0] w fun e w' => e = .returned (.tuple #[.agg #[.int .i64 r1,.int .i64 r2],.bool r3]) ∧ Below w.heap.size w w' := by
 have hu := Try.underlying25
 have HR := Aside0.mk hr0
 clear hr0 hc0
 have k1 : ((w.alloc (.cells #[.slice A0 l0.length c0] 27 (0,0))).alloc (.cells #[.int .i64 0,.int .i64 0] 25 (0,0))).heap[w.heap.size]? = some (.cells #[.slice A0 l0.length c0] 27 (0,0)) := blk_alloc (blk_new w _) _
 have k3 : ((w.alloc (.cells #[.slice A0 l0.length c0] 27 (0,0))).alloc (.cells #[.int .i64 0,.int .i64 0] 25 (0,0))).heap[w.heap.size + 1]? = some (.cells #[.int .i64 0,.int .i64 0] 25 (0,0)) := by simpa using blk_new (w.alloc (.cells #[.slice A0 l0.length c0] 27 (0,0))) (.cells #[.int .i64 0,.int .i64 0] 25 (0,0))
 have kb := below_alloc (below_alloc (Below.refl w.heap.size w) (.cells #[.slice A0 l0.length c0] 27 (0,0))) (.cells #[.int .i64 0,.int .i64 0] 25 (0,0))
 have K1 := Aside0.mk k1
 have K3 := Aside0.mk k3
 have KB := Aside0.mk kb
 clear k1 k3 kb
 unfold impl_SymmetricTable.f at h
 split at h
 next hL =>
  have HL := Aside0.mk hL
  have e1 : IntKind.i64.wrap ((l0.length : Int) - 1) = (l0.length : Int) - 1 := B.wrap_of (by omega) (by omega)
  clear hL
  by_cases h5 : 1 ≤ l0.length ∧ l0.length ≤ 6
  ·rw [if_pos h5] at h
   have HT : Aside0 (impl_isBits.f ((l0.length : Int) - 1) = some true) := ⟨by unfold impl_isBits.f;rw [if_pos (by omega),decide_eq_true (by omega)]⟩
   have EG := Aside0.mk (enters_of Try.func54 (by kernel_rfl) rfl)
   obtain ⟨q,hq⟩ : ∃ q,q = B.exN (fun i => impl_SymmetricTable.bad (rd l0 i)) l0.length := ⟨_,rfl⟩
   have HCC : Aside0 (∀ w' : World,Below w.heap.size w w' → Calls Try.prog 53 #[.slice A0 l0.length c0,.func (.func 54) #[] #[]] w' fun e w'' => e = .returned (.bool q) ∧ Below w'.heap.size w' w'') := ⟨by
    intro w' hb
    rw [hq]
    exact slices_ContainsFunc_int.any A0 c0 l0 impl_SymmetricTable.bad 54 #[] EG.out w' (Kd.Heap.C (Kd.heap_int .i64) hb.block HR.out) (fun W x _ _ => impl_SymmetricTable_1.any (rd l0 x) W) HL.out⟩
   rw [← hq] at h
   clear hq EG
   cases q with
   | true =>
    rw [if_pos rfl] at h
    cases h
    clear h5
    go_enter Try.func15,Try.ntmps15
    go_wp2_with (first | (go_at_call 52;refine (impl_isBits.calls ((l0.length : Int) - 1) true _ HT.out).mono ?_;rintro e w1 ⟨rfl,hd⟩;have L1 := Aside0.mk (blk_below K1.out hd.below);have L3 := Aside0.mk (blk_below K3.out hd.below);have LB := Aside0.mk (below_step KB.out hd.below);clear hd;have hy0 : w1.cell? ⟨w.heap.size,0,none⟩ = some (.slice A0 l0.length c0) := (blk_cell L1.out 0).trans rfl) | (go_at_call 53;refine (HCC.out _ LB.out).mono ?_;rintro e w2 ⟨rfl,hd2⟩;have K3' := blk_below L3.out hd2;have HB' := below_step LB.out hd2;have hx0 : w2.cell? ⟨w.heap.size + 1,0,none⟩ = some (.int .i64 0) := (blk_cell K3' 0).trans rfl;have hx1 : w2.cell? ⟨w.heap.size + 1,1,none⟩ = some (.int .i64 0) := (blk_cell K3' 1).trans rfl;have hf0 := blk_frozen K3' 0;have hf1 := blk_frozen K3' 1))
    refine bodyPost_ret (results_ct rfl _ _ (w.heap.size + 1) 25 #[.int .i64 0,.int .i64 0] (0,0) _ rfl (by first | exact K3' | (refine blk_put (cs := #[.int .i64 0,.int .i64 0]) ?_ 1 _ rfl;refine blk_put (cs := #[.int .i64 0,.int .i64 0]) ?_ 0 _ rfl;exact K3')) Try.underlying25 rfl (by kernel_rfl)) rfl ?_
    exact ⟨rfl,below_set (below_set HB' (by omega)) (by omega)⟩
   | false =>
    rw [if_neg (by decide)] at h
    split at h
    next ha =>
     cases h
     have HA := Aside0.mk (B.allN_iff.mp ha)
     clear ha
     have EG := Aside0.mk (enters_of Try.func57 (by kernel_rfl) rfl)
     obtain ⟨n,hn⟩ : ∃ n,l0.length = n + 1 := ⟨l0.length - 1,by omega⟩
     have H5 : Aside0 (n ≤ 5) := ⟨by omega⟩
     have e2 : (l0.length : Int) - 1 = (n : Int) := by omega
     rw [show l0.length - 1 = n by omega] at HA ⊢
     have E1 := Aside0.mk (e1.trans e2)
     rw [e2] at HT
     have HGV : Aside0 (∀ (wr W : World),wr.heap[w.heap.size]? = some (.cells #[.slice A0 l0.length c0] 27 (0,0)) → Below w.heap.size w wr → ∀ x : Nat,x < 2 ^ n → Below wr.heap.size wr W → Gives Try.prog 57 #[.pointer (some ⟨w.heap.size,0,none⟩)] #[.int .i64 x] (.bool (impl_SymmetricTable.p l0 x)) W) := ⟨by
      intro wr W j1 jb x hx hb
      exact impl_SymmetricTable_2.any l0 A0 c0 x (HA.out x hx) _ W (Kd.Heap.C (Kd.heap_int .i64) (below_step jb hb).block HR.out) (blk_below j1 hb)⟩
     clear HA h5 hn e1 e2
     have e1 := E1.out
     go_enter Try.func15,Try.ntmps15
     go_wp2_with (first | (go_at_call 52;refine (impl_isBits.calls n true _ HT.out).mono ?_;rintro e w1 ⟨rfl,hd⟩;have L1 := Aside0.mk (blk_below K1.out hd.below);have L3 := Aside0.mk (blk_below K3.out hd.below);have LB := Aside0.mk (below_step KB.out hd.below);clear hd;have hy0 : w1.cell? ⟨w.heap.size,0,none⟩ = some (.slice A0 l0.length c0) := (blk_cell L1.out 0).trans rfl) | (go_at_call 53;refine (HCC.out _ LB.out).mono ?_;rintro e w2 ⟨rfl,hd2⟩;have M1 := Aside0.mk (blk_below L1.out hd2);have M3 := Aside0.mk (blk_below L3.out hd2);have MB := Aside0.mk (below_step LB.out hd2);clear hd2;have hz0 : w2.cell? ⟨w.heap.size,0,none⟩ = some (.slice A0 l0.length c0) := (blk_cell M1.out 0).trans rfl) | (go_at_call 56;refine (impl_makeTable.any n H5.out (impl_SymmetricTable.p l0) 57 #[.pointer (some ⟨w.heap.size,0,none⟩)] EG.out _ (fun W x hx hb => HGV.out _ W M1.out MB.out x hx hb)).mono ?_;rintro e w3 ⟨rfl,hb⟩;have BK := Aside0.mk (blk_below M3.out hb);have HB' := Aside0.mk (below_step MB.out hb);clear hb;have hx0 : w3.cell? ⟨w.heap.size + 1,0,none⟩ = some (.int .i64 0) := (blk_cell BK.out 0).trans rfl;have hx1 : w3.cell? ⟨w.heap.size + 1,1,none⟩ = some (.int .i64 0) := (blk_cell BK.out 1).trans rfl;have hf0 := blk_frozen BK.out 0;have hf1 := blk_frozen BK.out 1))
     refine bodyPost_ret (results_ct rfl _ _ (w.heap.size + 1) 25 #[.int .i64 n,.int .i64 (B.tabN (impl_SymmetricTable.p l0) (2 ^ n) : Nat)] (0,0) _ rfl (by refine blk_put (cs := #[.int .i64 n,.int .i64 0]) ?_ 1 _ rfl;refine blk_put (cs := #[.int .i64 0,.int .i64 0]) ?_ 0 _ rfl;exact BK.out) Try.underlying25 rfl (by kernel_rfl)) rfl ?_
     exact ⟨rfl,below_set (below_set HB'.out (by omega)) (by omega)⟩
    next => cases h
  ·rw [if_neg h5] at h
   cases h
   have HT : Aside0 (impl_isBits.f ((l0.length : Int) - 1) = some false) := ⟨by
    unfold impl_isBits.f
    by_cases h : (l0.length : Int) - 1 ≥ 0
    ·rw [if_pos h,decide_eq_false (by omega)]
    ·rw [if_neg h]⟩
   clear h5
   go_enter Try.func15,Try.ntmps15
   go_wp2_with (go_at_call 52;refine (impl_isBits.calls ((l0.length : Int) - 1) false _ HT.out).mono ?_;rintro e w1 ⟨rfl,hd⟩;have L3 := blk_below K3.out hd.below;have LB := below_step KB.out hd.below;have hx0 : w1.cell? ⟨w.heap.size + 1,0,none⟩ = some (.int .i64 0) := (blk_cell L3 0).trans rfl;have hx1 : w1.cell? ⟨w.heap.size + 1,1,none⟩ = some (.int .i64 0) := (blk_cell L3 1).trans rfl;have hf0 := blk_frozen L3 0;have hf1 := blk_frozen L3 1)
   refine bodyPost_ret (results_ct rfl _ _ (w.heap.size + 1) 25 #[.int .i64 0,.int .i64 0] (0,0) _ rfl (by first | exact L3 | (refine blk_put (cs := #[.int .i64 0,.int .i64 0]) ?_ 1 _ rfl;refine blk_put (cs := #[.int .i64 0,.int .i64 0]) ?_ 0 _ rfl;exact L3)) Try.underlying25 rfl (by kernel_rfl)) rfl ?_
   exact ⟨rfl,below_set (below_set LB (by omega)) (by omega)⟩
 next => cases h
def spec_DrawSymmetricTable.l0 : Nat → List Int → Int → List Int → Int → Int → Option (List Int)
 | 0,_,_,_,_,_ => none
 | k + 1,x4,x5,x105000,x105001,x105002 => if x5 > 0 then ((spec_l1Below.f x105000 x105001 x105002 2).bind fun bt111 => (if x4.length < 17592186044416 then (spec_DrawSymmetricTable.l0 k (x4 ++ [bt111.1]) (wrap64 (x5 - 1)) x105000 bt111.2.1 bt111.2.2) else (none))) else (if (x4.length : Int) > 0 then ((spec_l1Once.f x105000 x105001 x105002 8).bind fun bt117 => (if bt117.1 = true then ((spec_l1PickInt.f x105000 bt117.2.1 bt117.2.2 (([2,(-1)] : List Int))).bind fun bt123 => (if 0 < (x4.length : Int) then (some (x4.set (0 : Int).toNat bt123.1)) else (none))) else (some x4))) else (some x4))
def spec_DrawSymmetricTable.f (k : Nat) (l0 : List Int) : Option (List Int) := (spec_l1New.f k l0).bind fun bt101 => ((spec_l1Below.f bt101.1 bt101.2.1 bt101.2.2 8).bind fun bt108 => (spec_DrawSymmetricTable.l0 k (([] : List Int)) bt108.1 bt101.1 bt108.2.1 bt108.2.2))
set_option maxHeartbeats 8000000 in
set_option maxRecDepth 100000 in
theorem spec_DrawSymmetricTable.calls (k : Nat) (A0 : Option Addr) (c0 : Nat) (l0 : List Int) (r : List Int) (w : World) (hr0 : Kd.C (Kd.int .u8) w A0 l0.length l0) (hc0 : l0.length ≤ c0) (h : spec_DrawSymmetricTable.f k l0 = some r) :
  Calls Try.prog 18 #[.slice A0 l0.length c0] w fun e w' => ∃ v0_ : Value,e = .returned (v0_) ∧ Kd.R (Kd.int .i64) 3 w' w.heap.size (fun _ => True) v0_ r ∧ Below w.heap.size w w' := by
 have HR0 := Aside0.mk hr0
 have HC0 := Aside0.mk hc0
 clear hr0 hc0
 have HB := Aside0.mk (Below.refl w.heap.size w)
 have H : ((spec_l1New.f k l0).bind fun bt101 => ((spec_l1Below.f bt101.1 bt101.2.1 bt101.2.2 8).bind fun bt108 => (spec_DrawSymmetricTable.l0 k (([] : List Int)) bt108.1 bt101.1 bt108.2.1 bt108.2.2))) = some r := h
 clear h
 replace H := Option.bind_eq_some_iff.mp H
 obtain ⟨⟨t101,t102,t103⟩,A20,H⟩ := H
 replace H : ((spec_l1Below.f t101 t102 t103 8).bind fun bt108 => (spec_DrawSymmetricTable.l0 k (([] : List Int)) bt108.1 t101 bt108.2.1 bt108.2.2)) = some r := H
 have A2 := Aside0.mk A20
 clear A20
 obtain ⟨y105,hy105⟩ : ∃ y_ : List Int,y_ = (([] : List Int)) := ⟨_,rfl⟩
 replace H : ((spec_l1Below.f t101 t102 t103 8).bind fun bt108 => (spec_DrawSymmetricTable.l0 k y105 bt108.1 t101 bt108.2.1 bt108.2.2)) = some r := by first | (rw [hy105];with_reducible exact H) | (have H2_ := (Option.bind_some _ _).symm.trans H;rw [hy105];with_reducible exact H2_) | (have H2_ := (Option.bind_some _ _).symm.trans H;with_reducible exact H2_) | with_reducible exact H | (rw [hy105];exact H) | exact H
 have Ny105 := Aside0.mk hy105
 clear hy105
 replace H := Option.bind_eq_some_iff.mp H
 obtain ⟨⟨t108,t109,t110⟩,A30,H⟩ := H
 replace H : (spec_DrawSymmetricTable.l0 k y105 t108 t101 t109 t110) = some r := H
 have A3 := Aside0.mk A30
 clear A30
 have H' := Aside0.mk H
 clear H
 go_enter Try.func18,Try.ntmps18
 go_wp2_with (first | ((with_reducible refine gate_callee (f := 47) rfl ?_);refine goesL_ (some 7) rfl rfl Try.func47 (by kernel_rfl) rfl #[.slice A0 l0.length c0] rfl (by (try simp only [List.map_toArray,List.map_cons,List.map_nil]);first | done | rfl | (simp only [List.length_drop,List.length_take];rfl)) ?_;(with_reducible refine (spec_l1New.calls k _ _ l0 t101 t102 t103 w _ ?side1 ?side2 ?side3 A2.out).mono ?_);(case side1 => repeat (first | (with_reducible first | exact HB.out | apply below_alloc | apply pw_below_drewN | apply below_drew1) | exact HB.out));(case side2 => exact HR0.out);(case side3 => exact HC0.out);rintro e w4 ⟨g104,rfl,hi,hb,hb2⟩;refine ⟨_,rfl,?_⟩;have n0_ := Aside0.mk (hb);have n1_ := Aside0.mk (hi);clear HB;have HB := n0_;have HI104 := n1_;clear n0_ n1_;(try clear hb);(try clear hb2);(try clear hk);(try clear hi)) | ((with_reducible refine gate_dst (N := 8) rfl ?_);refine Kd.R_lit (Kd.int .i64) _ 3 ?hg (N := 8) ?hd (xs := ([] : List Int)) (inner := []) (ok := fun _ => True) (okp := fun _ => True) ?hr ?hp (fun _ hk => hk) trivial (Below.refl _ _) (Nat.le_refl _) (by simp) ?_;(case hd => rfl);(case hg => rfl);(case hr => first | (go_simp;done) | (go_simp;rfl));(case hp => exact (Reps.none _ _));intro v106 w5 ho6 hb hg_ hnew_;clear hg_ hnew_;(first | rw [← Ny105.out] at ho6 | (simp only [Int.reduceToNat] at ho6;rw [← Ny105.out] at ho6));have n0_ := Aside0.mk (Kd.R_lower ho6 (below_size (by repeat (first | (with_reducible first | exact HB.out | apply below_alloc | apply pw_below_drewN | apply below_drew1 | refine below_set ?_ (IsS90.ge HI104.out)) | exact HB.out))));have n1_ := Aside0.mk (IsS90.below (by repeat (first | (with_reducible first | exact HI104.out | apply IsS90.alloc | apply IsS90.drewN | apply IsS90.drew | apply IsS90.set_1 | apply IsS90.set_2) | exact HI104.out)) hb);have n2_ := Aside0.mk (below_step (by repeat (first | (with_reducible first | exact HB.out | apply below_alloc | apply pw_below_drewN | apply below_drew1 | refine below_set ?_ (IsS90.ge HI104.out)) | exact HB.out)) hb);clear HI104;clear HB;have HO107 := n0_;have HI104 := n1_;have HB := n2_;clear n0_ n1_ n2_;clear hb ho6) | ((with_reducible refine gate_callee (f := 62) rfl ?_);refine goesL_ (some 10) rfl rfl Try.func62 (by kernel_rfl) rfl #[.pointer (some ⟨g104,0,none⟩),.int .i64 8] rfl (by (try simp only [List.map_toArray,List.map_cons,List.map_nil]);first | done | rfl | (simp only [List.length_drop,List.length_take];rfl)) ?_;(with_reducible refine (spec_l1Below.calls g104 t101 t102 t103 8 t108 t109 t110 w _ ?side1 ?side2 A3.out).mono ?_);(case side1 => repeat (first | (with_reducible first | exact HI104.out | apply IsS90.alloc | apply IsS90.drewN | apply IsS90.drew | apply IsS90.set_1 | apply IsS90.set_2) | exact HI104.out));(case side2 => repeat (first | (with_reducible first | exact HB.out | apply below_alloc | apply pw_below_drewN | apply below_drew1 | refine below_set ?_ (IsS90.ge HI104.out)) | exact HB.out));rintro e w7 ⟨rfl,hi,hb,hk⟩;refine ⟨_,rfl,?_⟩;have n0_ := Aside0.mk (Kd.R_mono (Kd.R_keep (IsS90.apart (show IsS90 w _ g104 t101 t102 t103 from by repeat (first | (with_reducible first | exact HI104.out | apply IsS90.alloc | apply IsS90.drewN | apply IsS90.drew | apply IsS90.set_1 | apply IsS90.set_2) | exact HI104.out)) (by (with_reducible repeat (first | apply Kd.R_alloc | apply Kd.R_drewN | apply Kd.R_drew));exact HO107.out) (by decide)) hk (fun _ h => h.2)) (fun _ h => h.1));have n1_ := Aside0.mk (hb);have n2_ := Aside0.mk (hi);clear HO107;clear HB;clear HI104;have HO107 := n0_;have HB := n1_;have HI104 := n2_;clear n0_ n1_ n2_;(try clear hb);(try clear hb2);(try clear hk);(try clear hi)))
 go_loopg [4,5] k (fun kq v4 v5 w' => ∃ (x4_1 : List Int) (x5_1 : Int) (x105001_1 : Int) (x105002_1 : Int),v5 = .int .i64 x5_1 ∧ Aside0 (spec_DrawSymmetricTable.l0 kq x4_1 x5_1 t101 x105001_1 x105002_1 = some r) ∧ Aside0 (kq ≤ k) ∧ Aside0 (Kd.R (Kd.int .i64) 3 w' w.heap.size (fun _ => True) v4 x4_1) ∧ Aside0 (IsS90 w w' g104 t101 x105001_1 x105002_1) ∧ Aside0 (Below w.heap.size w w'))
 case atStart => exact ⟨(y105),(t108),(t109),(t110),(by first | rfl | (simp;done) | (simp [*];done)),H',⟨Nat.le_refl _⟩,⟨by (with_reducible repeat (first | apply Kd.R_alloc | apply Kd.R_drewN | apply Kd.R_drew));exact HO107.out⟩,⟨by repeat (first | (with_reducible first | exact HI104.out | apply IsS90.alloc | apply IsS90.drewN | apply IsS90.drew | apply IsS90.set_1 | apply IsS90.set_2) | exact HI104.out)⟩,⟨by repeat (first | (with_reducible first | exact HB.out | apply below_alloc | apply pw_below_drewN | apply below_drew1 | refine below_set ?_ (IsS90.ge HI104.out)) | exact HB.out)⟩⟩
 case round =>
  clear H'
  try clear c1
  try clear p2
  try clear c4
  try clear c6
  obtain ⟨x4_1,x5_1,x105001_1,x105002_1,rfl,HA,HK1,HO_4,HI104,HB⟩ := hrel
  cases gk with
  | zero => exact absurd HA.out (by simp [spec_DrawSymmetricTable.l0])
  | succ k1 =>
   have H := HA.out
   clear HA
   simp only [spec_DrawSymmetricTable.l0] at H
   by_cases c8 : x5_1 > 0
   ·rw [if_pos c8] at H
    have c8b0 : decide (0 < x5_1) = true := decide_eq_true c8
    clear c8
    replace H := Option.bind_eq_some_iff.mp H
    obtain ⟨⟨t111,t112,t113⟩,A90,H⟩ := H
    replace H : (if x4_1.length < 17592186044416 then (spec_DrawSymmetricTable.l0 k1 (x4_1 ++ [t111]) (wrap64 (x5_1 - 1)) t101 t112 t113) else (none)) = some r := H
    have A9 := Aside0.mk A90
    clear A90
    by_cases c10 : x4_1.length < 17592186044416
    ·rw [if_pos c10] at H
     have LMc10 := Aside0.mk c10
     clear c10
     obtain ⟨y114,hy114⟩ : ∃ y_ : List Int,y_ = (x4_1 ++ [t111]) := ⟨_,rfl⟩
     replace H : (spec_DrawSymmetricTable.l0 k1 y114 (wrap64 (x5_1 - 1)) t101 t112 t113) = some r := by first | (rw [hy114];with_reducible exact H) | (have H2_ := (Option.bind_some _ _).symm.trans H;rw [hy114];with_reducible exact H2_) | (have H2_ := (Option.bind_some _ _).symm.trans H;with_reducible exact H2_) | with_reducible exact H | (rw [hy114];exact H) | exact H
     have Ny114 := Aside0.mk hy114
     clear hy114
     have H' := Aside0.mk H
     clear H
     go_wp2_with (first | ((with_reducible refine gate_callee (f := 62) rfl ?_);refine goesL_ (some 17) rfl rfl Try.func62 (by kernel_rfl) rfl #[.pointer (some ⟨g104,0,none⟩),.int .i64 2] rfl (by (try simp only [List.map_toArray,List.map_cons,List.map_nil]);first | done | rfl | (simp only [List.length_drop,List.length_take];rfl)) ?_;(with_reducible refine (spec_l1Below.calls g104 t101 x105001_1 x105002_1 2 t111 t112 t113 w _ ?side1 ?side2 A9.out).mono ?_);(case side1 => repeat (first | (with_reducible first | exact HI104.out | apply IsS90.alloc | apply IsS90.drewN | apply IsS90.drew | apply IsS90.set_1 | apply IsS90.set_2) | exact HI104.out));(case side2 => repeat (first | (with_reducible first | exact HB.out | apply below_alloc | apply pw_below_drewN | apply below_drew1 | refine below_set ?_ (IsS90.ge HI104.out)) | exact HB.out));rintro e w11 ⟨rfl,hi,hb,hk⟩;refine ⟨_,rfl,?_⟩;have n0_ := Aside0.mk (Kd.R_mono (Kd.R_keep (IsS90.apart (show IsS90 w _ g104 t101 x105001_1 x105002_1 from by repeat (first | (with_reducible first | exact HI104.out | apply IsS90.alloc | apply IsS90.drewN | apply IsS90.drew | apply IsS90.set_1 | apply IsS90.set_2) | exact HI104.out)) (by (with_reducible repeat (first | apply Kd.R_alloc | apply Kd.R_drewN | apply Kd.R_drew));exact HO_4.out) (by decide)) hk (fun _ h => h.2)) (fun _ h => h.1));have n1_ := Aside0.mk (hb);have n2_ := Aside0.mk (hi);clear HO_4;clear HB;clear HI104;have HO_4 := n0_;have HB := n1_;have HI104 := n2_;clear n0_ n1_ n2_;(try clear hb);(try clear hb2);(try clear hk);(try clear hi)) | ((with_reducible refine gate_builtin (b := .append) (xs := #[.tmp 15,.tmp 18]) rfl ?_);at_builtin;refine Kd.R_append (Kd.int .i64) (w0 := w) w.heap.size rfl (.tmp 15) (.tmp 18) 27 3 (.int .i64 0) 8 rfl Try.underlying27 info3 rfl (by decide) (by omega) u4 x4_1 t111 [.int .i64 t111] (fun _ => True) (fun _ => False) rfl rfl ?aP (fun _ hk => hk.elim) ?aF ?aO ?aB ?aS ?aL ?_;(case aP => exact rfl);(case aB => exact (by repeat (first | (with_reducible first | exact HB.out | apply below_alloc | apply pw_below_drewN | apply below_drew1 | refine below_set ?_ (IsS90.ge HI104.out)) | exact HB.out)));(case aF => exact (fun _ _ => trivial));(case aO => exact (by (with_reducible repeat (first | apply Kd.R_alloc | apply Kd.R_drewN | apply Kd.R_drew));exact HO_4.out));(case aS => exact (below_size (by repeat (first | (with_reducible first | exact HB.out | apply below_alloc | apply pw_below_drewN | apply below_drew1 | refine below_set ?_ (IsS90.ge HI104.out)) | exact HB.out))));(case aL => have := LMc10.out;omega);intro v115 w12 ho hb hg hat;rw [← Ny114.out] at ho;have n0_ := Aside0.mk (IsS90.grown (by repeat (first | (with_reducible first | exact HI104.out | apply IsS90.alloc | apply IsS90.drewN | apply IsS90.drew | apply IsS90.set_1 | apply IsS90.set_2) | exact HI104.out)) hg (IsS90.own_ne HI104.out HO_4.out (by decide)));have n1_ := Aside0.mk (hb);have n2_ := Aside0.mk (ho);clear HI104;clear HB;clear HO_4;have HI104 := n0_;have HB := n1_;have HO116 := n2_;clear n0_ n1_ n2_;clear ho hb hg hat))
     go_roundg k1
     case measure => have := HK1.out;omega
     case rel => exact ⟨(y114),(wrap64 (x5_1 - 1)),(t112),(t113),(by first | rfl | (simp;done) | (simp [*];done)),H',⟨by have := HK1.out;omega⟩,⟨by (with_reducible repeat (first | apply Kd.R_alloc | apply Kd.R_drewN | apply Kd.R_drew));exact HO116.out⟩,⟨by repeat (first | (with_reducible first | exact HI104.out | apply IsS90.alloc | apply IsS90.drewN | apply IsS90.drew | apply IsS90.set_1 | apply IsS90.set_2) | exact HI104.out)⟩,⟨by repeat (first | (with_reducible first | exact HB.out | apply below_alloc | apply pw_below_drewN | apply below_drew1 | refine below_set ?_ (IsS90.ge HI104.out)) | exact HB.out)⟩⟩
    ·rw [if_neg c10] at H
     exact absurd H (by simp)
   ·rw [if_neg c8] at H
    have c8b0 : decide (0 < x5_1) = false := decide_eq_false c8
    clear c8
    by_cases c13 : (x4_1.length : Int) > 0
    ·rw [if_pos c13] at H
     have c13b0 : decide (0 < (x4_1.length : Int)) = true := decide_eq_true c13
     have c13b1 : decide (0 < x4_1.length) = true := decide_eq_true (by omega)
     clear c13
     replace H := Option.bind_eq_some_iff.mp H
     obtain ⟨⟨t117,t118,t119⟩,A140,H⟩ := H
     replace H : (if t117 = true then ((spec_l1PickInt.f t101 t118 t119 (([2,(-1)] : List Int))).bind fun bt123 => (if 0 < (x4_1.length : Int) then (some (x4_1.set (0 : Int).toNat bt123.1)) else (none))) else (some x4_1)) = some r := H
     have A14 := Aside0.mk A140
     clear A140
     by_cases c15 : t117 = true
     ·subst c15
      have H1 : ((spec_l1PickInt.f t101 t118 t119 (([2,(-1)] : List Int))).bind fun bt123 => (if 0 < (x4_1.length : Int) then (some (x4_1.set (0 : Int).toNat bt123.1)) else (none))) = some r := by rw [if_pos rfl] at H;exact H
      clear H
      have H := H1
      clear H1
      obtain ⟨y120,hy120⟩ : ∃ y_ : List Int,y_ = (([2,(-1)] : List Int)) := ⟨_,rfl⟩
      replace H : ((spec_l1PickInt.f t101 t118 t119 y120).bind fun bt123 => (if 0 < (x4_1.length : Int) then (some (x4_1.set (0 : Int).toNat bt123.1)) else (none))) = some r := by first | (rw [hy120];with_reducible exact H) | (have H2_ := (Option.bind_some _ _).symm.trans H;rw [hy120];with_reducible exact H2_) | (have H2_ := (Option.bind_some _ _).symm.trans H;with_reducible exact H2_) | with_reducible exact H | (rw [hy120];exact H) | exact H
      have Ny120 := Aside0.mk hy120
      clear hy120
      replace H := Option.bind_eq_some_iff.mp H
      obtain ⟨⟨t123,t124,t125⟩,A160,H⟩ := H
      replace H : (if 0 < (x4_1.length : Int) then (some (x4_1.set (0 : Int).toNat t123)) else (none)) = some r := H
      have A16 := Aside0.mk A160
      clear A160
      by_cases c17 : 0 < (x4_1.length : Int)
      ·rw [if_pos c17] at H
       have c17b0 : decide (0 < (x4_1.length : Int)) = true := decide_eq_true c17
       have c17b1 : decide (0 < x4_1.length) = true := decide_eq_true (by omega)
       clear c17
       obtain ⟨y126,hy126⟩ : ∃ y_ : List Int,y_ = (x4_1.set (0 : Int).toNat t123) := ⟨_,rfl⟩
       replace H : (some y126) = some r := by first | (rw [hy126];with_reducible exact H) | (have H2_ := (Option.bind_some _ _).symm.trans H;rw [hy126];with_reducible exact H2_) | (have H2_ := (Option.bind_some _ _).symm.trans H;with_reducible exact H2_) | with_reducible exact H | (rw [hy126];exact H) | exact H
       have Ny126 := Aside0.mk hy126
       clear hy126
       obtain rfl := Option.some.inj H
       obtain ⟨Ao19,co19,eo19⟩ := Kd.R_slice HO_4.out
       subst eo19
       go_wp2_with (first | (go_at_call 63;(with_reducible refine (spec_l1Once.calls g104 t101 x105001_1 x105002_1 8 true t118 t119 w _ ?side1 ?side2 A14.out).mono ?_);(case side1 => repeat (first | (with_reducible first | exact HI104.out | apply IsS90.alloc | apply IsS90.drewN | apply IsS90.drew | apply IsS90.set_1 | apply IsS90.set_2) | exact HI104.out));(case side2 => repeat (first | (with_reducible first | exact HB.out | apply below_alloc | apply pw_below_drewN | apply below_drew1 | refine below_set ?_ (IsS90.ge HI104.out)) | exact HB.out));rintro e w20 ⟨rfl,hi,hb,hk⟩;have n0_ := Aside0.mk (Kd.R_mono (Kd.R_keep (IsS90.apart (show IsS90 w _ g104 t101 x105001_1 x105002_1 from by repeat (first | (with_reducible first | exact HI104.out | apply IsS90.alloc | apply IsS90.drewN | apply IsS90.drew | apply IsS90.set_1 | apply IsS90.set_2) | exact HI104.out)) (by (with_reducible repeat (first | apply Kd.R_alloc | apply Kd.R_drewN | apply Kd.R_drew));exact HO_4.out) (by decide)) hk (fun _ h => h.2)) (fun _ h => h.1));have n1_ := Aside0.mk (hb);have n2_ := Aside0.mk (hi);clear HO_4;clear HB;clear HI104;have HO_4 := n0_;have HB := n1_;have HI104 := n2_;clear n0_ n1_ n2_;(try clear hb);(try clear hb2);(try clear hk);(try clear hi)) | ((with_reducible refine gate_dst (N := 29) rfl ?_);refine Kd.R_lit (Kd.int .i64) _ 3 ?hg (N := 29) ?hd (xs := ([2,(-1)] : List Int)) (inner := [.int .i64 2,.int .i64 (-1)]) (ok := fun _ => True) (okp := fun _ => True) ?hr ?hp (fun _ hk => hk) trivial (Below.refl _ _) (Nat.le_refl _) (by simp) ?_;(case hd => rfl);(case hg => rfl);(case hr => first | (go_simp;done) | (go_simp;rfl));(case hp => exact (Reps.one (show Kd.M (Kd.int .i64) _ _ _ 2 [.int .i64 2] from rfl) (Reps.one (show Kd.M (Kd.int .i64) _ _ _ (-1) [.int .i64 (-1)] from rfl) (Reps.none _ _))));intro v121 w21 ho22 hb hg_ hnew_;clear hg_ hnew_;(first | rw [← Ny120.out] at ho22 | (simp only [Int.reduceToNat] at ho22;rw [← Ny120.out] at ho22));have n0_ := Aside0.mk (Kd.R_elder' (by (with_reducible repeat (first | apply Kd.R_alloc | apply Kd.R_drewN | apply Kd.R_drew));exact HO_4.out) (Kd.R_base ho22) hb);have n1_ := Aside0.mk (Kd.R_lower (Kd.R_new' ho22 (Kd.R_lt (by (with_reducible repeat (first | apply Kd.R_alloc | apply Kd.R_drewN | apply Kd.R_drew));exact HO_4.out))) (below_size (by repeat (first | (with_reducible first | exact HB.out | apply below_alloc | apply pw_below_drewN | apply below_drew1 | refine below_set ?_ (IsS90.ge HI104.out)) | exact HB.out))));have n2_ := Aside0.mk (IsS90.below (by repeat (first | (with_reducible first | exact HI104.out | apply IsS90.alloc | apply IsS90.drewN | apply IsS90.drew | apply IsS90.set_1 | apply IsS90.set_2) | exact HI104.out)) hb);have n3_ := Aside0.mk (below_step (by repeat (first | (with_reducible first | exact HB.out | apply below_alloc | apply pw_below_drewN | apply below_drew1 | refine below_set ?_ (IsS90.ge HI104.out)) | exact HB.out)) hb);clear HO_4;clear HI104;clear HB;have HO_4 := n0_;have HO122 := n1_;have HI104 := n2_;have HB := n3_;clear n0_ n1_ n2_ n3_;clear hb ho22;obtain ⟨Ao23,co23,eo23⟩ := Kd.R_slice HO122.out;subst eo23) | ((with_reducible refine gate_callee (f := 64) rfl ?_);refine goesL_ (some 30) rfl rfl Try.func64 (by kernel_rfl) rfl #[.pointer (some ⟨g104,0,none⟩),.slice Ao23 y120.length co23] rfl (by (try simp only [List.map_toArray,List.map_cons,List.map_nil]);first | done | rfl | (simp only [List.length_drop,List.length_take];rfl)) ?_;(with_reducible refine (spec_l1PickInt.calls g104 t101 t118 t119 _ _ y120 t123 t124 t125 w _ ?side1 ?side2 ?side3 ?side4 ?side5 A16.out).mono ?_);(case side1 => repeat (first | (with_reducible first | exact HI104.out | apply IsS90.alloc | apply IsS90.drewN | apply IsS90.drew | apply IsS90.set_1 | apply IsS90.set_2) | exact HI104.out));(case side2 => repeat (first | (with_reducible first | exact HB.out | apply below_alloc | apply pw_below_drewN | apply below_drew1 | refine below_set ?_ (IsS90.ge HI104.out)) | exact HB.out));(case side3 => repeat (first | exact (Kd.R_reads' HO122.out).2.2 | (with_reducible refine Kd.C_alloc ?_ _) | (with_reducible refine Kd.C_drewN ?_ _) | (with_reducible refine Kd.C_drew ?_)));(case side4 => exact (Kd.R_reads' HO122.out).2.1);(case side5 => exact far_slice (IsS90.own_ne HI104.out HO122.out (by decide)));rintro e w24 ⟨rfl,hi,hb,hk⟩;refine ⟨_,rfl,?_⟩;have n0_ := Aside0.mk (Kd.R_mono (Kd.R_keep (IsS90.apart (show IsS90 w _ g104 t101 t118 t119 from by repeat (first | (with_reducible first | exact HI104.out | apply IsS90.alloc | apply IsS90.drewN | apply IsS90.drew | apply IsS90.set_1 | apply IsS90.set_2) | exact HI104.out)) (by (with_reducible repeat (first | apply Kd.R_alloc | apply Kd.R_drewN | apply Kd.R_drew));exact HO_4.out) (by decide)) hk (fun _ h => h.2)) (fun _ h => h.1));have n1_ := Aside0.mk (Kd.R_mono (Kd.R_keep (IsS90.apart (show IsS90 w _ g104 t101 t118 t119 from by repeat (first | (with_reducible first | exact HI104.out | apply IsS90.alloc | apply IsS90.drewN | apply IsS90.drew | apply IsS90.set_1 | apply IsS90.set_2) | exact HI104.out)) (by (with_reducible repeat (first | apply Kd.R_alloc | apply Kd.R_drewN | apply Kd.R_drew));exact HO122.out) (by decide)) hk (fun _ h => h.2)) (fun _ h => h.1));have n2_ := Aside0.mk (hb);have n3_ := Aside0.mk (hi);clear HO_4;clear HO122;clear HB;clear HI104;have HO_4 := n0_;have HO122 := n1_;have HB := n2_;have HI104 := n3_;clear n0_ n1_ n2_ n3_;(try clear hb);(try clear hb2);(try clear hk);(try clear hi);have p18 : 0 ≤ (0 : Int) := (by omega);have q18 : (0 : Int) < ((x4_1.length : Int) : Int) := of_decide_eq_true (by first | (with_reducible assumption) | assumption);have qi18 : (0 < x4_1.length) = True := eq_true (by omega);obtain ⟨go18,co18,eo18,gb18,gl18,cl18,HG18⟩ := Kd.R_form HO_4.out (by omega);(first | cases eo18 | (injection eo18 with ea_ en_ ec_;(first | subst ea_ | (injection ea_ with ea_;subst ea_));subst ec_;clear en_));have GB18 := Aside0.mk gb18;have GG18 := Aside0.mk HG18;clear gb18 gl18 HG18;obtain ⟨hx18_0,hf18_0⟩ := Kd.R_celln 0 HO_4.out (0 : Int) p18 q18;(try rw [show ((0 : Int)).toNat = 0 from rfl] at hx18_0);(try simp only [Nat.reduceMul,Nat.zero_mul,Nat.zero_add,Nat.reduceAdd] at hx18_0);(try rw [show ((0 : Int)).toNat = 0 from rfl] at hf18_0);(try simp only [Nat.reduceMul,Nat.zero_mul,Nat.zero_add,Nat.reduceAdd] at hf18_0);replace p18 := eq_true p18;replace q18 := eq_true q18;have n_ := Aside0.mk (Kd.R_mono (ok' := (fun k_ => some k_ ≠ (.slice Ao23 y120.length co23 : Value).ownBlock)) HO_4.out (fun k_ hk => hk.2));clear HO_4;have HO_4 := n_;clear n_;obtain ⟨hy25_,hz25_⟩ := Kd.R_celln 0 HO_4.out (0 : Int) (by omega) (of_decide_eq_true (by first | (with_reducible assumption) | assumption));(try simp only [Int.reduceToNat,Int.toNat_zero,Int.toNat_ofNat,Nat.reduceMul,Nat.zero_mul,Nat.zero_add] at hy25_ hz25_);(try rw [show ((0 : Int)).toNat = 0 from rfl] at hy25_);(try rw [show ((0 : Int)).toNat = 0 from rfl] at hz25_);have HP25 := Kd.R_putg HO_4.out (0 : Int) t123) | ((with_reducible refine gate_store (t := 3) (p := 31) rfl ?_);refine store_event (t := 3) (p := 31) (v := ?vo_w26) (w1 := (w24.setCell ⟨go18,(0 : Int).toNat,none⟩ (.int .i64 t123))) ?hg ?ho ?hn ?hr ?_;(case ho => rfl);(case hg => rfl);(case hn => rfl);(case hr => first | (go_simp;done) | (go_simp;rfl));intro w26 hw;have hg : w24.grownBy w26 (some go18) := (by rw [hw];exact HP25.2);have hp_ : Kd.R (Kd.int .i64) 3 w26 w.heap.size (fun k_ => some k_ ≠ (.slice Ao23 y120.length co23 : Value).ownBlock) (.slice (some ⟨go18,0,none⟩) x4_1.length co19) y126 := (by rw [hw,Ny126.out];exact HP25.1);clear HP25;have n0_ := Aside0.mk (hp_);have n1_ := Aside0.mk (IsS90.grown (by repeat (first | (with_reducible first | exact HI104.out | apply IsS90.alloc | apply IsS90.drewN | apply IsS90.drew | apply IsS90.set_1 | apply IsS90.set_2) | exact HI104.out)) hg (IsS90.own_ne HI104.out HO_4.out (by decide)));have n2_ := Aside0.mk (Kd.R_after (v := (.slice (some ⟨go18,0,none⟩) x4_1.length co19)) (v1 := (.slice (some ⟨go18,0,none⟩) x4_1.length co19)) (ok := (fun _ => True)) (by (with_reducible repeat (first | apply Kd.R_alloc | apply Kd.R_drewN | apply Kd.R_drew));exact HO122.out) hg (.inl rfl));have n3_ := Aside0.mk ((by rw [hw];exact below_set (HB.out) GB18.out : Below w.heap.size w w26));clear HO_4;clear HI104;clear HO122;clear HB;have HO_4 := n0_;have HI104 := n1_;have HO122 := n2_;have HB := n3_;clear n0_ n1_ n2_ n3_;clear hg hw hp_))
       go_ret
       exact ⟨_,by first | rfl | (simp [errW_none,errW_some] <;> rfl) | (simp [*,errW_none,errW_some] <;> rfl),by (with_reducible repeat (first | apply Kd.R_alloc | apply Kd.R_drewN | apply Kd.R_drew));exact Kd.R_mono HO_4.out (fun _ hk => trivial),by repeat (first | (with_reducible first | exact HB.out | apply below_alloc | apply pw_below_drewN | apply below_drew1 | refine below_set ?_ (IsS90.ge HI104.out)) | exact HB.out)⟩
      ·rw [if_neg c17] at H
       exact absurd H (by simp)
     ·replace c15 := Bool.eq_false_iff.mpr c15
      subst c15
      have H1 : (some x4_1) = some r := by rw [if_neg (show ¬ (false = true) by decide)] at H;exact H
      clear H
      have H := H1
      clear H1
      obtain rfl := Option.some.inj H
      obtain ⟨Ao27,co27,eo27⟩ := Kd.R_slice HO_4.out
      subst eo27
      go_wp2_with (first | (go_at_call 63;(with_reducible refine (spec_l1Once.calls g104 t101 x105001_1 x105002_1 8 false t118 t119 w _ ?side1 ?side2 A14.out).mono ?_);(case side1 => repeat (first | (with_reducible first | exact HI104.out | apply IsS90.alloc | apply IsS90.drewN | apply IsS90.drew | apply IsS90.set_1 | apply IsS90.set_2) | exact HI104.out));(case side2 => repeat (first | (with_reducible first | exact HB.out | apply below_alloc | apply pw_below_drewN | apply below_drew1 | refine below_set ?_ (IsS90.ge HI104.out)) | exact HB.out));rintro e w28 ⟨rfl,hi,hb,hk⟩;have n0_ := Aside0.mk (Kd.R_mono (Kd.R_keep (IsS90.apart (show IsS90 w _ g104 t101 x105001_1 x105002_1 from by repeat (first | (with_reducible first | exact HI104.out | apply IsS90.alloc | apply IsS90.drewN | apply IsS90.drew | apply IsS90.set_1 | apply IsS90.set_2) | exact HI104.out)) (by (with_reducible repeat (first | apply Kd.R_alloc | apply Kd.R_drewN | apply Kd.R_drew));exact HO_4.out) (by decide)) hk (fun _ h => h.2)) (fun _ h => h.1));have n1_ := Aside0.mk (hb);have n2_ := Aside0.mk (hi);clear HO_4;clear HB;clear HI104;have HO_4 := n0_;have HB := n1_;have HI104 := n2_;clear n0_ n1_ n2_;(try clear hb);(try clear hb2);(try clear hk);(try clear hi)))
      go_ret
      exact ⟨_,by first | rfl | (simp [errW_none,errW_some] <;> rfl) | (simp [*,errW_none,errW_some] <;> rfl),by (with_reducible repeat (first | apply Kd.R_alloc | apply Kd.R_drewN | apply Kd.R_drew));exact HO_4.out,by repeat (first | (with_reducible first | exact HB.out | apply below_alloc | apply pw_below_drewN | apply below_drew1 | refine below_set ?_ (IsS90.ge HI104.out)) | exact HB.out)⟩
    ·rw [if_neg c13] at H
     have c13b0 : decide (0 < (x4_1.length : Int)) = false := decide_eq_false c13
     have c13b1 : decide (0 < x4_1.length) = false := decide_eq_false (by omega)
     clear c13
     obtain rfl := Option.some.inj H
     obtain ⟨Ao29,co29,eo29⟩ := Kd.R_slice HO_4.out
     subst eo29
     go_wp2
     go_ret
     exact ⟨_,by first | rfl | (simp [errW_none,errW_some] <;> rfl) | (simp [*,errW_none,errW_some] <;> rfl),by (with_reducible repeat (first | apply Kd.R_alloc | apply Kd.R_drewN | apply Kd.R_drew));exact HO_4.out,by repeat (first | (with_reducible first | exact HB.out | apply below_alloc | apply pw_below_drewN | apply below_drew1 | refine below_set ?_ (IsS90.ge HI104.out)) | exact HB.out)⟩
end Go.Proofs.Ythlajlhjofjmcaa.F
