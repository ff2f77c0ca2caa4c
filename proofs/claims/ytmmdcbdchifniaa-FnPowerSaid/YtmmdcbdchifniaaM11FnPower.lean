/- Walks of Go functions and lemmas on what they compute, for the row of FnPower (a part of several): each call ends as the Lean function of its name tells; the conditions are those of each theorem. -/
import Derived.Test.YtmmdcbdchifniaaM1FnPower
import Derived.Test.YtmmdcbdchifniaaM2FnPower
import Derived.Test.YtmmdcbdchifniaaM3FnPower
import Derived.Test.YtmmdcbdchifniaaM4FnPower
import Derived.Test.YtmmdcbdchifniaaM8FnPower
namespace Go.Proofs.Ytmmdcbdchifniaa.F
open Go.RowKit Go.Proofs.YtmmdcbdchifniaaW.PrintWords Go.Proofs.YtmmdcbdchifniaaW.PrintLast Go.Proofs.YtmmdcbdchifniaaW.PrintMore
attribute [local go_sem] max2_int min2_int max_two min_two max_three min_three max_four min_four 
set_option linter.unusedVariables false
set_option linter.unusedSimpArgs false
mutual
def spec_DummyPlayers.l0 : Nat → List Int → Int → Int → Int → Option (List Int)
 | 0,_,_,_,_ => none
 | k + 1,x3,x4,x102000,x102001 => (spec_IsSimpleGame.f k x102000 x102001).bind fun t105 => (if t105 = true then (spec_DummyPlayers.j1 k x3 x4 (decide (x4 < x102000)) x102000 x102001) else (spec_DummyPlayers.j1 k x3 x4 false x102000 x102001))
def spec_DummyPlayers.j1 : Nat → List Int → Int → Bool → Int → Int → Option (List Int)
 | 0,_,_,_,_,_ => none
 | k + 1,x3,x4,x13,x102000,x102001 => if x13 = true then ((spec_l3Depends.f k x102000 x102001 x4).bind fun t106 => (if t106 = true then (spec_DummyPlayers.l0 k x3 (wrap64 (x4 + 1)) x102000 x102001) else (if x3.length < 17592186044416 then (spec_DummyPlayers.l0 k (x3 ++ [x4]) (wrap64 (x4 + 1)) x102000 x102001) else (none)))) else (some x3)
end
def spec_DummyPlayers.f (k : Nat) (a0_0 : Int) (a0_1 : Int) : Option (List Int) := spec_DummyPlayers.l0 k (([] : List Int)) 0 a0_0 a0_1
set_option maxHeartbeats 8000000 in
set_option maxRecDepth 100000 in
theorem spec_DummyPlayers.calls (k : Nat) (a0_0 : Int) (a0_1 : Int) (r : List Int) (w : World) (h : spec_DummyPlayers.f k a0_0 a0_1 = some r) :
  Calls Try.prog 15 #[.agg #[.int .i64 a0_0,.int .i64 a0_1]] w fun e w' => ∃ v0_ : Value,e = .returned (v0_) ∧ Kd.R (Kd.int .i64) 3 w' w.heap.size (fun _ => True) v0_ r ∧ Below w.heap.size w w' := by
 have hu25 := Try.underlying25
 have HB := aZ_ (Below.refl w.heap.size w)
 have H : (spec_DummyPlayers.l0 k (([] : List Int)) 0 a0_0 a0_1) = some r := h
 clear h
 obtain ⟨y102,hy102⟩ : ∃ y_ : List Int,y_ = (([] : List Int)) := ⟨_,rfl⟩
 replace H : (spec_DummyPlayers.l0 k y102 0 a0_0 a0_1) = some r := by first | (rw [hy102];with_reducible exact H) | (have H2_ := (Option.bind_some _ _).symm.trans H;rw [hy102];with_reducible exact H2_) | (have H2_ := (Option.bind_some _ _).symm.trans H;with_reducible exact H2_) | with_reducible exact H | (rw [hy102];exact H) | exact H
 have Ny102 := aZ_ hy102
 clear hy102
 have H' := aZ_ H
 clear H
 go_enter Try.func15,Try.ntmps15
 go_wp2_with (first | ((with_reducible refine gate_dst (N := 1) rfl ?_);refine box_event ?hg (N := 1) ?hd (cs := #[.int .i64 a0_0,.int .i64 a0_1]) (t := 25) ?hr ?_;(case hd => rfl);(case hg => rfl);(case hr => first | (go_simp;done) | (go_simp;rfl));intro gb101 hg w2 hbox hb;have n0_ := aZ_ (below_step T5_ hb);have n1_ := aZ_ (hbox);have n2_ := aZ_ ((T3_ : w.heap.size ≤ gb101));have n3_ := aZ_ ((T3_ : w.heap.size ≤ gb101));clear HB;have HB := n0_;have BK101 := n1_;have GW101 := n2_;have GE101 := n3_;clear n0_ n1_ n2_ n3_;clear hb hbox hg) | ((with_reducible refine gate_dst (N := 5) rfl ?_);refine Kd.R_lit (Kd.int .i64) _ 3 ?hg (N := 5) ?hd (xs := ([] : List Int)) (inner := []) (ok := fun _ => True) (okp := fun _ => True) ?hr ?hp (fun _ hk => hk) trivial (Below.refl _ _) (Nat.le_refl _) T40_ ?_;(case hd => rfl);(case hg => rfl);(case hr => first | (go_simp;done) | (go_simp;rfl));(case hp => exact (Reps.none _ _));intro v103 w3 ho4 hb hg_ hnew_;clear hg_ hnew_;(first | rw [← Ny102.out] at ho4 | (simp only [Int.reduceToNat] at ho4;rw [← Ny102.out] at ho4));have n0_ := aZ_ (Kd.R_lower ho4 (below_size T1_));have n1_ := aZ_ (blk_below (g := gb101) (o := .cells #[.int .i64 a0_0,.int .i64 a0_1] 25 (0,0)) T2_ hb);have n2_ := aZ_ (below_step T1_ hb);clear BK101;clear HB;have HO104 := n0_;have BK101 := n1_;have HB := n2_;clear n0_ n1_ n2_;clear hb ho4))
 go_loopg [3,4] k (fun kq v3 v4 w' => ∃ (x3_1 : List Int) (x4_1 : Int),v4 = .int .i64 x4_1 ∧ Aside0 (spec_DummyPlayers.l0 kq x3_1 x4_1 a0_0 a0_1 = some r) ∧ Aside0 (kq ≤ k) ∧ Aside0 (Kd.R (Kd.int .i64) 3 w' w.heap.size (fun _ => True) v3 x3_1) ∧ Aside0 (w'.heap[gb101]? = some (.cells #[.int .i64 a0_0,.int .i64 a0_1] 25 (0,0))) ∧ Aside0 (Below w.heap.size w w'))
 case atStart => exact ⟨(y102),(0),T6_,H',⟨Nat.le_refl _⟩,⟨by (with_reducible repeat (first | apply Kd.R_alloc | apply Kd.R_drewN | apply Kd.R_drew));exact HO104.out⟩,⟨by (with_reducible repeat (first | refine blk_drewN ?_ _ | refine blk_drew ?_ | refine blk_alloc ?_ _));exact BK101.out⟩,⟨by repeat (first | (with_reducible first | exact HB.out | apply below_alloc | apply pw_below_drewN | apply below_drew1 | refine below_set ?_ GE101.out) | exact HB.out)⟩⟩
 case round =>
  clear H'
  try clear c1
  try clear p2
  obtain ⟨x3_1,x4_1,rfl,HA,HK1,HO_3,BK101,HB⟩ := hrel
  cases gk with
  | zero => exact absurd HA.out (by simp [spec_DummyPlayers.l0])
  | succ k1 =>
   have H := HA.out
   clear HA
   simp only [spec_DummyPlayers.l0] at H
   have HC5 := aZ_ H
   clear H
   go_upto_region 3 with (fail)
   go_cut [13] (fun v13 wc => ∃ (kq : Nat) (x13_4 : Bool),v13 = .bool x13_4 ∧ Aside0 (spec_DummyPlayers.j1 kq x3_1 x4_1 x13_4 a0_0 a0_1 = some r) ∧ Aside0 (kq ≤ k1) ∧ Aside0 (Kd.R (Kd.int .i64) 3 wc w.heap.size (fun _ => True) u3 x3_1) ∧ Aside0 (wc.heap[gb101]? = some (.cells #[.int .i64 a0_0,.int .i64 a0_1] 25 (0,0))) ∧ Aside0 (Below w.heap.size w wc))
   case first =>
    have H := HC5.out
    clear HC5
    replace H := Option.bind_eq_some_iff.mp H
    obtain ⟨t105,A60,H⟩ := H
    replace H : (if t105 = true then (spec_DummyPlayers.j1 k1 x3_1 x4_1 (decide (x4_1 < a0_0)) a0_0 a0_1) else (spec_DummyPlayers.j1 k1 x3_1 x4_1 false a0_0 a0_1)) = some r := H
    have A6 := aZ_ A60
    clear A60
    by_cases c7 : t105 = true
    ·subst c7
     have H1 : (spec_DummyPlayers.j1 k1 x3_1 x4_1 (decide (x4_1 < a0_0)) a0_0 a0_1) = some r := by rw [if_pos rfl] at H;exact H
     clear H
     have H := H1
     clear H1
     have H' := aZ_ H
     clear H
     have hcz8_0 : wr.cell? ⟨gb101,0,none⟩ = some (.int .i64 a0_0) := (blk_cell BK101.out 0).trans rfl
     have hcz8_1 : wr.cell? ⟨gb101,1,none⟩ = some (.int .i64 a0_1) := (blk_cell BK101.out 1).trans rfl
     have hfz8_0 := blk_frozen BK101.out 0
     have hfz8_1 := blk_frozen BK101.out 1
     go_wp2_with (first | ((with_reducible refine gate_callee (f := 16) rfl ?_);refine goesL_ (some 7) rfl rfl Try.func16 T12_ rfl #[.agg #[.int .i64 a0_0,.int .i64 a0_1]] rfl T4_ ?_;(with_reducible refine (spec_IsSimpleGame.calls k1 a0_0 a0_1 true _ A6.out).mono ?_);rintro e w9 ⟨rfl,hb⟩;refine ⟨_,rfl,?_⟩;have n0_ := aZ_ (Kd.R_below T17_ hb);have n1_ := aZ_ (blk_below (g := gb101) (o := .cells #[.int .i64 a0_0,.int .i64 a0_1] 25 (0,0)) T2_ hb);have n2_ := aZ_ (below_step T1_ hb);clear HO_3;clear BK101;clear HB;have HO_3 := n0_;have BK101 := n1_;have HB := n2_;clear n0_ n1_ n2_;(try clear hb);(try clear hb2);(try clear hk);(try clear hi);have hcz10_0 : w9.cell? ⟨gb101,0,none⟩ = some (.int .i64 a0_0) := (blk_cell BK101.out 0).trans rfl;have hcz10_1 : w9.cell? ⟨gb101,1,none⟩ = some (.int .i64 a0_1) := (blk_cell BK101.out 1).trans rfl;have hfz10_0 := blk_frozen BK101.out 0;have hfz10_1 := blk_frozen BK101.out 1))
     go_meet
     case rel => exact ⟨_,(decide (x4_1 < a0_0)),T6_,H',⟨by have := HK1.out;first | omega | exact Nat.le_refl _⟩,⟨by (with_reducible repeat (first | apply Kd.R_alloc | apply Kd.R_drewN | apply Kd.R_drew));exact HO_3.out⟩,⟨by (with_reducible repeat (first | refine blk_drewN ?_ _ | refine blk_drew ?_ | refine blk_alloc ?_ _));exact BK101.out⟩,⟨by repeat (first | (with_reducible first | exact HB.out | apply below_alloc | apply pw_below_drewN | apply below_drew1 | refine below_set ?_ GE101.out) | exact HB.out)⟩⟩
    ·replace c7 := Bool.eq_false_iff.mpr c7
     subst c7
     have H1 : (spec_DummyPlayers.j1 k1 x3_1 x4_1 false a0_0 a0_1) = some r := by rw [if_neg (show ¬ (false = true) by decide)] at H;exact H
     clear H
     have H := H1
     clear H1
     have H' := aZ_ H
     clear H
     have hcz11_0 : wr.cell? ⟨gb101,0,none⟩ = some (.int .i64 a0_0) := (blk_cell BK101.out 0).trans rfl
     have hcz11_1 : wr.cell? ⟨gb101,1,none⟩ = some (.int .i64 a0_1) := (blk_cell BK101.out 1).trans rfl
     have hfz11_0 := blk_frozen BK101.out 0
     have hfz11_1 := blk_frozen BK101.out 1
     go_wp2_with (first | ((with_reducible refine gate_callee (f := 16) rfl ?_);refine goesL_ (some 7) rfl rfl Try.func16 T12_ rfl #[.agg #[.int .i64 a0_0,.int .i64 a0_1]] rfl T4_ ?_;(with_reducible refine (spec_IsSimpleGame.calls k1 a0_0 a0_1 false _ A6.out).mono ?_);rintro e w12 ⟨rfl,hb⟩;refine ⟨_,rfl,?_⟩;have n0_ := aZ_ (Kd.R_below T17_ hb);have n1_ := aZ_ (blk_below (g := gb101) (o := .cells #[.int .i64 a0_0,.int .i64 a0_1] 25 (0,0)) T2_ hb);have n2_ := aZ_ (below_step T1_ hb);clear HO_3;clear BK101;clear HB;have HO_3 := n0_;have BK101 := n1_;have HB := n2_;clear n0_ n1_ n2_;(try clear hb);(try clear hb2);(try clear hk);(try clear hi)))
     go_meet
     case rel => exact ⟨_,(false),T6_,H',⟨by have := HK1.out;first | omega | exact Nat.le_refl _⟩,⟨by (with_reducible repeat (first | apply Kd.R_alloc | apply Kd.R_drewN | apply Kd.R_drew));exact HO_3.out⟩,⟨by (with_reducible repeat (first | refine blk_drewN ?_ _ | refine blk_drew ?_ | refine blk_alloc ?_ _));exact BK101.out⟩,⟨by repeat (first | (with_reducible first | exact HB.out | apply below_alloc | apply pw_below_drewN | apply below_drew1 | refine below_set ?_ GE101.out) | exact HB.out)⟩⟩
   case rest =>
    clear HC5
    try clear c1
    try clear p2
    try clear c7
    try clear hcz10_0
    try clear hcz10_1
    try clear hcz11_0
    try clear hcz11_1
    try clear hcz8_0
    try clear hcz8_1
    try clear hfz10_0
    try clear hfz10_1
    try clear hfz11_0
    try clear hfz11_1
    try clear hfz8_0
    try clear hfz8_1
    try clear p2
    obtain ⟨kq,x13_4,rfl,HA,HJ4,HO_3,BK101,HB⟩ := hcut
    cases kq with
    | zero => exact absurd HA.out (by simp [spec_DummyPlayers.j1])
    | succ kj4 =>
     have H := HA.out
     clear HA
     simp only [spec_DummyPlayers.j1] at H
     by_cases c13 : x13_4 = true
     ·subst c13
      have H1 : ((spec_l3Depends.f kj4 a0_0 a0_1 x4_1).bind fun t106 => (if t106 = true then (spec_DummyPlayers.l0 kj4 x3_1 (wrap64 (x4_1 + 1)) a0_0 a0_1) else (if x3_1.length < 17592186044416 then (spec_DummyPlayers.l0 kj4 (x3_1 ++ [x4_1]) (wrap64 (x4_1 + 1)) a0_0 a0_1) else (none)))) = some r := by rw [if_pos rfl] at H;exact H
      clear H
      have H := H1
      clear H1
      replace H := Option.bind_eq_some_iff.mp H
      obtain ⟨t106,A140,H⟩ := H
      replace H : (if t106 = true then (spec_DummyPlayers.l0 kj4 x3_1 (wrap64 (x4_1 + 1)) a0_0 a0_1) else (if x3_1.length < 17592186044416 then (spec_DummyPlayers.l0 kj4 (x3_1 ++ [x4_1]) (wrap64 (x4_1 + 1)) a0_0 a0_1) else (none))) = some r := H
      have A14 := aZ_ A140
      clear A140
      by_cases c15 : t106 = true
      ·subst c15
       have H1 : (spec_DummyPlayers.l0 kj4 x3_1 (wrap64 (x4_1 + 1)) a0_0 a0_1) = some r := by rw [if_pos rfl] at H;exact H
       clear H
       have H := H1
       clear H1
       have H' := aZ_ H
       clear H
       have hcz16_0 : wc.cell? ⟨gb101,0,none⟩ = some (.int .i64 a0_0) := (blk_cell BK101.out 0).trans rfl
       have hcz16_1 : wc.cell? ⟨gb101,1,none⟩ = some (.int .i64 a0_1) := (blk_cell BK101.out 1).trans rfl
       have hfz16_0 := blk_frozen BK101.out 0
       have hfz16_1 := blk_frozen BK101.out 1
       go_wp2_with (first | ((with_reducible refine gate_callee (f := 41) rfl ?_);refine goesL_ (some 18) rfl rfl Try.func41 T12_ rfl #[.agg #[.int .i64 a0_0,.int .i64 a0_1],.int .i64 x4_1] rfl T4_ ?_;(with_reducible refine (spec_l3Depends.calls kj4 a0_0 a0_1 x4_1 true _ A14.out).mono ?_);rintro e w17 ⟨rfl,hb⟩;refine ⟨_,rfl,?_⟩;have n0_ := aZ_ (Kd.R_below T17_ hb);have n1_ := aZ_ (blk_below (g := gb101) (o := .cells #[.int .i64 a0_0,.int .i64 a0_1] 25 (0,0)) T2_ hb);have n2_ := aZ_ (below_step T1_ hb);clear HO_3;clear BK101;clear HB;have HO_3 := n0_;have BK101 := n1_;have HB := n2_;clear n0_ n1_ n2_;(try clear hb);(try clear hb2);(try clear hk);(try clear hi)))
       go_roundg kj4
       case measure => have := HK1.out;have := HJ4.out;omega
       case rel => exact ⟨(x3_1),(wrap64 (x4_1 + 1)),T6_,H',⟨by have := HK1.out;have := HJ4.out;omega⟩,⟨by (with_reducible repeat (first | apply Kd.R_alloc | apply Kd.R_drewN | apply Kd.R_drew));exact HO_3.out⟩,⟨by (with_reducible repeat (first | refine blk_drewN ?_ _ | refine blk_drew ?_ | refine blk_alloc ?_ _));exact BK101.out⟩,⟨by repeat (first | (with_reducible first | exact HB.out | apply below_alloc | apply pw_below_drewN | apply below_drew1 | refine below_set ?_ GE101.out) | exact HB.out)⟩⟩
      ·replace c15 := Bool.eq_false_iff.mpr c15
       subst c15
       have H1 : (if x3_1.length < 17592186044416 then (spec_DummyPlayers.l0 kj4 (x3_1 ++ [x4_1]) (wrap64 (x4_1 + 1)) a0_0 a0_1) else (none)) = some r := by rw [if_neg (show ¬ (false = true) by decide)] at H;exact H
       clear H
       have H := H1
       clear H1
       by_cases c18 : x3_1.length < 17592186044416
       ·rw [if_pos c18] at H
        have LMc18 := aZ_ c18
        clear c18
        obtain ⟨y107,hy107⟩ : ∃ y_ : List Int,y_ = (x3_1 ++ [x4_1]) := ⟨_,rfl⟩
        replace H : (spec_DummyPlayers.l0 kj4 y107 (wrap64 (x4_1 + 1)) a0_0 a0_1) = some r := by first | (rw [hy107];with_reducible exact H) | (have H2_ := (Option.bind_some _ _).symm.trans H;rw [hy107];with_reducible exact H2_) | (have H2_ := (Option.bind_some _ _).symm.trans H;with_reducible exact H2_) | with_reducible exact H | (rw [hy107];exact H) | exact H
        have Ny107 := aZ_ hy107
        clear hy107
        have H' := aZ_ H
        clear H
        have hcz19_0 : wc.cell? ⟨gb101,0,none⟩ = some (.int .i64 a0_0) := (blk_cell BK101.out 0).trans rfl
        have hcz19_1 : wc.cell? ⟨gb101,1,none⟩ = some (.int .i64 a0_1) := (blk_cell BK101.out 1).trans rfl
        have hfz19_0 := blk_frozen BK101.out 0
        have hfz19_1 := blk_frozen BK101.out 1
        go_wp2_with (first | ((with_reducible refine gate_callee (f := 41) rfl ?_);refine goesL_ (some 18) rfl rfl Try.func41 T12_ rfl #[.agg #[.int .i64 a0_0,.int .i64 a0_1],.int .i64 x4_1] rfl T4_ ?_;(with_reducible refine (spec_l3Depends.calls kj4 a0_0 a0_1 x4_1 false _ A14.out).mono ?_);rintro e w20 ⟨rfl,hb⟩;refine ⟨_,rfl,?_⟩;have n0_ := aZ_ (Kd.R_below T17_ hb);have n1_ := aZ_ (blk_below (g := gb101) (o := .cells #[.int .i64 a0_0,.int .i64 a0_1] 25 (0,0)) T2_ hb);have n2_ := aZ_ (below_step T1_ hb);clear HO_3;clear BK101;clear HB;have HO_3 := n0_;have BK101 := n1_;have HB := n2_;clear n0_ n1_ n2_;(try clear hb);(try clear hb2);(try clear hk);(try clear hi)) | ((with_reducible refine gate_builtin (b := .append) (xs := #[.tmp 20,.tmp 22]) rfl ?_);at_builtin;refine Kd.R_append (Kd.int .i64) (w0 := w) w.heap.size rfl (.tmp 20) (.tmp 22) 27 3 (.int .i64 0) 8 rfl Try.underlying27 info3 rfl T35_ T50_ u3 x3_1 x4_1 [.int .i64 x4_1] (fun _ => True) (fun _ => False) rfl rfl ?aP (fun _ hk => hk.elim) ?aF ?aO ?aB ?aS ?aL ?_;(case aP => exact rfl);(case aB => exact T1_);(case aF => exact (fun _ _ => trivial));(case aO => exact T17_);(case aS => exact (below_size T1_));(case aL => have := LMc18.out;omega);intro v108 w21 ho hb hg hat;rw [← Ny107.out] at ho;have n0_ := aZ_ (blk_grown (g := gb101) (o := .cells #[.int .i64 a0_0,.int .i64 a0_1] 25 (0,0)) T2_ hg (Kd.R_ne HO_3.out BK101.out T35_));have n1_ := aZ_ (hb);have n2_ := aZ_ (ho);clear BK101;clear HB;clear HO_3;have BK101 := n0_;have HB := n1_;have HO109 := n2_;clear n0_ n1_ n2_;clear ho hb hg hat))
        go_roundg kj4
        case measure => have := HK1.out;have := HJ4.out;omega
        case rel => exact ⟨(y107),(wrap64 (x4_1 + 1)),T6_,H',⟨by have := HK1.out;have := HJ4.out;omega⟩,⟨by (with_reducible repeat (first | apply Kd.R_alloc | apply Kd.R_drewN | apply Kd.R_drew));exact HO109.out⟩,⟨by (with_reducible repeat (first | refine blk_drewN ?_ _ | refine blk_drew ?_ | refine blk_alloc ?_ _));exact BK101.out⟩,⟨by repeat (first | (with_reducible first | exact HB.out | apply below_alloc | apply pw_below_drewN | apply below_drew1 | refine below_set ?_ GE101.out) | exact HB.out)⟩⟩
       ·rw [if_neg c18] at H
        exact absurd H T40_
     ·replace c13 := Bool.eq_false_iff.mpr c13
      subst c13
      have H1 : (some x3_1) = some r := by rw [if_neg (show ¬ (false = true) by decide)] at H;exact H
      clear H
      have H := H1
      clear H1
      obtain rfl := Option.some.inj H
      go_wp2
      go_ret
      exact ⟨_,by first | rfl | (simp [errW_none,errW_some] <;> rfl) | (simp [*,errW_none,errW_some] <;> rfl),by (with_reducible repeat (first | apply Kd.R_alloc | apply Kd.R_drewN | apply Kd.R_drew));exact HO_3.out,by repeat (first | (with_reducible first | exact HB.out | apply below_alloc | apply pw_below_drewN | apply below_drew1 | refine below_set ?_ GE101.out) | exact HB.out)⟩
def impl_IsProperGame.f (k : Nat) (a0_0 : Int) (a0_1 : Int) : Option (Bool) := (impl_IsSimpleGame.f k a0_0 a0_1).bind fun t102 => (if t102 = true then ((impl_Table_size.f a0_0 a0_1).bind fun t103 => ((impl_Table_shift.f a0_0 a0_1 (wrap64 (t103 - 1))).bind fun bt104 => (some ((Go.bits .and .i64 a0_1 bt104.2) == 0)))) else (some false))
def impl_IsProperGame.T3 : Bool × List (List Nat × List Nat) := (true,[([],[]),([0],[0]),([],[]),([],[]),([3],[3]),([4],[4]),([2,5,4],[2,5]),([6],[6]),([1,7],[1,7]),([8],[8]),([9,6,0,1,2,3,4,5,6,7,8,9],[9])])
def impl_IsProperGame.B3 : List Nat := [0,1,0,0,8,24,60,124,255,511,1023]
theorem impl_IsProperGame.tab3 : rtab .any (opsOf Try.f17 3) = impl_IsProperGame.T3 := by kernel_rfl
theorem impl_IsProperGame.bits3 : waitsOk impl_IsProperGame.T3.2 impl_IsProperGame.B3 = true := by kernel_rfl
set_option maxHeartbeats 8000000 in
set_option maxRecDepth 100000 in
theorem impl_IsProperGame.calls (k : Nat) (a0_0 : Int) (a0_1 : Int) (r : Bool) (w : World) (h : impl_IsProperGame.f k a0_0 a0_1 = some r) :
  Calls Try.prog 17 #[.agg #[.int .i64 a0_0,.int .i64 a0_1]] w fun e w' => e = .returned (.bool r) ∧ Below w.heap.size w w' := by
 have hu25 := Try.underlying25
 have hfd25_1 : ∀ (x0_ x1_ : Int) (W : World),(Instr.field 25 (.agg #[.int .i64 x0_,.int .i64 x1_]) 1).run Try.prog W = .ok (.int .i64 x1_) W := fun _ _ _ => by kernel_rfl
 have HB := aZ_ (Below.refl w.heap.size w)
 have H : ((impl_IsSimpleGame.f k a0_0 a0_1).bind fun t102 => (if t102 = true then ((impl_Table_size.f a0_0 a0_1).bind fun t103 => ((impl_Table_shift.f a0_0 a0_1 (wrap64 (t103 - 1))).bind fun bt104 => (some ((Go.bits .and .i64 a0_1 bt104.2) == 0)))) else (some false))) = some r := h
 clear h
 replace H := Option.bind_eq_some_iff.mp H
 obtain ⟨t102,A20,H⟩ := H
 replace H : (if t102 = true then ((impl_Table_size.f a0_0 a0_1).bind fun t103 => ((impl_Table_shift.f a0_0 a0_1 (wrap64 (t103 - 1))).bind fun bt104 => (some ((Go.bits .and .i64 a0_1 bt104.2) == 0)))) else (some false)) = some r := H
 have A2 := aZ_ A20
 clear A20
 by_cases c3 : t102 = true
 ·subst c3
  have H1 : ((impl_Table_size.f a0_0 a0_1).bind fun t103 => ((impl_Table_shift.f a0_0 a0_1 (wrap64 (t103 - 1))).bind fun bt104 => (some ((Go.bits .and .i64 a0_1 bt104.2) == 0)))) = some r := by rw [if_pos rfl] at H;exact H
  clear H
  have H := H1
  clear H1
  replace H := Option.bind_eq_some_iff.mp H
  obtain ⟨t103,A40,H⟩ := H
  replace H : ((impl_Table_shift.f a0_0 a0_1 (wrap64 (t103 - 1))).bind fun bt104 => (some ((Go.bits .and .i64 a0_1 bt104.2) == 0))) = some r := H
  have A4 := aZ_ A40
  clear A40
  replace H := Option.bind_eq_some_iff.mp H
  obtain ⟨⟨t104,t105⟩,A50,H⟩ := H
  replace H : (some ((Go.bits .and .i64 a0_1 t105) == 0)) = some r := H
  have A5 := aZ_ A50
  clear A50
  obtain rfl := Option.some.inj H
  go_enter Try.func17,Try.ntmps17
  try go_wp2_with (first | ((with_reducible refine gate_dst (N := 1) rfl ?_);refine box_event ?hg (N := 1) ?hd (cs := #[.int .i64 a0_0,.int .i64 a0_1]) (t := 25) ?hr ?_;(case hd => rfl);(case hg => rfl);(case hr => first | (go_simp;done) | (go_simp;rfl));intro gb101 hg w6 hbox hb;have n0_ := aZ_ (below_step T5_ hb);have n1_ := aZ_ (hbox);have n2_ := aZ_ ((T3_ : w.heap.size ≤ gb101));have n3_ := aZ_ ((T3_ : w.heap.size ≤ gb101));clear HB;have HB := n0_;have BK101 := n1_;have GW101 := n2_;have GE101 := n3_;clear n0_ n1_ n2_ n3_;clear hb hbox hg;have hcz7_0 : w6.cell? ⟨gb101,0,none⟩ = some (.int .i64 a0_0) := (blk_cell BK101.out 0).trans rfl;have hcz7_1 : w6.cell? ⟨gb101,1,none⟩ = some (.int .i64 a0_1) := (blk_cell BK101.out 1).trans rfl;have hfz7_0 := blk_frozen BK101.out 0;have hfz7_1 := blk_frozen BK101.out 1) | ((with_reducible refine gate_callee (f := 10) rfl ?_);refine goesL_ (some 4) rfl rfl Try.func10 T12_ rfl #[.agg #[.int .i64 a0_0,.int .i64 a0_1]] rfl T4_ ?_;(with_reducible refine (impl_IsSimpleGame.calls k a0_0 a0_1 true _ A2.out).mono ?_);rintro e w8 ⟨rfl,hb⟩;refine ⟨_,rfl,?_⟩;have n0_ := aZ_ (blk_below (g := gb101) (o := .cells #[.int .i64 a0_0,.int .i64 a0_1] 25 (0,0)) T2_ hb);have n1_ := aZ_ (below_step T1_ hb);clear BK101;clear HB;have BK101 := n0_;have HB := n1_;clear n0_ n1_;(try clear hb);(try clear hb2);(try clear hk);(try clear hi)))
  have n0_ := aZ_ (blk_drew BK101.out)
  have n1_ := aZ_ (below_drew1 HB.out)
  clear BK101
  clear HB
  have BK101 := n0_
  have HB := n1_
  clear n0_ n1_
  refine start_ (n := 11) (S := fun w' => w'.cell? ⟨gb101,0,none⟩ = some (.int .i64 a0_0) ∧ w'.cell? ⟨gb101,1,none⟩ = some (.int .i64 a0_1)) (ds := []) #[false,false,false,false,false,false,false,false,false,false,false] T12_ rfl rfl ⟨(blk_cell BK101.out 0).trans rfl,(blk_cell BK101.out 1).trans rfl⟩ (fun hHeld => ?_);refine with_tabW impl_IsProperGame.tab3 impl_IsProperGame.bits3 (fun HT_ HW_ => ?_)
  generalize w8.drew = w9 at BK101 HB hHeld ⊢
  refine pZ_ 0 (some 6) #[true,false,false,false,false,false,false,false,false,false,false] ?_
  refine tZ2_ 1 (some 7) #[true,true,false,false,false,false,false,false,false,false,false] hHeld ?_
  refine tZ2_ 2 (some 8) #[true,true,true,false,false,false,false,false,false,false,false] hHeld ?_
  refine tZ2_ 3 (some 9) #[true,true,true,true,false,false,false,false,false,false,false] hHeld ?_
  refine one_ (i := 4) (N := some 10) #[true,true,true,true,true,false,false,false,false,false,false] rfl rfl (one_of HT_.out T12_) T35_ (fun K hK => ?_)
  refine gZ_ Try.func37 #[.agg #[.int .i64 a0_0,.int .i64 a0_1]] ?_
  with_reducible refine (impl_Table_size.calls a0_0 a0_1 t103 _ A4.out).mono ?_
  rintro e w10 ⟨rfl,hb⟩
  refine ⟨_,rfl,?_⟩
  have n0_ := aZ_ (blk_below (g := gb101) (o := .cells #[.int .i64 a0_0,.int .i64 a0_1] 25 (0,0)) T2_ hb)
  have n1_ := aZ_ (below_step T1_ hb)
  clear BK101
  clear HB
  have BK101 := n0_
  have HB := n1_
  clear n0_ n1_
  (try clear hb)
  (try clear hb2)
  (try clear hk)
  (try clear hi)
  refine hK.out _ _ ⟨(blk_cell BK101.out 0).trans rfl,(blk_cell BK101.out 1).trans rfl⟩ (fun hHeld => ?_)
  clear hK K
  refine norm_ (a' := ?_) ?_ ?_
  rotate_left
  ·show Act.put _ (some 10) _ = _
   simp only [Act.put,List.setIfInBounds_toArray,List.set_cons_zero,List.set_cons_succ,i64_w,i32_w]
   rfl
  refine pZ_ 5 (some 11) #[true,true,true,true,true,true,false,false,false,false,false] ?_
  refine one_ (i := 6) (N := some 12) #[true,true,true,true,true,true,true,false,false,false,false] rfl rfl (one_of HT_.out T12_) T35_ (fun K hK => ?_)
  refine gZ_ Try.func44 #[.agg #[.int .i64 a0_0,.int .i64 a0_1],.int .i64 (wrap64 (t103 - 1))] ?_
  with_reducible refine (impl_Table_shift.calls a0_0 a0_1 (wrap64 (t103 - 1)) t104 t105 _ A5.out).mono ?_
  rintro e w11 ⟨rfl,hb⟩
  refine ⟨_,rfl,?_⟩
  have n0_ := aZ_ (blk_below (g := gb101) (o := .cells #[.int .i64 a0_0,.int .i64 a0_1] 25 (0,0)) T2_ hb)
  have n1_ := aZ_ (below_step T1_ hb)
  clear BK101
  clear HB
  have BK101 := n0_
  have HB := n1_
  clear n0_ n1_
  (try clear hb)
  (try clear hb2)
  (try clear hk)
  (try clear hi)
  refine hK.out _ _ ⟨(blk_cell BK101.out 0).trans rfl,(blk_cell BK101.out 1).trans rfl⟩ (fun hHeld => ?_)
  clear hK K
  refine norm_ (a' := ?_) ?_ ?_
  rotate_left
  ·show Act.put _ (some 12) _ = _
   simp only [Act.put,List.setIfInBounds_toArray,List.set_cons_zero,List.set_cons_succ,i64_w,i32_w]
   rfl
  refine pZ_ 7 (some 13) #[true,true,true,true,true,true,true,true,false,false,false] ?_
  refine pZ_ 8 (some 14) #[true,true,true,true,true,true,true,true,true,false,false] ?_
  refine pZ_ 9 (some 15) #[true,true,true,true,true,true,true,true,true,true,false] ?_
  refine pZ_ 10 (some 2) #[true,true,true,true,true,true,true,true,true,true,true] ?_
  refine done_ (done_of HT_.out T12_) ?_
  try go_wp2
  go_ret
  exact ⟨by first | rfl | (simp [errW_none,errW_some] <;> rfl) | (simp [*,errW_none,errW_some] <;> rfl),by repeat (first | (with_reducible first | exact HB.out | apply below_alloc | apply pw_below_drewN | apply below_drew1 | refine below_set ?_ GE101.out) | exact HB.out)⟩
 ·replace c3 := Bool.eq_false_iff.mpr c3
  subst c3
  have H1 : (some false) = some r := by rw [if_neg (show ¬ (false = true) by decide)] at H;exact H
  clear H
  have H := H1
  clear H1
  obtain rfl := Option.some.inj H
  go_enter Try.func17,Try.ntmps17
  go_wp2_with (first | ((with_reducible refine gate_dst (N := 1) rfl ?_);refine box_event ?hg (N := 1) ?hd (cs := #[.int .i64 a0_0,.int .i64 a0_1]) (t := 25) ?hr ?_;(case hd => rfl);(case hg => rfl);(case hr => first | (go_simp;done) | (go_simp;rfl));intro gb101 hg w12 hbox hb;have n0_ := aZ_ (below_step T5_ hb);have n1_ := aZ_ (hbox);have n2_ := aZ_ ((T3_ : w.heap.size ≤ gb101));have n3_ := aZ_ ((T3_ : w.heap.size ≤ gb101));clear HB;have HB := n0_;have BK101 := n1_;have GW101 := n2_;have GE101 := n3_;clear n0_ n1_ n2_ n3_;clear hb hbox hg;have hcz13_0 : w12.cell? ⟨gb101,0,none⟩ = some (.int .i64 a0_0) := (blk_cell BK101.out 0).trans rfl;have hcz13_1 : w12.cell? ⟨gb101,1,none⟩ = some (.int .i64 a0_1) := (blk_cell BK101.out 1).trans rfl;have hfz13_0 := blk_frozen BK101.out 0;have hfz13_1 := blk_frozen BK101.out 1) | ((with_reducible refine gate_callee (f := 10) rfl ?_);refine goesL_ (some 4) rfl rfl Try.func10 T12_ rfl #[.agg #[.int .i64 a0_0,.int .i64 a0_1]] rfl T4_ ?_;(with_reducible refine (impl_IsSimpleGame.calls k a0_0 a0_1 false _ A2.out).mono ?_);rintro e w14 ⟨rfl,hb⟩;refine ⟨_,rfl,?_⟩;have n0_ := aZ_ (blk_below (g := gb101) (o := .cells #[.int .i64 a0_0,.int .i64 a0_1] 25 (0,0)) T2_ hb);have n1_ := aZ_ (below_step T1_ hb);clear BK101;clear HB;have BK101 := n0_;have HB := n1_;clear n0_ n1_;(try clear hb);(try clear hb2);(try clear hk);(try clear hi)))
  go_ret
  exact ⟨by first | rfl | (simp [errW_none,errW_some] <;> rfl) | (simp [*,errW_none,errW_some] <;> rfl),by repeat (first | (with_reducible first | exact HB.out | apply below_alloc | apply pw_below_drewN | apply below_drew1 | refine below_set ?_ GE101.out) | exact HB.out)⟩
mutual
def spec_IsProperGame.l0 : Nat → Int → Int → Int → Option (Bool)
 | 0,_,_,_ => none
 | k + 1,x3,x102000,x102001 => (spec_IsSimpleGame.f k x102000 x102001).bind fun t102 => (if t102 = true then (if 0 ≤ x102000 then (spec_IsProperGame.j1 k x3 (decide (x3 < (shl .i64 1 x102000))) x102000 x102001) else (none)) else (spec_IsProperGame.j1 k x3 false x102000 x102001))
def spec_IsProperGame.j1 : Nat → Int → Bool → Int → Int → Option (Bool)
 | 0,_,_,_,_ => none
 | k + 1,x3,x12,x102000,x102001 => if x12 = true then (if 0 ≤ x3 then (if (Go.bits .and .i64 (shr .i64 x102001 x3) 1) = 1 then (if 0 ≤ x102000 then (if 0 ≤ (wrap64 ((wrap64 ((shl .i64 1 x102000) - 1)) - x3)) then (if (Go.bits .and .i64 (shr .i64 x102001 (wrap64 ((wrap64 ((shl .i64 1 x102000) - 1)) - x3))) 1) = 1 then (some false) else (spec_IsProperGame.l0 k (wrap64 (x3 + 1)) x102000 x102001)) else (none)) else (none)) else (spec_IsProperGame.l0 k (wrap64 (x3 + 1)) x102000 x102001)) else (none)) else ((spec_IsSimpleGame.f k x102000 x102001).bind fun t103 => (some t103))
end
def spec_IsProperGame.f (k : Nat) (a0_0 : Int) (a0_1 : Int) : Option (Bool) := spec_IsProperGame.l0 k 0 a0_0 a0_1
set_option maxHeartbeats 8000000 in
set_option maxRecDepth 100000 in
theorem spec_IsProperGame.calls (k : Nat) (a0_0 : Int) (a0_1 : Int) (r : Bool) (w : World) (h : spec_IsProperGame.f k a0_0 a0_1 = some r) :
  Calls Try.prog 18 #[.agg #[.int .i64 a0_0,.int .i64 a0_1]] w fun e w' => e = .returned (.bool r) ∧ Below w.heap.size w w' := by
 have hu25 := Try.underlying25
 have HB := aZ_ (Below.refl w.heap.size w)
 have H : (spec_IsProperGame.l0 k 0 a0_0 a0_1) = some r := h
 clear h
 have H' := aZ_ H
 clear H
 go_enter Try.func18,Try.ntmps18
 go_wp2_with (first | ((with_reducible refine gate_dst (N := 1) rfl ?_);refine box_event ?hg (N := 1) ?hd (cs := #[.int .i64 a0_0,.int .i64 a0_1]) (t := 25) ?hr ?_;(case hd => rfl);(case hg => rfl);(case hr => first | (go_simp;done) | (go_simp;rfl));intro gb101 hg w2 hbox hb;have n0_ := aZ_ (below_step T5_ hb);have n1_ := aZ_ (hbox);have n2_ := aZ_ ((T3_ : w.heap.size ≤ gb101));have n3_ := aZ_ ((T3_ : w.heap.size ≤ gb101));clear HB;have HB := n0_;have BK101 := n1_;have GW101 := n2_;have GE101 := n3_;clear n0_ n1_ n2_ n3_;clear hb hbox hg))
 repeat (go_quiet (first | ((with_reducible refine gate_dst (N := 1) rfl ?_);refine box_event ?hg (N := 1) ?hd (cs := #[.int .i64 a0_0,.int .i64 a0_1]) (t := 25) ?hr ?_;(case hd => rfl);(case hg => rfl);(case hr => first | (go_simp;done) | (go_simp;rfl));intro gb101 hg w2 hbox hb;have n0_ := aZ_ (below_step T5_ hb);have n1_ := aZ_ (hbox);have n2_ := aZ_ ((T3_ : w.heap.size ≤ gb101));have n3_ := aZ_ ((T3_ : w.heap.size ≤ gb101));clear HB;have HB := n0_;have BK101 := n1_;have GW101 := n2_;have GE101 := n3_;clear n0_ n1_ n2_ n3_;clear hb hbox hg));try go_wp2_with (first | ((with_reducible refine gate_dst (N := 1) rfl ?_);refine box_event ?hg (N := 1) ?hd (cs := #[.int .i64 a0_0,.int .i64 a0_1]) (t := 25) ?hr ?_;(case hd => rfl);(case hg => rfl);(case hr => first | (go_simp;done) | (go_simp;rfl));intro gb101 hg w2 hbox hb;have n0_ := aZ_ (below_step T5_ hb);have n1_ := aZ_ (hbox);have n2_ := aZ_ ((T3_ : w.heap.size ≤ gb101));have n3_ := aZ_ ((T3_ : w.heap.size ≤ gb101));clear HB;have HB := n0_;have BK101 := n1_;have GW101 := n2_;have GE101 := n3_;clear n0_ n1_ n2_ n3_;clear hb hbox hg)))
 go_loopg [3] k (fun kq v3 w' => ∃ (x3_1 : Int),v3 = .int .i64 x3_1 ∧ Aside0 (spec_IsProperGame.l0 kq x3_1 a0_0 a0_1 = some r) ∧ Aside0 (kq ≤ k) ∧ Aside0 (w'.heap[gb101]? = some (.cells #[.int .i64 a0_0,.int .i64 a0_1] 25 (0,0))) ∧ Aside0 (Below w.heap.size w w'))
 case atStart => exact ⟨(0),T6_,H',⟨Nat.le_refl _⟩,⟨by (with_reducible repeat (first | refine blk_drewN ?_ _ | refine blk_drew ?_ | refine blk_alloc ?_ _));exact BK101.out⟩,⟨by repeat (first | (with_reducible first | exact HB.out | apply below_alloc | apply pw_below_drewN | apply below_drew1 | refine below_set ?_ GE101.out) | exact HB.out)⟩⟩
 case round =>
  clear H'
  try clear c1
  try clear p2
  obtain ⟨x3_1,rfl,HA,HK1,BK101,HB⟩ := hrel
  cases gk with
  | zero => exact absurd HA.out (by simp [spec_IsProperGame.l0])
  | succ k1 =>
   have H := HA.out
   clear HA
   simp only [spec_IsProperGame.l0] at H
   have HC3 := aZ_ H
   clear H
   go_upto_region 2 with (fail)
   repeat (go_quiet (fail);go_upto_region 2 with (fail))
   go_cut [12] (fun v12 wc => ∃ (kq : Nat) (x12_2 : Bool),v12 = .bool x12_2 ∧ Aside0 (spec_IsProperGame.j1 kq x3_1 x12_2 a0_0 a0_1 = some r) ∧ Aside0 (kq ≤ k1) ∧ Aside0 (wc.heap[gb101]? = some (.cells #[.int .i64 a0_0,.int .i64 a0_1] 25 (0,0))) ∧ Aside0 (Below w.heap.size w wc))
   case first =>
    have H := HC3.out
    clear HC3
    replace H := Option.bind_eq_some_iff.mp H
    obtain ⟨t102,A40,H⟩ := H
    replace H : (if t102 = true then (if 0 ≤ a0_0 then (spec_IsProperGame.j1 k1 x3_1 (decide (x3_1 < (shl .i64 1 a0_0))) a0_0 a0_1) else (none)) else (spec_IsProperGame.j1 k1 x3_1 false a0_0 a0_1)) = some r := H
    have A4 := aZ_ A40
    clear A40
    by_cases c5 : t102 = true
    ·subst c5
     have H1 : (if 0 ≤ a0_0 then (spec_IsProperGame.j1 k1 x3_1 (decide (x3_1 < (shl .i64 1 a0_0))) a0_0 a0_1) else (none)) = some r := by rw [if_pos rfl] at H;exact H
     clear H
     have H := H1
     clear H1
     by_cases c6 : 0 ≤ a0_0
     ·rw [if_pos c6] at H
      have c6b0 := eq_true c6
      have c6b1 : decide (0 ≤ a0_0) = true := decide_eq_true c6
      clear c6
      obtain ⟨ji7,hji7⟩ : ∃ j_ : Int,(shl .i64 1 a0_0) = j_ := ⟨_,rfl⟩
      replace H : (spec_IsProperGame.j1 k1 x3_1 (decide (x3_1 < (ji7))) a0_0 a0_1) = some r := by first | (rw [hji7] at H;exact H) | (simp only [hji7] at H ⊢;exact H)
      (try rw [hji7] at A4)
      have hji7_ : (IntKind.i64.wrap (1 * 2 ^ min a0_0.toNat 64)) = ji7 := hji7
      have hji7z : a0_0 ≤ 64 → (IntKind.i64.wrap (1 * 2 ^ a0_0.toNat)) = ji7 := shl_small hji7
      have hji7u : (IntKind.i64.wrap (2 ^ min a0_0.toNat 64)) = ji7 := by have h_ := hji7_;rw [Int.one_mul] at h_;exact h_
      have hji7v : a0_0 ≤ 64 → (IntKind.i64.wrap (2 ^ a0_0.toNat)) = ji7 := fun hle_ => by have h_ := hji7z hle_;rw [Int.one_mul] at h_;exact h_
      have hji7y : (wrap64 (1 * 2 ^ min a0_0.toNat 64)) = ji7 := (i64_w _).symm.trans hji7_
      have hji7x : a0_0 ≤ 64 → (wrap64 (1 * 2 ^ a0_0.toNat)) = ji7 := fun h_ => (i64_w _).symm.trans (hji7z h_)
      have H' := aZ_ H
      clear H
      have hcz8_0 : wr.cell? ⟨gb101,0,none⟩ = some (.int .i64 a0_0) := (blk_cell BK101.out 0).trans rfl
      have hcz8_1 : wr.cell? ⟨gb101,1,none⟩ = some (.int .i64 a0_1) := (blk_cell BK101.out 1).trans rfl
      have hfz8_0 := blk_frozen BK101.out 0
      have hfz8_1 := blk_frozen BK101.out 1
      go_wp2_with (first | (go_at_call 16;(with_reducible refine (spec_IsSimpleGame.calls k1 a0_0 a0_1 true _ A4.out).mono ?_);rintro e w9 ⟨rfl,hb⟩;have n0_ := aZ_ (blk_below (g := gb101) (o := .cells #[.int .i64 a0_0,.int .i64 a0_1] 25 (0,0)) T2_ hb);have n1_ := aZ_ (below_step T1_ hb);clear BK101;clear HB;have BK101 := n0_;have HB := n1_;clear n0_ n1_;(try clear hb);(try clear hb2);(try clear hk);(try clear hi);have hcz10_0 : w9.cell? ⟨gb101,0,none⟩ = some (.int .i64 a0_0) := (blk_cell BK101.out 0).trans rfl;have hcz10_1 : w9.cell? ⟨gb101,1,none⟩ = some (.int .i64 a0_1) := (blk_cell BK101.out 1).trans rfl;have hfz10_0 := blk_frozen BK101.out 0;have hfz10_1 := blk_frozen BK101.out 1))
      repeat (go_quiet (first | (go_at_call 16;(with_reducible refine (spec_IsSimpleGame.calls k1 a0_0 a0_1 true _ A4.out).mono ?_);rintro e w9 ⟨rfl,hb⟩;have n0_ := aZ_ (blk_below (g := gb101) (o := .cells #[.int .i64 a0_0,.int .i64 a0_1] 25 (0,0)) T2_ hb);have n1_ := aZ_ (below_step T1_ hb);clear BK101;clear HB;have BK101 := n0_;have HB := n1_;clear n0_ n1_;(try clear hb);(try clear hb2);(try clear hk);(try clear hi);have hcz10_0 : w9.cell? ⟨gb101,0,none⟩ = some (.int .i64 a0_0) := (blk_cell BK101.out 0).trans rfl;have hcz10_1 : w9.cell? ⟨gb101,1,none⟩ = some (.int .i64 a0_1) := (blk_cell BK101.out 1).trans rfl;have hfz10_0 := blk_frozen BK101.out 0;have hfz10_1 := blk_frozen BK101.out 1));try go_wp2_with (first | (go_at_call 16;(with_reducible refine (spec_IsSimpleGame.calls k1 a0_0 a0_1 true _ A4.out).mono ?_);rintro e w9 ⟨rfl,hb⟩;have n0_ := aZ_ (blk_below (g := gb101) (o := .cells #[.int .i64 a0_0,.int .i64 a0_1] 25 (0,0)) T2_ hb);have n1_ := aZ_ (below_step T1_ hb);clear BK101;clear HB;have BK101 := n0_;have HB := n1_;clear n0_ n1_;(try clear hb);(try clear hb2);(try clear hk);(try clear hi);have hcz10_0 : w9.cell? ⟨gb101,0,none⟩ = some (.int .i64 a0_0) := (blk_cell BK101.out 0).trans rfl;have hcz10_1 : w9.cell? ⟨gb101,1,none⟩ = some (.int .i64 a0_1) := (blk_cell BK101.out 1).trans rfl;have hfz10_0 := blk_frozen BK101.out 0;have hfz10_1 := blk_frozen BK101.out 1)))
      go_meet
      case rel => exact ⟨_,(decide (x3_1 < (ji7))),(by first | rfl | (simp;done) | (simp only [← hji7] <;> (first | rfl | simp)) | (simp [*];done)),H',⟨by have := HK1.out;first | omega | exact Nat.le_refl _⟩,⟨by (with_reducible repeat (first | refine blk_drewN ?_ _ | refine blk_drew ?_ | refine blk_alloc ?_ _));exact BK101.out⟩,⟨by repeat (first | (with_reducible first | exact HB.out | apply below_alloc | apply pw_below_drewN | apply below_drew1 | refine below_set ?_ GE101.out) | exact HB.out)⟩⟩
     ·rw [if_neg c6] at H
      exact absurd H T40_
    ·replace c5 := Bool.eq_false_iff.mpr c5
     subst c5
     have H1 : (spec_IsProperGame.j1 k1 x3_1 false a0_0 a0_1) = some r := by rw [if_neg (show ¬ (false = true) by decide)] at H;exact H
     clear H
     have H := H1
     clear H1
     have H' := aZ_ H
     clear H
     have hcz11_0 : wr.cell? ⟨gb101,0,none⟩ = some (.int .i64 a0_0) := (blk_cell BK101.out 0).trans rfl
     have hcz11_1 : wr.cell? ⟨gb101,1,none⟩ = some (.int .i64 a0_1) := (blk_cell BK101.out 1).trans rfl
     have hfz11_0 := blk_frozen BK101.out 0
     have hfz11_1 := blk_frozen BK101.out 1
     go_wp2_with (first | (go_at_call 16;(with_reducible refine (spec_IsSimpleGame.calls k1 a0_0 a0_1 false _ A4.out).mono ?_);rintro e w12 ⟨rfl,hb⟩;have n0_ := aZ_ (blk_below (g := gb101) (o := .cells #[.int .i64 a0_0,.int .i64 a0_1] 25 (0,0)) T2_ hb);have n1_ := aZ_ (below_step T1_ hb);clear BK101;clear HB;have BK101 := n0_;have HB := n1_;clear n0_ n1_;(try clear hb);(try clear hb2);(try clear hk);(try clear hi)))
     repeat (go_quiet (first | (go_at_call 16;(with_reducible refine (spec_IsSimpleGame.calls k1 a0_0 a0_1 false _ A4.out).mono ?_);rintro e w12 ⟨rfl,hb⟩;have n0_ := aZ_ (blk_below (g := gb101) (o := .cells #[.int .i64 a0_0,.int .i64 a0_1] 25 (0,0)) T2_ hb);have n1_ := aZ_ (below_step T1_ hb);clear BK101;clear HB;have BK101 := n0_;have HB := n1_;clear n0_ n1_;(try clear hb);(try clear hb2);(try clear hk);(try clear hi)));try go_wp2_with (first | (go_at_call 16;(with_reducible refine (spec_IsSimpleGame.calls k1 a0_0 a0_1 false _ A4.out).mono ?_);rintro e w12 ⟨rfl,hb⟩;have n0_ := aZ_ (blk_below (g := gb101) (o := .cells #[.int .i64 a0_0,.int .i64 a0_1] 25 (0,0)) T2_ hb);have n1_ := aZ_ (below_step T1_ hb);clear BK101;clear HB;have BK101 := n0_;have HB := n1_;clear n0_ n1_;(try clear hb);(try clear hb2);(try clear hk);(try clear hi))))
     go_meet
     case rel => exact ⟨_,(false),T6_,H',⟨by have := HK1.out;first | omega | exact Nat.le_refl _⟩,⟨by (with_reducible repeat (first | refine blk_drewN ?_ _ | refine blk_drew ?_ | refine blk_alloc ?_ _));exact BK101.out⟩,⟨by repeat (first | (with_reducible first | exact HB.out | apply below_alloc | apply pw_below_drewN | apply below_drew1 | refine below_set ?_ GE101.out) | exact HB.out)⟩⟩
   case rest =>
    clear HC3
    try clear c1
    try clear p2
    try clear c5
    try clear c6
    try clear c6b0
    try clear c6b1
    try clear p6
    try clear hcz10_0
    try clear hcz10_1
    try clear hcz11_0
    try clear hcz11_1
    try clear hcz8_0
    try clear hcz8_1
    try clear hfz10_0
    try clear hfz10_1
    try clear hfz11_0
    try clear hfz11_1
    try clear hfz8_0
    try clear hfz8_1
    try clear p2
    obtain ⟨kq,x12_2,rfl,HA,HJ2,BK101,HB⟩ := hcut
    cases kq with
    | zero => exact absurd HA.out (by simp [spec_IsProperGame.j1])
    | succ kj2 =>
     have H := HA.out
     clear HA
     simp only [spec_IsProperGame.j1] at H
     by_cases c13 : x12_2 = true
     ·subst c13
      have H1 : (if 0 ≤ x3_1 then (if (Go.bits .and .i64 (shr .i64 a0_1 x3_1) 1) = 1 then (if 0 ≤ a0_0 then (if 0 ≤ (wrap64 ((wrap64 ((shl .i64 1 a0_0) - 1)) - x3_1)) then (if (Go.bits .and .i64 (shr .i64 a0_1 (wrap64 ((wrap64 ((shl .i64 1 a0_0) - 1)) - x3_1))) 1) = 1 then (some false) else (spec_IsProperGame.l0 kj2 (wrap64 (x3_1 + 1)) a0_0 a0_1)) else (none)) else (none)) else (spec_IsProperGame.l0 kj2 (wrap64 (x3_1 + 1)) a0_0 a0_1)) else (none)) = some r := by rw [if_pos rfl] at H;exact H
      clear H
      have H := H1
      clear H1
      by_cases c14 : 0 ≤ x3_1
      ·rw [if_pos c14] at H
       have c14b0 := eq_true c14
       have c14b1 : decide (0 ≤ x3_1) = true := decide_eq_true c14
       clear c14
       obtain ⟨ji15,hji15⟩ : ∃ j_ : Int,(shr .i64 a0_1 x3_1) = j_ := ⟨_,rfl⟩
       replace H : (if (Go.bits .and .i64 (ji15) 1) = 1 then (if 0 ≤ a0_0 then (if 0 ≤ (wrap64 ((wrap64 ((shl .i64 1 a0_0) - 1)) - x3_1)) then (if (Go.bits .and .i64 (shr .i64 a0_1 (wrap64 ((wrap64 ((shl .i64 1 a0_0) - 1)) - x3_1))) 1) = 1 then (some false) else (spec_IsProperGame.l0 kj2 (wrap64 (x3_1 + 1)) a0_0 a0_1)) else (none)) else (none)) else (spec_IsProperGame.l0 kj2 (wrap64 (x3_1 + 1)) a0_0 a0_1)) = some r := by first | (rw [hji15] at H;exact H) | (simp only [hji15] at H ⊢;exact H)
       have hji15_ : (a0_1 / 2 ^ min x3_1.toNat 64) = ji15 := hji15
       have hji15z : x3_1 ≤ 64 → (a0_1 / 2 ^ x3_1.toNat) = ji15 := shr_small hji15
       by_cases c16 : (Go.bits .and .i64 (ji15) 1) = 1
       ·rw [if_pos c16] at H
        have c16b0 : ((Go.bits .and .i64 (ji15) 1) == 1) = true := beq_iff_eq.mpr c16
        have c16b1 : ((Go.bits .and .i64 (ji15) 1) != 1) = false := bne_eq_false_iff_eq.mpr c16
        clear c16
        by_cases c17 : 0 ≤ a0_0
        ·rw [if_pos c17] at H
         have c17b0 := eq_true c17
         have c17b1 : decide (0 ≤ a0_0) = true := decide_eq_true c17
         clear c17
         obtain ⟨ji18,hji18⟩ : ∃ j_ : Int,(shl .i64 1 a0_0) = j_ := ⟨_,rfl⟩
         replace H : (if 0 ≤ (wrap64 ((wrap64 ((ji18) - 1)) - x3_1)) then (if (Go.bits .and .i64 (shr .i64 a0_1 (wrap64 ((wrap64 ((ji18) - 1)) - x3_1))) 1) = 1 then (some false) else (spec_IsProperGame.l0 kj2 (wrap64 (x3_1 + 1)) a0_0 a0_1)) else (none)) = some r := by first | (rw [hji18] at H;exact H) | (simp only [hji18] at H ⊢;exact H)
         have hji18_ : (IntKind.i64.wrap (1 * 2 ^ min a0_0.toNat 64)) = ji18 := hji18
         have hji18z : a0_0 ≤ 64 → (IntKind.i64.wrap (1 * 2 ^ a0_0.toNat)) = ji18 := shl_small hji18
         have hji18u : (IntKind.i64.wrap (2 ^ min a0_0.toNat 64)) = ji18 := by have h_ := hji18_;rw [Int.one_mul] at h_;exact h_
         have hji18v : a0_0 ≤ 64 → (IntKind.i64.wrap (2 ^ a0_0.toNat)) = ji18 := fun hle_ => by have h_ := hji18z hle_;rw [Int.one_mul] at h_;exact h_
         have hji18y : (wrap64 (1 * 2 ^ min a0_0.toNat 64)) = ji18 := (i64_w _).symm.trans hji18_
         have hji18x : a0_0 ≤ 64 → (wrap64 (1 * 2 ^ a0_0.toNat)) = ji18 := fun h_ => (i64_w _).symm.trans (hji18z h_)
         obtain ⟨ji19,hji19⟩ : ∃ j_ : Int,(wrap64 ((wrap64 ((ji18) - 1)) - x3_1)) = j_ := ⟨_,rfl⟩
         replace H : (if 0 ≤ (ji19) then (if (Go.bits .and .i64 (shr .i64 a0_1 (ji19)) 1) = 1 then (some false) else (spec_IsProperGame.l0 kj2 (wrap64 (x3_1 + 1)) a0_0 a0_1)) else (none)) = some r := by first | (rw [hji19] at H;exact H) | (simp only [hji19] at H ⊢;exact H)
         have hji19w : (IntKind.i64.wrap ((wrap64 ((ji18) - 1)) - x3_1)) = ji19 := (i64_w _).trans hji19
         by_cases c20 : 0 ≤ (ji19)
         ·rw [if_pos c20] at H
          have c20b0 := eq_true c20
          have c20b1 : decide (0 ≤ (ji19)) = true := decide_eq_true c20
          clear c20
          obtain ⟨ji21,hji21⟩ : ∃ j_ : Int,(shr .i64 a0_1 (ji19)) = j_ := ⟨_,rfl⟩
          replace H : (if (Go.bits .and .i64 (ji21) 1) = 1 then (some false) else (spec_IsProperGame.l0 kj2 (wrap64 (x3_1 + 1)) a0_0 a0_1)) = some r := by first | (rw [hji21] at H;exact H) | (simp only [hji21] at H ⊢;exact H)
          have hji21_ : (a0_1 / 2 ^ min (ji19).toNat 64) = ji21 := hji21
          have hji21z : (ji19) ≤ 64 → (a0_1 / 2 ^ (ji19).toNat) = ji21 := shr_small hji21
          by_cases c22 : (Go.bits .and .i64 (ji21) 1) = 1
          ·rw [if_pos c22] at H
           have c22b0 : ((Go.bits .and .i64 (ji21) 1) == 1) = true := beq_iff_eq.mpr c22
           have c22b1 : ((Go.bits .and .i64 (ji21) 1) != 1) = false := bne_eq_false_iff_eq.mpr c22
           clear c22
           obtain rfl := Option.some.inj H
           have hcz23_0 : wc.cell? ⟨gb101,0,none⟩ = some (.int .i64 a0_0) := (blk_cell BK101.out 0).trans rfl
           have hcz23_1 : wc.cell? ⟨gb101,1,none⟩ = some (.int .i64 a0_1) := (blk_cell BK101.out 1).trans rfl
           have hfz23_0 := blk_frozen BK101.out 0
           have hfz23_1 := blk_frozen BK101.out 1
           go_wp2
           repeat (go_quiet (fail);try go_wp2)
           go_ret
           exact ⟨by first | rfl | (simp [errW_none,errW_some] <;> rfl) | (simp only [← hji15,← hji18,← hji19,← hji21];first | rfl | (simp [errW_none,errW_some] <;> rfl)) | (simp [*,errW_none,errW_some] <;> rfl),by repeat (first | (with_reducible first | exact HB.out | apply below_alloc | apply pw_below_drewN | apply below_drew1 | refine below_set ?_ GE101.out) | exact HB.out)⟩
          ·rw [if_neg c22] at H
           have c22b0 : ((Go.bits .and .i64 (ji21) 1) == 1) = false := beq_eq_false_iff_ne.mpr c22
           have c22b1 : ((Go.bits .and .i64 (ji21) 1) != 1) = true := bne_iff_ne.mpr c22
           have H' := aZ_ H
           clear H
           have hcz24_0 : wc.cell? ⟨gb101,0,none⟩ = some (.int .i64 a0_0) := (blk_cell BK101.out 0).trans rfl
           have hcz24_1 : wc.cell? ⟨gb101,1,none⟩ = some (.int .i64 a0_1) := (blk_cell BK101.out 1).trans rfl
           have hfz24_0 := blk_frozen BK101.out 0
           have hfz24_1 := blk_frozen BK101.out 1
           go_wp2
           repeat (go_quiet (fail);try go_wp2)
           go_roundg kj2
           case measure => have := HK1.out;have := HJ2.out;omega
           case rel => exact ⟨(wrap64 (x3_1 + 1)),T6_,H',⟨by have := HK1.out;have := HJ2.out;omega⟩,⟨by (with_reducible repeat (first | refine blk_drewN ?_ _ | refine blk_drew ?_ | refine blk_alloc ?_ _));exact BK101.out⟩,⟨by repeat (first | (with_reducible first | exact HB.out | apply below_alloc | apply pw_below_drewN | apply below_drew1 | refine below_set ?_ GE101.out) | exact HB.out)⟩⟩
         ·rw [if_neg c20] at H
          exact absurd H T40_
        ·rw [if_neg c17] at H
         exact absurd H T40_
       ·rw [if_neg c16] at H
        have c16b0 : ((Go.bits .and .i64 (ji15) 1) == 1) = false := beq_eq_false_iff_ne.mpr c16
        have c16b1 : ((Go.bits .and .i64 (ji15) 1) != 1) = true := bne_iff_ne.mpr c16
        have H' := aZ_ H
        clear H
        have hcz25_0 : wc.cell? ⟨gb101,0,none⟩ = some (.int .i64 a0_0) := (blk_cell BK101.out 0).trans rfl
        have hcz25_1 : wc.cell? ⟨gb101,1,none⟩ = some (.int .i64 a0_1) := (blk_cell BK101.out 1).trans rfl
        have hfz25_0 := blk_frozen BK101.out 0
        have hfz25_1 := blk_frozen BK101.out 1
        go_wp2
        repeat (go_quiet (fail);try go_wp2)
        go_roundg kj2
        case measure => have := HK1.out;have := HJ2.out;omega
        case rel => exact ⟨(wrap64 (x3_1 + 1)),T6_,H',⟨by have := HK1.out;have := HJ2.out;omega⟩,⟨by (with_reducible repeat (first | refine blk_drewN ?_ _ | refine blk_drew ?_ | refine blk_alloc ?_ _));exact BK101.out⟩,⟨by repeat (first | (with_reducible first | exact HB.out | apply below_alloc | apply pw_below_drewN | apply below_drew1 | refine below_set ?_ GE101.out) | exact HB.out)⟩⟩
      ·rw [if_neg c14] at H
       exact absurd H T40_
     ·replace c13 := Bool.eq_false_iff.mpr c13
      subst c13
      have H1 : ((spec_IsSimpleGame.f kj2 a0_0 a0_1).bind fun t103 => (some t103)) = some r := by rw [if_neg (show ¬ (false = true) by decide)] at H;exact H
      clear H
      have H := H1
      clear H1
      replace H := Option.bind_eq_some_iff.mp H
      obtain ⟨t103,A260,H⟩ := H
      replace H : (some t103) = some r := H
      have A26 := aZ_ A260
      clear A260
      obtain rfl := Option.some.inj H
      have hcz27_0 : wc.cell? ⟨gb101,0,none⟩ = some (.int .i64 a0_0) := (blk_cell BK101.out 0).trans rfl
      have hcz27_1 : wc.cell? ⟨gb101,1,none⟩ = some (.int .i64 a0_1) := (blk_cell BK101.out 1).trans rfl
      have hfz27_0 := blk_frozen BK101.out 0
      have hfz27_1 := blk_frozen BK101.out 1
      go_wp2_with (first | (go_at_call 16;(with_reducible refine (spec_IsSimpleGame.calls kj2 a0_0 a0_1 t103 _ A26.out).mono ?_);rintro e w28 ⟨rfl,hb⟩;have n0_ := aZ_ (blk_below (g := gb101) (o := .cells #[.int .i64 a0_0,.int .i64 a0_1] 25 (0,0)) T2_ hb);have n1_ := aZ_ (below_step T1_ hb);clear BK101;clear HB;have BK101 := n0_;have HB := n1_;clear n0_ n1_;(try clear hb);(try clear hb2);(try clear hk);(try clear hi)))
      repeat (go_quiet (first | (go_at_call 16;(with_reducible refine (spec_IsSimpleGame.calls kj2 a0_0 a0_1 t103 _ A26.out).mono ?_);rintro e w28 ⟨rfl,hb⟩;have n0_ := aZ_ (blk_below (g := gb101) (o := .cells #[.int .i64 a0_0,.int .i64 a0_1] 25 (0,0)) T2_ hb);have n1_ := aZ_ (below_step T1_ hb);clear BK101;clear HB;have BK101 := n0_;have HB := n1_;clear n0_ n1_;(try clear hb);(try clear hb2);(try clear hk);(try clear hi)));try go_wp2_with (first | (go_at_call 16;(with_reducible refine (spec_IsSimpleGame.calls kj2 a0_0 a0_1 t103 _ A26.out).mono ?_);rintro e w28 ⟨rfl,hb⟩;have n0_ := aZ_ (blk_below (g := gb101) (o := .cells #[.int .i64 a0_0,.int .i64 a0_1] 25 (0,0)) T2_ hb);have n1_ := aZ_ (below_step T1_ hb);clear BK101;clear HB;have BK101 := n0_;have HB := n1_;clear n0_ n1_;(try clear hb);(try clear hb2);(try clear hk);(try clear hi))))
      go_ret
      exact ⟨by first | rfl | (simp [errW_none,errW_some] <;> rfl) | (simp [*,errW_none,errW_some] <;> rfl),by repeat (first | (with_reducible first | exact HB.out | apply below_alloc | apply pw_below_drewN | apply below_drew1 | refine below_set ?_ GE101.out) | exact HB.out)⟩
def impl_CountOnes.f (a0_0 : Int) (a0_1 : Int) : Option (Int) := (impl_IsTable.f a0_0 a0_1).bind fun t102 => (if t102 = true then ((impl_ones.f a0_1).bind fun t103 => (some t103)) else (some (-1)))
set_option maxHeartbeats 8000000 in
set_option maxRecDepth 100000 in
theorem impl_CountOnes.calls (a0_0 : Int) (a0_1 : Int) (r : Int) (w : World) (h : impl_CountOnes.f a0_0 a0_1 = some r) :
  Calls Try.prog 21 #[.agg #[.int .i64 a0_0,.int .i64 a0_1]] w fun e w' => e = .returned (.int .i64 r) ∧ Below w.heap.size w w' := by
 have hu25 := Try.underlying25
 have HB := aZ_ (Below.refl w.heap.size w)
 have H : ((impl_IsTable.f a0_0 a0_1).bind fun t102 => (if t102 = true then ((impl_ones.f a0_1).bind fun t103 => (some t103)) else (some (-1)))) = some r := h
 clear h
 replace H := Option.bind_eq_some_iff.mp H
 obtain ⟨t102,A20,H⟩ := H
 replace H : (if t102 = true then ((impl_ones.f a0_1).bind fun t103 => (some t103)) else (some (-1))) = some r := H
 have A2 := aZ_ A20
 clear A20
 by_cases c3 : t102 = true
 ·subst c3
  have H1 : ((impl_ones.f a0_1).bind fun t103 => (some t103)) = some r := by rw [if_pos rfl] at H;exact H
  clear H
  have H := H1
  clear H1
  replace H := Option.bind_eq_some_iff.mp H
  obtain ⟨t103,A40,H⟩ := H
  replace H : (some t103) = some r := H
  have A4 := aZ_ A40
  clear A40
  obtain rfl := Option.some.inj H
  go_enter Try.func21,Try.ntmps21
  go_wp2_with (first | ((with_reducible refine gate_dst (N := 1) rfl ?_);refine box_event ?hg (N := 1) ?hd (cs := #[.int .i64 a0_0,.int .i64 a0_1]) (t := 25) ?hr ?_;(case hd => rfl);(case hg => rfl);(case hr => first | (go_simp;done) | (go_simp;rfl));intro gb101 hg w5 hbox hb;have n0_ := aZ_ (below_step T5_ hb);have n1_ := aZ_ (hbox);have n2_ := aZ_ ((T3_ : w.heap.size ≤ gb101));have n3_ := aZ_ ((T3_ : w.heap.size ≤ gb101));clear HB;have HB := n0_;have BK101 := n1_;have GW101 := n2_;have GE101 := n3_;clear n0_ n1_ n2_ n3_;clear hb hbox hg;have hcz6_0 : w5.cell? ⟨gb101,0,none⟩ = some (.int .i64 a0_0) := (blk_cell BK101.out 0).trans rfl;have hcz6_1 : w5.cell? ⟨gb101,1,none⟩ = some (.int .i64 a0_1) := (blk_cell BK101.out 1).trans rfl;have hfz6_0 := blk_frozen BK101.out 0;have hfz6_1 := blk_frozen BK101.out 1) | ((with_reducible refine gate_callee (f := 45) rfl ?_);refine goesL_ (some 4) rfl rfl Try.func45 T12_ rfl #[.agg #[.int .i64 a0_0,.int .i64 a0_1]] rfl T4_ ?_;(with_reducible refine (impl_IsTable.calls a0_0 a0_1 true _ A2.out).mono ?_);rintro e w7 ⟨rfl,hb⟩;refine ⟨_,rfl,?_⟩;have n0_ := aZ_ (blk_below (g := gb101) (o := .cells #[.int .i64 a0_0,.int .i64 a0_1] 25 (0,0)) T2_ hb);have n1_ := aZ_ (below_step T1_ hb);clear BK101;clear HB;have BK101 := n0_;have HB := n1_;clear n0_ n1_;(try clear hb);(try clear hb2);(try clear hk);(try clear hi);have hcz8_0 : w7.cell? ⟨gb101,0,none⟩ = some (.int .i64 a0_0) := (blk_cell BK101.out 0).trans rfl;have hcz8_1 : w7.cell? ⟨gb101,1,none⟩ = some (.int .i64 a0_1) := (blk_cell BK101.out 1).trans rfl;have hfz8_0 := blk_frozen BK101.out 0;have hfz8_1 := blk_frozen BK101.out 1) | ((with_reducible refine gate_callee (f := 46) rfl ?_);refine goesL_ (some 8) rfl rfl Try.func46 T12_ rfl #[.int .i64 a0_1] rfl T4_ ?_;(with_reducible refine (impl_ones.calls a0_1 t103 _ A4.out).mono ?_);rintro e w' ⟨rfl,⟨nd,rfl⟩⟩;refine ⟨_,rfl,?_⟩))
  go_ret
  exact ⟨by first | rfl | (simp [errW_none,errW_some] <;> rfl) | (simp [*,errW_none,errW_some] <;> rfl),by repeat (first | (with_reducible first | exact HB.out | apply below_alloc | apply pw_below_drewN | apply below_drew1 | refine below_set ?_ GE101.out) | exact HB.out)⟩
 ·replace c3 := Bool.eq_false_iff.mpr c3
  subst c3
  have H1 : (some (-1)) = some r := by rw [if_neg (show ¬ (false = true) by decide)] at H;exact H
  clear H
  have H := H1
  clear H1
  obtain rfl := Option.some.inj H
  go_enter Try.func21,Try.ntmps21
  go_wp2_with (first | ((with_reducible refine gate_dst (N := 1) rfl ?_);refine box_event ?hg (N := 1) ?hd (cs := #[.int .i64 a0_0,.int .i64 a0_1]) (t := 25) ?hr ?_;(case hd => rfl);(case hg => rfl);(case hr => first | (go_simp;done) | (go_simp;rfl));intro gb101 hg w9 hbox hb;have n0_ := aZ_ (below_step T5_ hb);have n1_ := aZ_ (hbox);have n2_ := aZ_ ((T3_ : w.heap.size ≤ gb101));have n3_ := aZ_ ((T3_ : w.heap.size ≤ gb101));clear HB;have HB := n0_;have BK101 := n1_;have GW101 := n2_;have GE101 := n3_;clear n0_ n1_ n2_ n3_;clear hb hbox hg;have hcz10_0 : w9.cell? ⟨gb101,0,none⟩ = some (.int .i64 a0_0) := (blk_cell BK101.out 0).trans rfl;have hcz10_1 : w9.cell? ⟨gb101,1,none⟩ = some (.int .i64 a0_1) := (blk_cell BK101.out 1).trans rfl;have hfz10_0 := blk_frozen BK101.out 0;have hfz10_1 := blk_frozen BK101.out 1) | ((with_reducible refine gate_callee (f := 45) rfl ?_);refine goesL_ (some 4) rfl rfl Try.func45 T12_ rfl #[.agg #[.int .i64 a0_0,.int .i64 a0_1]] rfl T4_ ?_;(with_reducible refine (impl_IsTable.calls a0_0 a0_1 false _ A2.out).mono ?_);rintro e w11 ⟨rfl,hb⟩;refine ⟨_,rfl,?_⟩;have n0_ := aZ_ (blk_below (g := gb101) (o := .cells #[.int .i64 a0_0,.int .i64 a0_1] 25 (0,0)) T2_ hb);have n1_ := aZ_ (below_step T1_ hb);clear BK101;clear HB;have BK101 := n0_;have HB := n1_;clear n0_ n1_;(try clear hb);(try clear hb2);(try clear hk);(try clear hi)))
  go_ret
  exact ⟨by first | rfl | (simp [errW_none,errW_some] <;> rfl) | (simp [*,errW_none,errW_some] <;> rfl),by repeat (first | (with_reducible first | exact HB.out | apply below_alloc | apply pw_below_drewN | apply below_drew1 | refine below_set ?_ GE101.out) | exact HB.out)⟩
end Go.Proofs.Ytmmdcbdchifniaa.F
