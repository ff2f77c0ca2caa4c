/- Walks of Go functions and lemmas on what they compute, for the row of FnMonotone (a part of several): each call ends as the Lean function of its name tells; the conditions are those of each theorem. -/
import Derived.Test.YtgojehaneegaeabM1FnMonotone
import Derived.Test.YtgojehaneegaeabM2FnMonotone
import Derived.Test.YtgojehaneegaeabM3FnMonotone
import Derived.Test.YtgojehaneegaeabM4FnMonotone
import Derived.Test.YtgojehaneegaeabM5FnMonotone
import Derived.Test.YtgojehaneegaeabM7FnMonotone
import Derived.Test.YtgojehaneegaeabM8FnMonotone
import Derived.Test.YtgojehaneegaeabM10FnMonotone
namespace Go.Proofs.Ytgojehaneegaeab.F
open Go.RowKit Go.Proofs.YtgojehaneegaeabW.PrintWords Go.Proofs.YtgojehaneegaeabW.PrintLast Go.Proofs.YtgojehaneegaeabW.PrintMore
attribute [local go_sem] max2_int min2_int max_two min_two max_three min_three max_four min_four 
set_option linter.unusedVariables false
set_option linter.unusedSimpArgs false
mutual
def impl_Table_primes.l0 : Nat → List (S38) → Int → Int → Int → Int → Option ((List (S38)))
 | 0,_,_,_,_,_ => none
 | k + 1,x3,x8,x9,x102000,x102001 => if x9 < x8 then (impl_Table_primes.l1 k x3 x9 x8 x9 (wrap64 (x9 + 1)) 0 x102000 x102001) else (some x3)
def impl_Table_primes.l1 : Nat → List (S38) → Int → Int → Int → Int → Int → Int → Int → Option ((List (S38)))
 | 0,_,_,_,_,_,_,_,_ => none
 | k + 1,x3,x4,x8,x9,x13,x14,x102000,x102001 => if x14 < x13 then (if (Go.bits .andNot .i64 x14 x4) = 0 then ((impl_Table_isPrime.f k x102000 x102001 x4 x14).bind fun t104 => (if t104 = true then (if x3.length < 8796093022208 then (impl_Table_primes.l1 k (x3 ++ [(⟨x4,x14⟩ : S38)]) x4 x8 x9 x13 (wrap64 (x14 + 1)) x102000 x102001) else (none)) else (impl_Table_primes.l1 k x3 x4 x8 x9 x13 (wrap64 (x14 + 1)) x102000 x102001))) else (impl_Table_primes.l1 k x3 x4 x8 x9 x13 (wrap64 (x14 + 1)) x102000 x102001)) else (impl_Table_primes.l0 k x3 x8 (wrap64 (x9 + 1)) x102000 x102001)
end
def impl_Table_primes.f (k : Nat) (a0_0 : Int) (a0_1 : Int) : Option ((List (S38))) := (impl_Table_size.f a0_0 a0_1).bind fun t102 => (impl_Table_primes.l0 k ([] : List (S38)) t102 0 a0_0 a0_1)
set_option maxHeartbeats 8000000 in
set_option maxRecDepth 100000 in
theorem impl_Table_primes.calls (k : Nat) (a0_0 : Int) (a0_1 : Int) (r : List (S38)) (w : World) (h : impl_Table_primes.f k a0_0 a0_1 = some r) :
  Calls Try.prog 43 #[.agg #[.int .i64 a0_0,.int .i64 a0_1]] w fun e w' => ∃ v0_ : Value,e = .returned (v0_) ∧ Kd.R k38 38 w' w.heap.size (fun _ => True) v0_ r ∧ Below w.heap.size w w' := by
 have hu25 := Try.underlying25
 have hu38 := Try.underlying38
 have HB := aZ_ (Below.refl w.heap.size w)
 have H : ((impl_Table_size.f a0_0 a0_1).bind fun t102 => (impl_Table_primes.l0 k ([] : List (S38)) t102 0 a0_0 a0_1)) = some r := h
 clear h
 replace H := Option.bind_eq_some_iff.mp H
 obtain ⟨t102,A20,H⟩ := H
 replace H : (impl_Table_primes.l0 k ([] : List (S38)) t102 0 a0_0 a0_1) = some r := H
 have A2 := aZ_ A20
 clear A20
 have H' := aZ_ H
 clear H
 go_enter Try.func43,Try.ntmps43
 go_wp2_with (first | ((with_reducible refine gate_dst (N := 1) rfl ?_);refine box_event ?hg (N := 1) ?hd (cs := #[.int .i64 a0_0,.int .i64 a0_1]) (t := 25) ?hr ?_;(case hd => rfl);(case hg => rfl);(case hr => first | (go_simp;done) | (go_simp;rfl));intro gb101 hg w3 hbox hb;have n0_ := aZ_ (below_step T6_ hb);have n1_ := aZ_ (hbox);have n2_ := aZ_ ((T2_ : w.heap.size ≤ gb101));have n3_ := aZ_ ((T2_ : w.heap.size ≤ gb101));clear HB;have HB := n0_;have BK101 := n1_;have GW101 := n2_;have GE101 := n3_;clear n0_ n1_ n2_ n3_;clear hb hbox hg;have hcz4_0 : w3.cell? ⟨gb101,0,none⟩ = some (.int .i64 a0_0) := (blk_cell BK101.out 0).trans rfl;have hcz4_1 : w3.cell? ⟨gb101,1,none⟩ = some (.int .i64 a0_1) := (blk_cell BK101.out 1).trans rfl;have hfz4_0 := blk_frozen BK101.out 0;have hfz4_1 := blk_frozen BK101.out 1) | ((with_reducible refine gate_callee (f := 50) rfl ?_);refine goesL_ (some 8) rfl rfl Try.func50 T21_ rfl #[.agg #[.int .i64 a0_0,.int .i64 a0_1]] rfl T4_ ?_;(with_reducible refine (impl_Table_size.calls a0_0 a0_1 t102 _ A2.out).mono ?_);rintro e w5 ⟨rfl,hb⟩;refine ⟨_,rfl,?_⟩;have n0_ := aZ_ (blk_below (g := gb101) (o := .cells #[.int .i64 a0_0,.int .i64 a0_1] 25 (0,0)) T1_ hb);have n1_ := aZ_ (below_step T3_ hb);clear BK101;clear HB;have BK101 := n0_;have HB := n1_;clear n0_ n1_;(try clear hb);(try clear hb2);(try clear hk);(try clear hi)))
 go_loopg [3,9] k (fun kq v3 v9 w' => ∃ (x3_1 : List (S38)) (x9_1 : Int),v9 = .int .i64 x9_1 ∧ Aside0 (impl_Table_primes.l0 kq x3_1 t102 x9_1 a0_0 a0_1 = some r) ∧ Aside0 (kq ≤ k) ∧ Aside0 (Kd.R k38 38 w' w.heap.size (fun _ => True) v3 x3_1) ∧ Aside0 (w'.heap[gb101]? = some (.cells #[.int .i64 a0_0,.int .i64 a0_1] 25 (0,0))) ∧ Aside0 (Below w.heap.size w w'))
 case atStart => exact ⟨(([] : List (S38))),(0),T11_,H',⟨Nat.le_refl _⟩,⟨by first | exact Kd.R_nil _ _ _ _ _ | exact Kd.N_nil _ _ _ _ _ | exact Kd.V_nil _ _ _ _ _ | exact Kd.Q_nil _ _ _ _ _ | exact Kd.S_nil _ _ _ _ _⟩,⟨by (with_reducible repeat (first | refine blk_drewN ?_ _ | refine blk_drew ?_ | refine blk_alloc ?_ _));exact BK101.out⟩,⟨by repeat (first | (with_reducible first | exact HB.out | apply below_alloc | apply pw_below_drewN | apply below_drew1 | refine below_set ?_ GE101.out) | exact HB.out)⟩⟩
 case round =>
  clear H'
  try clear p2
  try clear c4
  try clear c5
  try clear hcz4_0
  try clear hcz4_1
  try clear hfz4_0
  try clear hfz4_1
  obtain ⟨x3_1,x9_1,rfl,HA,HK1,HO_3,BK101,HB⟩ := hrel
  cases gk with
  | zero => exact absurd HA.out (by simp [impl_Table_primes.l0])
  | succ k1 =>
   have H := HA.out
   clear HA
   simp only [impl_Table_primes.l0] at H
   by_cases c6 : x9_1 < t102
   ·rw [if_pos c6] at H
    have c6b0 : decide (x9_1 < t102) = true := decide_eq_true c6
    clear c6
    have H' := aZ_ H
    clear H
    go_wp2
    go_loopg [3,14] k1 (fun kq v3 v14 w' => ∃ (x3_2 : List (S38)) (x14_2 : Int),v14 = .int .i64 x14_2 ∧ Aside0 (impl_Table_primes.l1 kq x3_2 x9_1 t102 x9_1 (wrap64 (x9_1 + 1)) x14_2 a0_0 a0_1 = some r) ∧ Aside0 (kq ≤ k1) ∧ Aside0 (Kd.R k38 38 w' w.heap.size (fun _ => True) v3 x3_2) ∧ Aside0 (w'.heap[gb101]? = some (.cells #[.int .i64 a0_0,.int .i64 a0_1] 25 (0,0))) ∧ Aside0 (Below w.heap.size w w'))
    case atStart => exact ⟨(x3_1),(0),T11_,H',⟨Nat.le_refl _⟩,⟨by (with_reducible repeat (first | apply Kd.R_alloc | apply Kd.R_drewN | apply Kd.R_drew));exact HO_3.out⟩,⟨by (with_reducible repeat (first | refine blk_drewN ?_ _ | refine blk_drew ?_ | refine blk_alloc ?_ _));exact BK101.out⟩,⟨by repeat (first | (with_reducible first | exact HB.out | apply below_alloc | apply pw_below_drewN | apply below_drew1 | refine below_set ?_ GE101.out) | exact HB.out)⟩⟩
    case round =>
     clear H'
     try clear p2
     try clear c4
     try clear c5
     try clear c6
     try clear c6b0
     try clear p6
     try clear hcz4_0
     try clear hcz4_1
     try clear hfz4_0
     try clear hfz4_1
     try clear p2
     obtain ⟨x3_2,x14_2,rfl,HA,HK2,HO_3,BK101,HB⟩ := hrel
     cases gk with
     | zero => exact absurd HA.out (by simp [impl_Table_primes.l1])
     | succ k2 =>
      have H := HA.out
      clear HA
      simp only [impl_Table_primes.l1] at H
      by_cases c7 : x14_2 < (wrap64 (x9_1 + 1))
      ·rw [if_pos c7] at H
       have c7b0 : decide (x14_2 < (wrap64 (x9_1 + 1))) = true := decide_eq_true c7
       clear c7
       by_cases c8 : (Go.bits .andNot .i64 x14_2 x9_1) = 0
       ·rw [if_pos c8] at H
        have c8b0 : ((Go.bits .andNot .i64 x14_2 x9_1) == 0) = true := beq_iff_eq.mpr c8
        have c8b1 : ((Go.bits .andNot .i64 x14_2 x9_1) != 0) = false := bne_eq_false_iff_eq.mpr c8
        clear c8
        replace H := Option.bind_eq_some_iff.mp H
        obtain ⟨t104,A90,H⟩ := H
        replace H : (if t104 = true then (if x3_2.length < 8796093022208 then (impl_Table_primes.l1 k2 (x3_2 ++ [(⟨x9_1,x14_2⟩ : S38)]) x9_1 t102 x9_1 (wrap64 (x9_1 + 1)) (wrap64 (x14_2 + 1)) a0_0 a0_1) else (none)) else (impl_Table_primes.l1 k2 x3_2 x9_1 t102 x9_1 (wrap64 (x9_1 + 1)) (wrap64 (x14_2 + 1)) a0_0 a0_1)) = some r := H
        have A9 := aZ_ A90
        clear A90
        by_cases c10 : t104 = true
        ·subst c10
         have H1 : (if x3_2.length < 8796093022208 then (impl_Table_primes.l1 k2 (x3_2 ++ [(⟨x9_1,x14_2⟩ : S38)]) x9_1 t102 x9_1 (wrap64 (x9_1 + 1)) (wrap64 (x14_2 + 1)) a0_0 a0_1) else (none)) = some r := by rw [if_pos rfl] at H;exact H
         clear H
         have H := H1
         clear H1
         by_cases c11 : x3_2.length < 8796093022208
         ·rw [if_pos c11] at H
          have LMc11 := aZ_ c11
          clear c11
          obtain ⟨y105,hy105⟩ : ∃ y_ : List (S38),y_ = (x3_2 ++ [(⟨x9_1,x14_2⟩ : S38)]) := ⟨_,rfl⟩
          replace H : (impl_Table_primes.l1 k2 y105 x9_1 t102 x9_1 (wrap64 (x9_1 + 1)) (wrap64 (x14_2 + 1)) a0_0 a0_1) = some r := by first | (rw [hy105];with_reducible exact H) | (have H2_ := (Option.bind_some _ _).symm.trans H;rw [hy105];with_reducible exact H2_) | (have H2_ := (Option.bind_some _ _).symm.trans H;with_reducible exact H2_) | with_reducible exact H | (rw [hy105];exact H) | exact H
          have Ny105 := aZ_ hy105
          clear hy105
          have H' := aZ_ H
          clear H
          go_wp2_with (first | ((with_reducible refine gate_dst (N := 6) rfl ?_);refine box_event ?hg (N := 6) ?hd (cs := #[.int .i64 0,.int .i64 0]) (t := 38) ?hr ?_;(case hd => rfl);(case hg => rfl);(case hr => first | (go_simp;done) | (go_simp;rfl));intro gb103 hg w12 hbox hb;have n0_ := aZ_ (Kd.R_below (Kd.R_elderB T22_ gb103 (Nat.le_of_eq hg.symm)) hb);have n1_ := aZ_ (blk_below (g := gb101) (o := .cells #[.int .i64 a0_0,.int .i64 a0_1] 25 (0,0)) T1_ hb);have n2_ := aZ_ (below_step T3_ hb);have n3_ := aZ_ (hbox);have n4_ := aZ_ ((T5_ : w.heap.size ≤ gb103));have n5_ := aZ_ ((T5_ : w.heap.size ≤ gb103));have n6_ := aZ_ ((T8_ : gb101 ≠ gb103));have n7_ := aZ_ ((T9_ : gb103 ≠ gb101));clear HO_3;clear BK101;clear HB;have HO_3 := n0_;have BK101 := n1_;have HB := n2_;have BK103 := n3_;have GW103 := n4_;have GE103 := n5_;have NB101_103 := n6_;have NB103_101 := n7_;clear n0_ n1_ n2_ n3_ n4_ n5_ n6_ n7_;clear hb hbox hg;have hnb13 := NB103_101.out;have hnc13 := NB101_103.out;have hcz14_0 : w12.cell? ⟨gb103,0,none⟩ = some (.int .i64 0) := (blk_cell BK103.out 0).trans rfl;have hcz14_1 : w12.cell? ⟨gb103,1,none⟩ = some (.int .i64 0) := (blk_cell BK103.out 1).trans rfl;have hfz14_0 := blk_frozen BK103.out 0;have hfz14_1 := blk_frozen BK103.out 1;have hcz15_0 : w12.cell? ⟨gb101,0,none⟩ = some (.int .i64 a0_0) := (blk_cell BK101.out 0).trans rfl;have hcz15_1 : w12.cell? ⟨gb101,1,none⟩ = some (.int .i64 a0_1) := (blk_cell BK101.out 1).trans rfl;have hfz15_0 := blk_frozen BK101.out 0;have hfz15_1 := blk_frozen BK101.out 1) | (go_at_call 60;(with_reducible refine (impl_Table_isPrime.calls k2 a0_0 a0_1 x9_1 x14_2 true _ A9.out).mono ?_);rintro e w16 ⟨rfl,hb⟩;have n0_ := aZ_ (Kd.R_below T59_ hb);have n1_ := aZ_ (blk_below (g := gb101) (o := .cells #[.int .i64 a0_0,.int .i64 a0_1] 25 (0,0)) T52_ hb);have n2_ := aZ_ (blk_below (g := gb103) (o := .cells #[.int .i64 x9_1,.int .i64 x14_2] 38 (0,0)) T44_ hb);have n3_ := aZ_ (below_step T49_ hb);clear HO_3;clear BK101;clear BK103;clear HB;have HO_3 := n0_;have BK101 := n1_;have BK103 := n2_;have HB := n3_;clear n0_ n1_ n2_ n3_;(try clear hb);(try clear hb2);(try clear hk);(try clear hi);have hcz17_0 : w16.cell? ⟨gb103,0,none⟩ = some (.int .i64 x9_1) := (blk_cell BK103.out 0).trans rfl;have hcz17_1 : w16.cell? ⟨gb103,1,none⟩ = some (.int .i64 x14_2) := (blk_cell BK103.out 1).trans rfl;have hfz17_0 := blk_frozen BK103.out 0;have hfz17_1 := blk_frozen BK103.out 1) | ((with_reducible refine gate_builtin (b := .append) (xs := #[.tmp 29,.tmp 31]) rfl ?_);at_builtin;refine Kd.R_append k38 (w0 := w) w.heap.size rfl (.tmp 29) (.tmp 31) 34 38 (.agg #[(.int .i64 0),(.int .i64 0)]) 16 rfl Try.underlying34 info38 rfl T66_ T74_ u3 x3_2 (⟨x9_1,x14_2⟩ : S38) [.int .i64 x9_1,.int .i64 x14_2] (fun k_ => k_ ≠ gb103) (fun _ => False) rfl rfl ?aP (fun _ hk => hk.elim) ?aF ?aO ?aB ?aS ?aL ?_;(case aP => exact k38_mkM _ _ _ (⟨x9_1,x14_2⟩ : S38));(case aB => exact T49_);(case aF => exact (fun k_ hk => Kd.freshB (g := gb103) (o := .cells #[.int .i64 x9_1,.int .i64 x14_2] 38 (0,0)) T76_ k_ hk));(case aO => exact (by (with_reducible repeat (first | apply Kd.R_alloc | apply Kd.R_drewN | apply Kd.R_drew));exact Kd.R_mono HO_3.out (fun _ hk => hk.2)));(case aS => exact (below_size T49_));(case aL => have := LMc11.out;omega);intro v106 w18 ho hb hg hat;rw [← Ny105.out] at ho;have n0_ := aZ_ (blk_grown (g := gb101) (o := .cells #[.int .i64 a0_0,.int .i64 a0_1] 25 (0,0)) T1_ hg (Kd.R_ne HO_3.out BK101.out T66_));have n1_ := aZ_ (blk_grown (g := gb103) (o := .cells #[.int .i64 x9_1,.int .i64 x14_2] 38 (0,0)) T76_ hg (Kd.R_away HO_3.out (fun _ hk => hk.2)));have n2_ := aZ_ (hb);have n3_ := aZ_ (ho);clear BK101;clear BK103;clear HB;clear HO_3;have BK101 := n0_;have BK103 := n1_;have HB := n2_;have HO107 := n3_;clear n0_ n1_ n2_ n3_;clear ho hb hg hat))
          go_roundg k2
          case measure => have := HK1.out;have := HK2.out;omega
          case rel => exact ⟨(y105),(wrap64 (x14_2 + 1)),T11_,H',⟨by have := HK1.out;have := HK2.out;omega⟩,⟨by (with_reducible repeat (first | apply Kd.R_alloc | apply Kd.R_drewN | apply Kd.R_drew));exact Kd.R_mono HO107.out (fun _ hk => trivial)⟩,⟨by (with_reducible repeat (first | refine blk_drewN ?_ _ | refine blk_drew ?_ | refine blk_alloc ?_ _));exact BK101.out⟩,⟨by repeat (first | (with_reducible first | exact HB.out | apply below_alloc | apply pw_below_drewN | apply below_drew1 | refine below_set ?_ GE101.out | refine below_set ?_ GE103.out) | exact HB.out)⟩⟩
         ·rw [if_neg c11] at H
          exact absurd H T67_
        ·replace c10 := Bool.eq_false_iff.mpr c10
         subst c10
         have H1 : (impl_Table_primes.l1 k2 x3_2 x9_1 t102 x9_1 (wrap64 (x9_1 + 1)) (wrap64 (x14_2 + 1)) a0_0 a0_1) = some r := by rw [if_neg (show ¬ (false = true) by decide)] at H;exact H
         clear H
         have H := H1
         clear H1
         have H' := aZ_ H
         clear H
         go_wp2_with (first | ((with_reducible refine gate_dst (N := 6) rfl ?_);refine box_event ?hg (N := 6) ?hd (cs := #[.int .i64 0,.int .i64 0]) (t := 38) ?hr ?_;(case hd => rfl);(case hg => rfl);(case hr => first | (go_simp;done) | (go_simp;rfl));intro gb103 hg w19 hbox hb;have n0_ := aZ_ (Kd.R_below (Kd.R_elderB T22_ gb103 (Nat.le_of_eq hg.symm)) hb);have n1_ := aZ_ (blk_below (g := gb101) (o := .cells #[.int .i64 a0_0,.int .i64 a0_1] 25 (0,0)) T1_ hb);have n2_ := aZ_ (below_step T3_ hb);have n3_ := aZ_ (hbox);have n4_ := aZ_ ((T5_ : w.heap.size ≤ gb103));have n5_ := aZ_ ((T5_ : w.heap.size ≤ gb103));have n6_ := aZ_ ((T8_ : gb101 ≠ gb103));have n7_ := aZ_ ((T9_ : gb103 ≠ gb101));clear HO_3;clear BK101;clear HB;have HO_3 := n0_;have BK101 := n1_;have HB := n2_;have BK103 := n3_;have GW103 := n4_;have GE103 := n5_;have NB101_103 := n6_;have NB103_101 := n7_;clear n0_ n1_ n2_ n3_ n4_ n5_ n6_ n7_;clear hb hbox hg;have hnb20 := NB103_101.out;have hnc20 := NB101_103.out;have hcz21_0 : w19.cell? ⟨gb103,0,none⟩ = some (.int .i64 0) := (blk_cell BK103.out 0).trans rfl;have hcz21_1 : w19.cell? ⟨gb103,1,none⟩ = some (.int .i64 0) := (blk_cell BK103.out 1).trans rfl;have hfz21_0 := blk_frozen BK103.out 0;have hfz21_1 := blk_frozen BK103.out 1;have hcz22_0 : w19.cell? ⟨gb101,0,none⟩ = some (.int .i64 a0_0) := (blk_cell BK101.out 0).trans rfl;have hcz22_1 : w19.cell? ⟨gb101,1,none⟩ = some (.int .i64 a0_1) := (blk_cell BK101.out 1).trans rfl;have hfz22_0 := blk_frozen BK101.out 0;have hfz22_1 := blk_frozen BK101.out 1) | (go_at_call 60;(with_reducible refine (impl_Table_isPrime.calls k2 a0_0 a0_1 x9_1 x14_2 false _ A9.out).mono ?_);rintro e w23 ⟨rfl,hb⟩;have n0_ := aZ_ (Kd.R_below T59_ hb);have n1_ := aZ_ (blk_below (g := gb101) (o := .cells #[.int .i64 a0_0,.int .i64 a0_1] 25 (0,0)) T52_ hb);have n2_ := aZ_ (blk_below (g := gb103) (o := .cells #[.int .i64 x9_1,.int .i64 x14_2] 38 (0,0)) T44_ hb);have n3_ := aZ_ (below_step T49_ hb);clear HO_3;clear BK101;clear BK103;clear HB;have HO_3 := n0_;have BK101 := n1_;have BK103 := n2_;have HB := n3_;clear n0_ n1_ n2_ n3_;(try clear hb);(try clear hb2);(try clear hk);(try clear hi)))
         go_roundg k2
         case measure => have := HK1.out;have := HK2.out;omega
         case rel => exact ⟨(x3_2),(wrap64 (x14_2 + 1)),T11_,H',⟨by have := HK1.out;have := HK2.out;omega⟩,⟨by (with_reducible repeat (first | apply Kd.R_alloc | apply Kd.R_drewN | apply Kd.R_drew));exact Kd.R_mono HO_3.out (fun _ hk => trivial)⟩,⟨by (with_reducible repeat (first | refine blk_drewN ?_ _ | refine blk_drew ?_ | refine blk_alloc ?_ _));exact BK101.out⟩,⟨by repeat (first | (with_reducible first | exact HB.out | apply below_alloc | apply pw_below_drewN | apply below_drew1 | refine below_set ?_ GE101.out | refine below_set ?_ GE103.out) | exact HB.out)⟩⟩
       ·rw [if_neg c8] at H
        have c8b0 : ((Go.bits .andNot .i64 x14_2 x9_1) == 0) = false := beq_eq_false_iff_ne.mpr c8
        have c8b1 : ((Go.bits .andNot .i64 x14_2 x9_1) != 0) = true := bne_iff_ne.mpr c8
        have H' := aZ_ H
        clear H
        go_wp2_with (first | ((with_reducible refine gate_dst (N := 6) rfl ?_);refine box_event ?hg (N := 6) ?hd (cs := #[.int .i64 0,.int .i64 0]) (t := 38) ?hr ?_;(case hd => rfl);(case hg => rfl);(case hr => first | (go_simp;done) | (go_simp;rfl));intro gb103 hg w24 hbox hb;have n0_ := aZ_ (Kd.R_below (Kd.R_elderB T22_ gb103 (Nat.le_of_eq hg.symm)) hb);have n1_ := aZ_ (blk_below (g := gb101) (o := .cells #[.int .i64 a0_0,.int .i64 a0_1] 25 (0,0)) T1_ hb);have n2_ := aZ_ (below_step T3_ hb);have n3_ := aZ_ (hbox);have n4_ := aZ_ ((T5_ : w.heap.size ≤ gb103));have n5_ := aZ_ ((T5_ : w.heap.size ≤ gb103));have n6_ := aZ_ ((T8_ : gb101 ≠ gb103));have n7_ := aZ_ ((T9_ : gb103 ≠ gb101));clear HO_3;clear BK101;clear HB;have HO_3 := n0_;have BK101 := n1_;have HB := n2_;have BK103 := n3_;have GW103 := n4_;have GE103 := n5_;have NB101_103 := n6_;have NB103_101 := n7_;clear n0_ n1_ n2_ n3_ n4_ n5_ n6_ n7_;clear hb hbox hg;have hnb25 := NB103_101.out;have hnc25 := NB101_103.out;have hcz26_0 : w24.cell? ⟨gb103,0,none⟩ = some (.int .i64 0) := (blk_cell BK103.out 0).trans rfl;have hcz26_1 : w24.cell? ⟨gb103,1,none⟩ = some (.int .i64 0) := (blk_cell BK103.out 1).trans rfl;have hfz26_0 := blk_frozen BK103.out 0;have hfz26_1 := blk_frozen BK103.out 1))
        go_roundg k2
        case measure => have := HK1.out;have := HK2.out;omega
        case rel => exact ⟨(x3_2),(wrap64 (x14_2 + 1)),T11_,H',⟨by have := HK1.out;have := HK2.out;omega⟩,⟨by (with_reducible repeat (first | apply Kd.R_alloc | apply Kd.R_drewN | apply Kd.R_drew));exact Kd.R_mono (Kd.R_far (p := ⟨gb103,1,none⟩) (Kd.R_far (p := ⟨gb103,0,none⟩) (Kd.R_mono HO_3.out (fun k_ hk => (⟨hk,hk.2⟩ : _ ∧ k_ ≠ gb103))) (fun _ hk => hk.2) (.int .i64 x9_1)) (fun _ hk => hk.2) (.int .i64 x14_2)) (fun _ hk => trivial)⟩,⟨by (with_reducible repeat (first | refine blk_drewN ?_ _ | refine blk_drew ?_ | refine blk_alloc ?_ _));refine blk_far ?_ NB101_103.out _;(with_reducible repeat (first | refine blk_drewN ?_ _ | refine blk_drew ?_ | refine blk_alloc ?_ _));refine blk_far ?_ NB101_103.out _;(with_reducible repeat (first | refine blk_drewN ?_ _ | refine blk_drew ?_ | refine blk_alloc ?_ _));exact BK101.out⟩,⟨by repeat (first | (with_reducible first | exact HB.out | apply below_alloc | apply pw_below_drewN | apply below_drew1 | refine below_set ?_ GE101.out | refine below_set ?_ GE103.out) | exact HB.out)⟩⟩
      ·rw [if_neg c7] at H
       have c7b0 : decide (x14_2 < (wrap64 (x9_1 + 1))) = false := decide_eq_false c7
       clear c7
       have H' := aZ_ H
       clear H
       go_wp2
       go_roundg k2
       case measure => have := HK1.out;have := HK2.out;omega
       case rel => exact ⟨(x3_2),(wrap64 (x9_1 + 1)),T11_,H',⟨by have := HK1.out;have := HK2.out;omega⟩,⟨by (with_reducible repeat (first | apply Kd.R_alloc | apply Kd.R_drewN | apply Kd.R_drew));exact HO_3.out⟩,⟨by (with_reducible repeat (first | refine blk_drewN ?_ _ | refine blk_drew ?_ | refine blk_alloc ?_ _));exact BK101.out⟩,⟨by repeat (first | (with_reducible first | exact HB.out | apply below_alloc | apply pw_below_drewN | apply below_drew1 | refine below_set ?_ GE101.out) | exact HB.out)⟩⟩
   ·rw [if_neg c6] at H
    have c6b0 : decide (x9_1 < t102) = false := decide_eq_false c6
    clear c6
    obtain rfl := Option.some.inj H
    go_wp2
    go_ret
    exact ⟨_,by first | rfl | (simp [errW_none,errW_some] <;> rfl) | (simp [*,errW_none,errW_some] <;> rfl),by (with_reducible repeat (first | apply Kd.R_alloc | apply Kd.R_drewN | apply Kd.R_drew));exact HO_3.out,by repeat (first | (with_reducible first | exact HB.out | apply below_alloc | apply pw_below_drewN | apply below_drew1 | refine below_set ?_ GE101.out) | exact HB.out)⟩
def impl_PrimesOf.f (k : Nat) (a0_0 : Int) (a0_1 : Int) : Option ((List (S38)) × Bool) := (impl_IsTable.f a0_0 a0_1).bind fun t102 => (if t102 = true then ((impl_Table_primes.f k a0_0 a0_1).bind fun t103 => (some (t103,true))) else (some (([] : List (S38)),false)))
set_option maxHeartbeats 8000000 in
set_option maxRecDepth 100000 in
theorem impl_PrimesOf.calls (k : Nat) (a0_0 : Int) (a0_1 : Int) (r1 : List (S38)) (r2 : Bool) (w : World) (h : impl_PrimesOf.f k a0_0 a0_1 = some (r1,r2)) :
  Calls Try.prog 19 #[.agg #[.int .i64 a0_0,.int .i64 a0_1]] w fun e w' => ∃ v0_ : Value,e = .returned (.tuple #[v0_,.bool r2]) ∧ Kd.R k38 38 w' w.heap.size (fun _ => True) v0_ r1 ∧ Below w.heap.size w w' := by
 have hu25 := Try.underlying25
 have HB := aZ_ (Below.refl w.heap.size w)
 have H : ((impl_IsTable.f a0_0 a0_1).bind fun t102 => (if t102 = true then ((impl_Table_primes.f k a0_0 a0_1).bind fun t103 => (some (t103,true))) else (some (([] : List (S38)),false)))) = some (r1,r2) := h
 clear h
 replace H := Option.bind_eq_some_iff.mp H
 obtain ⟨t102,A20,H⟩ := H
 replace H : (if t102 = true then ((impl_Table_primes.f k a0_0 a0_1).bind fun t103 => (some (t103,true))) else (some (([] : List (S38)),false))) = some (r1,r2) := H
 have A2 := aZ_ A20
 clear A20
 by_cases c3 : t102 = true
 ·subst c3
  have H1 : ((impl_Table_primes.f k a0_0 a0_1).bind fun t103 => (some (t103,true))) = some (r1,r2) := by rw [if_pos rfl] at H;exact H
  clear H
  have H := H1
  clear H1
  replace H := Option.bind_eq_some_iff.mp H
  obtain ⟨t103,A40,H⟩ := H
  replace H : (some (t103,true)) = some (r1,r2) := H
  have A4 := aZ_ A40
  clear A40
  simp only [Option.some.injEq,Prod.mk.injEq] at H
  obtain ⟨rfl,rfl⟩ := H
  go_enter Try.func19,Try.ntmps19
  go_wp2_with (first | ((with_reducible refine gate_dst (N := 1) rfl ?_);refine box_event ?hg (N := 1) ?hd (cs := #[.int .i64 a0_0,.int .i64 a0_1]) (t := 25) ?hr ?_;(case hd => rfl);(case hg => rfl);(case hr => first | (go_simp;done) | (go_simp;rfl));intro gb101 hg w5 hbox hb;have n0_ := aZ_ (below_step T6_ hb);have n1_ := aZ_ (hbox);have n2_ := aZ_ ((T2_ : w.heap.size ≤ gb101));have n3_ := aZ_ ((T2_ : w.heap.size ≤ gb101));clear HB;have HB := n0_;have BK101 := n1_;have GW101 := n2_;have GE101 := n3_;clear n0_ n1_ n2_ n3_;clear hb hbox hg;have hcz6_0 : w5.cell? ⟨gb101,0,none⟩ = some (.int .i64 a0_0) := (blk_cell BK101.out 0).trans rfl;have hcz6_1 : w5.cell? ⟨gb101,1,none⟩ = some (.int .i64 a0_1) := (blk_cell BK101.out 1).trans rfl;have hfz6_0 := blk_frozen BK101.out 0;have hfz6_1 := blk_frozen BK101.out 1) | ((with_reducible refine gate_callee (f := 30) rfl ?_);refine goesL_ (some 5) rfl rfl Try.func30 T21_ rfl #[.agg #[.int .i64 a0_0,.int .i64 a0_1]] rfl T4_ ?_;(with_reducible refine (impl_IsTable.calls a0_0 a0_1 true _ A2.out).mono ?_);rintro e w7 ⟨rfl,hb⟩;refine ⟨_,rfl,?_⟩;have n0_ := aZ_ (blk_below (g := gb101) (o := .cells #[.int .i64 a0_0,.int .i64 a0_1] 25 (0,0)) T1_ hb);have n1_ := aZ_ (below_step T3_ hb);clear BK101;clear HB;have BK101 := n0_;have HB := n1_;clear n0_ n1_;(try clear hb);(try clear hb2);(try clear hk);(try clear hi);have hcz8_0 : w7.cell? ⟨gb101,0,none⟩ = some (.int .i64 a0_0) := (blk_cell BK101.out 0).trans rfl;have hcz8_1 : w7.cell? ⟨gb101,1,none⟩ = some (.int .i64 a0_1) := (blk_cell BK101.out 1).trans rfl;have hfz8_0 := blk_frozen BK101.out 0;have hfz8_1 := blk_frozen BK101.out 1) | ((with_reducible refine gate_callee (f := 43) rfl ?_);refine goesL_ (some 8) rfl rfl Try.func43 T21_ rfl #[.agg #[.int .i64 a0_0,.int .i64 a0_1]] rfl T4_ ?_;(with_reducible refine (impl_Table_primes.calls k a0_0 a0_1 t103 _ A4.out).mono ?_);rintro e w9 ⟨v104,rfl,ho0,hb⟩;refine ⟨_,rfl,?_⟩;have n0_ := aZ_ (Kd.R_lower ho0 (below_size T3_));have n1_ := aZ_ (blk_below (g := gb101) (o := .cells #[.int .i64 a0_0,.int .i64 a0_1] 25 (0,0)) T1_ hb);have n2_ := aZ_ (below_step T3_ hb);clear BK101;clear HB;have HO105 := n0_;have BK101 := n1_;have HB := n2_;clear n0_ n1_ n2_;(try clear hb);(try clear hb2);(try clear hk);(try clear hi);(try clear ho0)))
  go_ret2
  exact ⟨_,by first | rfl | (simp [errW_none,errW_some] <;> rfl) | (simp [*,errW_none,errW_some] <;> rfl),by (with_reducible repeat (first | apply Kd.R_alloc | apply Kd.R_drewN | apply Kd.R_drew));exact HO105.out,by repeat (first | (with_reducible first | exact HB.out | apply below_alloc | apply pw_below_drewN | apply below_drew1 | refine below_set ?_ GE101.out) | exact HB.out)⟩
 ·replace c3 := Bool.eq_false_iff.mpr c3
  subst c3
  have H1 : (some (([] : List (S38)),false)) = some (r1,r2) := by rw [if_neg (show ¬ (false = true) by decide)] at H;exact H
  clear H
  have H := H1
  clear H1
  simp only [Option.some.injEq,Prod.mk.injEq] at H
  obtain ⟨rfl,rfl⟩ := H
  go_enter Try.func19,Try.ntmps19
  go_wp2_with (first | ((with_reducible refine gate_dst (N := 1) rfl ?_);refine box_event ?hg (N := 1) ?hd (cs := #[.int .i64 a0_0,.int .i64 a0_1]) (t := 25) ?hr ?_;(case hd => rfl);(case hg => rfl);(case hr => first | (go_simp;done) | (go_simp;rfl));intro gb101 hg w10 hbox hb;have n0_ := aZ_ (below_step T6_ hb);have n1_ := aZ_ (hbox);have n2_ := aZ_ ((T2_ : w.heap.size ≤ gb101));have n3_ := aZ_ ((T2_ : w.heap.size ≤ gb101));clear HB;have HB := n0_;have BK101 := n1_;have GW101 := n2_;have GE101 := n3_;clear n0_ n1_ n2_ n3_;clear hb hbox hg;have hcz11_0 : w10.cell? ⟨gb101,0,none⟩ = some (.int .i64 a0_0) := (blk_cell BK101.out 0).trans rfl;have hcz11_1 : w10.cell? ⟨gb101,1,none⟩ = some (.int .i64 a0_1) := (blk_cell BK101.out 1).trans rfl;have hfz11_0 := blk_frozen BK101.out 0;have hfz11_1 := blk_frozen BK101.out 1) | ((with_reducible refine gate_callee (f := 30) rfl ?_);refine goesL_ (some 5) rfl rfl Try.func30 T21_ rfl #[.agg #[.int .i64 a0_0,.int .i64 a0_1]] rfl T4_ ?_;(with_reducible refine (impl_IsTable.calls a0_0 a0_1 false _ A2.out).mono ?_);rintro e w12 ⟨rfl,hb⟩;refine ⟨_,rfl,?_⟩;have n0_ := aZ_ (blk_below (g := gb101) (o := .cells #[.int .i64 a0_0,.int .i64 a0_1] 25 (0,0)) T1_ hb);have n1_ := aZ_ (below_step T3_ hb);clear BK101;clear HB;have BK101 := n0_;have HB := n1_;clear n0_ n1_;(try clear hb);(try clear hb2);(try clear hk);(try clear hi)))
  go_ret2
  exact ⟨_,by first | rfl | (simp [errW_none,errW_some] <;> rfl) | (simp [*,errW_none,errW_some] <;> rfl),by first | exact Kd.R_nil _ _ _ _ _ | exact Kd.N_nil _ _ _ _ _ | exact Kd.V_nil _ _ _ _ _ | exact Kd.Q_nil _ _ _ _ _ | exact Kd.S_nil _ _ _ _ _,by repeat (first | (with_reducible first | exact HB.out | apply below_alloc | apply pw_below_drewN | apply below_drew1 | refine below_set ?_ GE101.out) | exact HB.out)⟩
def spec_DrawTableOfPoints.l0 : Nat → Int → List Int → Int → List Int → Int → Int → Option (Int × List Int)
 | 0,_,_,_,_,_,_ => none
 | k + 1,x5,x6,x7,x105000,x105001,x105002 => if x7 > 0 then ((spec_l1Below.f x105000 x105001 x105002 17).bind fun bt117 => (if x6.length < 17592186044416 then (spec_DrawTableOfPoints.l0 k x5 (x6 ++ [wrap64 (bt117.1 - 1)]) (wrap64 (x7 - 1)) x105000 bt117.2.1 bt117.2.2) else (none))) else (some (x5,x6))
def spec_DrawTableOfPoints.f (k : Nat) (l0 : List Int) : Option (Int × List Int) := (spec_l1New.f k l0).bind fun bt101 => ((spec_l1PickInt.f bt101.1 bt101.2.1 bt101.2.2 (([4,4,3,2,0,5,(-1),6] : List Int))).bind fun bt108 => ((spec_l1Below.f bt101.1 bt108.2.1 bt108.2.2 4).bind fun bt114 => (spec_DrawTableOfPoints.l0 k bt108.1 (([] : List Int)) bt114.1 bt101.1 bt114.2.1 bt114.2.2)))
set_option maxHeartbeats 8000000 in
set_option maxRecDepth 100000 in
theorem spec_DrawTableOfPoints.calls (k : Nat) (A0 : Option Addr) (c0 : Nat) (l0 : List Int) (r1 : Int) (r2 : List Int) (w : World) (hr0 : Kd.C (Kd.int .u8) w A0 l0.length l0) (hc0 : l0.length ≤ c0) (h : spec_DrawTableOfPoints.f k l0 = some (r1,r2)) :
  Calls Try.prog 21 #[.slice A0 l0.length c0] w fun e w' => ∃ v1_ : Value,e = .returned (.tuple #[.int .i64 r1,v1_]) ∧ Kd.R (Kd.int .i64) 3 w' w.heap.size (fun _ => True) v1_ r2 ∧ Below w.heap.size w w' := by
 have HR0 := aZ_ hr0
 have HC0 := aZ_ hc0
 clear hr0 hc0
 have HB := aZ_ (Below.refl w.heap.size w)
 have H : ((spec_l1New.f k l0).bind fun bt101 => ((spec_l1PickInt.f bt101.1 bt101.2.1 bt101.2.2 (([4,4,3,2,0,5,(-1),6] : List Int))).bind fun bt108 => ((spec_l1Below.f bt101.1 bt108.2.1 bt108.2.2 4).bind fun bt114 => (spec_DrawTableOfPoints.l0 k bt108.1 (([] : List Int)) bt114.1 bt101.1 bt114.2.1 bt114.2.2)))) = some (r1,r2) := h
 clear h
 replace H := Option.bind_eq_some_iff.mp H
 obtain ⟨⟨t101,t102,t103⟩,A20,H⟩ := H
 replace H : ((spec_l1PickInt.f t101 t102 t103 (([4,4,3,2,0,5,(-1),6] : List Int))).bind fun bt108 => ((spec_l1Below.f t101 bt108.2.1 bt108.2.2 4).bind fun bt114 => (spec_DrawTableOfPoints.l0 k bt108.1 (([] : List Int)) bt114.1 t101 bt114.2.1 bt114.2.2))) = some (r1,r2) := H
 have A2 := aZ_ A20
 clear A20
 obtain ⟨y105,hy105⟩ : ∃ y_ : List Int,y_ = (([4,4,3,2,0,5,(-1),6] : List Int)) := ⟨_,rfl⟩
 replace H : ((spec_l1PickInt.f t101 t102 t103 y105).bind fun bt108 => ((spec_l1Below.f t101 bt108.2.1 bt108.2.2 4).bind fun bt114 => (spec_DrawTableOfPoints.l0 k bt108.1 (([] : List Int)) bt114.1 t101 bt114.2.1 bt114.2.2))) = some (r1,r2) := by first | (rw [hy105];with_reducible exact H) | (have H2_ := (Option.bind_some _ _).symm.trans H;rw [hy105];with_reducible exact H2_) | (have H2_ := (Option.bind_some _ _).symm.trans H;with_reducible exact H2_) | with_reducible exact H | (rw [hy105];exact H) | exact H
 have Ny105 := aZ_ hy105
 clear hy105
 replace H := Option.bind_eq_some_iff.mp H
 obtain ⟨⟨t108,t109,t110⟩,A30,H⟩ := H
 replace H : ((spec_l1Below.f t101 t109 t110 4).bind fun bt114 => (spec_DrawTableOfPoints.l0 k t108 (([] : List Int)) bt114.1 t101 bt114.2.1 bt114.2.2)) = some (r1,r2) := H
 have A3 := aZ_ A30
 clear A30
 obtain ⟨y111,hy111⟩ : ∃ y_ : List Int,y_ = (([] : List Int)) := ⟨_,rfl⟩
 replace H : ((spec_l1Below.f t101 t109 t110 4).bind fun bt114 => (spec_DrawTableOfPoints.l0 k t108 y111 bt114.1 t101 bt114.2.1 bt114.2.2)) = some (r1,r2) := by first | (rw [hy111];with_reducible exact H) | (have H2_ := (Option.bind_some _ _).symm.trans H;rw [hy111];with_reducible exact H2_) | (have H2_ := (Option.bind_some _ _).symm.trans H;with_reducible exact H2_) | with_reducible exact H | (rw [hy111];exact H) | exact H
 have Ny111 := aZ_ hy111
 clear hy111
 replace H := Option.bind_eq_some_iff.mp H
 obtain ⟨⟨t114,t115,t116⟩,A40,H⟩ := H
 replace H : (spec_DrawTableOfPoints.l0 k t108 y111 t114 t101 t115 t116) = some (r1,r2) := H
 have A4 := aZ_ A40
 clear A40
 have H' := aZ_ H
 clear H
 go_enter Try.func21,Try.ntmps21
 go_wp2_with (first | ((with_reducible refine gate_callee (f := 29) rfl ?_);refine goesL_ (some 9) rfl rfl Try.func29 T21_ rfl #[.slice A0 l0.length c0] rfl T4_ ?_;(with_reducible refine (spec_l1New.calls k _ _ l0 t101 t102 t103 w _ ?side1 ?side2 ?side3 A2.out).mono ?_);(case side1 => repeat (first | (with_reducible first | exact HB.out | apply below_alloc | apply pw_below_drewN | apply below_drew1) | exact HB.out));(case side2 => exact HR0.out);(case side3 => exact HC0.out);rintro e w5 ⟨g104,rfl,hi,hb,hb2⟩;refine ⟨_,rfl,?_⟩;have n0_ := aZ_ (hb);have n1_ := aZ_ (hi);clear HB;have HB := n0_;have HI104 := n1_;clear n0_ n1_;(try clear hb);(try clear hb2);(try clear hk);(try clear hi)) | ((with_reducible refine gate_dst (N := 11) rfl ?_);refine Kd.R_lit (Kd.int .i64) _ 3 ?hg (N := 11) ?hd (xs := ([4,4,3,2,0,5,(-1),6] : List Int)) (inner := [.int .i64 4,.int .i64 4,.int .i64 3,.int .i64 2,.int .i64 0,.int .i64 5,.int .i64 (-1),.int .i64 6]) (ok := fun _ => True) (okp := fun _ => True) ?hr ?hp (fun _ hk => hk) trivial (Below.refl _ _) (Nat.le_refl _) T67_ ?_;(case hd => rfl);(case hg => rfl);(case hr => first | (go_simp;done) | (go_simp;rfl));(case hp => exact (Reps.one (show Kd.M (Kd.int .i64) _ _ _ 4 [.int .i64 4] from rfl) (Reps.one (show Kd.M (Kd.int .i64) _ _ _ 4 [.int .i64 4] from rfl) (Reps.one (show Kd.M (Kd.int .i64) _ _ _ 3 [.int .i64 3] from rfl) (Reps.one (show Kd.M (Kd.int .i64) _ _ _ 2 [.int .i64 2] from rfl) (Reps.one (show Kd.M (Kd.int .i64) _ _ _ 0 [.int .i64 0] from rfl) (Reps.one (show Kd.M (Kd.int .i64) _ _ _ 5 [.int .i64 5] from rfl) (Reps.one (show Kd.M (Kd.int .i64) _ _ _ (-1) [.int .i64 (-1)] from rfl) (Reps.one (show Kd.M (Kd.int .i64) _ _ _ 6 [.int .i64 6] from rfl) (Reps.none _ _))))))))));intro v106 w6 ho7 hb hg_ hnew_;clear hg_ hnew_;(first | rw [← Ny105.out] at ho7 | (simp only [Int.reduceToNat] at ho7;rw [← Ny105.out] at ho7));have n0_ := aZ_ (Kd.R_lower ho7 (below_size T38_));have n1_ := aZ_ (IsS61.below T61_ hb);have n2_ := aZ_ (below_step T38_ hb);clear HI104;clear HB;have HO107 := n0_;have HI104 := n1_;have HB := n2_;clear n0_ n1_ n2_;clear hb ho7;obtain ⟨Ao8,co8,eo8⟩ := Kd.R_slice HO107.out;subst eo8) | ((with_reducible refine gate_callee (f := 44) rfl ?_);refine goesL_ (some 12) rfl rfl Try.func44 T21_ rfl #[.pointer (some ⟨g104,0,none⟩),.slice Ao8 y105.length co8] rfl T4_ ?_;(with_reducible refine (spec_l1PickInt.calls g104 t101 t102 t103 _ _ y105 t108 t109 t110 w _ ?side1 ?side2 ?side3 ?side4 ?side5 A3.out).mono ?_);(case side1 => repeat (first | (with_reducible first | exact HI104.out | apply IsS61.alloc | apply IsS61.drewN | apply IsS61.drew | apply IsS61.set_1 | apply IsS61.set_2) | exact HI104.out));(case side2 => repeat (first | (with_reducible first | exact HB.out | apply below_alloc | apply pw_below_drewN | apply below_drew1 | refine below_set ?_ (IsS61.ge HI104.out)) | exact HB.out));(case side3 => repeat (first | exact (Kd.R_reads' HO107.out).2.2 | (with_reducible refine Kd.C_alloc ?_ _) | (with_reducible refine Kd.C_drewN ?_ _) | (with_reducible refine Kd.C_drew ?_)));(case side4 => exact (Kd.R_reads' HO107.out).2.1);(case side5 => exact far_slice (IsS61.own_ne HI104.out HO107.out T66_));rintro e w9 ⟨rfl,hi,hb,hk⟩;refine ⟨_,rfl,?_⟩;have n0_ := aZ_ (Kd.R_mono (Kd.R_keep (IsS61.apart (show IsS61 w _ g104 t101 t102 t103 from by repeat (first | (with_reducible first | exact HI104.out | apply IsS61.alloc | apply IsS61.drewN | apply IsS61.drew | apply IsS61.set_1 | apply IsS61.set_2) | exact HI104.out)) T70_ T66_) hk (fun _ h => h.2)) (fun _ h => h.1));have n1_ := aZ_ (hb);have n2_ := aZ_ (hi);clear HO107;clear HB;clear HI104;have HO107 := n0_;have HB := n1_;have HI104 := n2_;clear n0_ n1_ n2_;(try clear hb);(try clear hb2);(try clear hk);(try clear hi)) | ((with_reducible refine gate_dst (N := 13) rfl ?_);refine Kd.R_lit (Kd.int .i64) _ 3 ?hg (N := 13) ?hd (xs := ([] : List Int)) (inner := []) (ok := fun _ => True) (okp := fun _ => True) ?hr ?hp (fun _ hk => hk) trivial (Below.refl _ _) (Nat.le_refl _) T67_ ?_;(case hd => rfl);(case hg => rfl);(case hr => first | (go_simp;done) | (go_simp;rfl));(case hp => exact (Reps.none _ _));intro v112 w10 ho11 hb hg_ hnew_;clear hg_ hnew_;(first | rw [← Ny111.out] at ho11 | (simp only [Int.reduceToNat] at ho11;rw [← Ny111.out] at ho11));have n0_ := aZ_ (Kd.R_elder' T70_ (Kd.R_base ho11) hb);have n1_ := aZ_ (Kd.R_lower (Kd.R_new' ho11 (Kd.R_lt T70_)) (below_size T38_));have n2_ := aZ_ (IsS61.below T61_ hb);have n3_ := aZ_ (below_step T38_ hb);clear HO107;clear HI104;clear HB;have HO107 := n0_;have HO113 := n1_;have HI104 := n2_;have HB := n3_;clear n0_ n1_ n2_ n3_;clear hb ho11) | ((with_reducible refine gate_callee (f := 45) rfl ?_);refine goesL_ (some 15) rfl rfl Try.func45 T21_ rfl #[.pointer (some ⟨g104,0,none⟩),.int .i64 4] rfl T4_ ?_;(with_reducible refine (spec_l1Below.calls g104 t101 t109 t110 4 t114 t115 t116 w _ ?side1 ?side2 A4.out).mono ?_);(case side1 => repeat (first | (with_reducible first | exact HI104.out | apply IsS61.alloc | apply IsS61.drewN | apply IsS61.drew | apply IsS61.set_1 | apply IsS61.set_2) | exact HI104.out));(case side2 => repeat (first | (with_reducible first | exact HB.out | apply below_alloc | apply pw_below_drewN | apply below_drew1 | refine below_set ?_ (IsS61.ge HI104.out)) | exact HB.out));rintro e w12 ⟨rfl,hi,hb,hk⟩;refine ⟨_,rfl,?_⟩;have n0_ := aZ_ (Kd.R_mono (Kd.R_keep (IsS61.apart (show IsS61 w _ g104 t101 t109 t110 from by repeat (first | (with_reducible first | exact HI104.out | apply IsS61.alloc | apply IsS61.drewN | apply IsS61.drew | apply IsS61.set_1 | apply IsS61.set_2) | exact HI104.out)) T70_ T66_) hk (fun _ h => h.2)) (fun _ h => h.1));have n1_ := aZ_ (Kd.R_mono (Kd.R_keep (IsS61.apart (show IsS61 w _ g104 t101 t109 t110 from by repeat (first | (with_reducible first | exact HI104.out | apply IsS61.alloc | apply IsS61.drewN | apply IsS61.drew | apply IsS61.set_1 | apply IsS61.set_2) | exact HI104.out)) (by (with_reducible repeat (first | apply Kd.R_alloc | apply Kd.R_drewN | apply Kd.R_drew));exact HO113.out) T66_) hk (fun _ h => h.2)) (fun _ h => h.1));have n2_ := aZ_ (hb);have n3_ := aZ_ (hi);clear HO107;clear HO113;clear HB;clear HI104;have HO107 := n0_;have HO113 := n1_;have HB := n2_;have HI104 := n3_;clear n0_ n1_ n2_ n3_;(try clear hb);(try clear hb2);(try clear hk);(try clear hi)))
 go_loopg [6,7] k (fun kq v6 v7 w' => ∃ (x6_1 : List Int) (x7_1 : Int) (x105001_1 : Int) (x105002_1 : Int),v7 = .int .i64 x7_1 ∧ Aside0 (spec_DrawTableOfPoints.l0 kq t108 x6_1 x7_1 t101 x105001_1 x105002_1 = some (r1,r2)) ∧ Aside0 (kq ≤ k) ∧ Aside0 (Kd.R (Kd.int .i64) 3 w' w.heap.size (fun _ => True) v6 x6_1) ∧ Aside0 (IsS61 w w' g104 t101 x105001_1 x105002_1) ∧ Aside0 (Below w.heap.size w w'))
 case atStart => exact ⟨(y111),(t114),(t115),(t116),T11_,H',⟨Nat.le_refl _⟩,⟨by (with_reducible repeat (first | apply Kd.R_alloc | apply Kd.R_drewN | apply Kd.R_drew));exact Kd.R_mono HO113.out (fun _ hk => trivial)⟩,⟨by repeat (first | (with_reducible first | exact HI104.out | apply IsS61.alloc | apply IsS61.drewN | apply IsS61.drew | apply IsS61.set_1 | apply IsS61.set_2) | exact HI104.out)⟩,⟨by repeat (first | (with_reducible first | exact HB.out | apply below_alloc | apply pw_below_drewN | apply below_drew1 | refine below_set ?_ (IsS61.ge HI104.out)) | exact HB.out)⟩⟩
 case round =>
  clear H'
  try clear c2
  try clear p2
  try clear c4
  obtain ⟨x6_1,x7_1,x105001_1,x105002_1,rfl,HA,HK1,HO_6,HI104,HB⟩ := hrel
  cases gk with
  | zero => exact absurd HA.out (by simp [spec_DrawTableOfPoints.l0])
  | succ k1 =>
   have H := HA.out
   clear HA
   simp only [spec_DrawTableOfPoints.l0] at H
   by_cases c13 : x7_1 > 0
   ·rw [if_pos c13] at H
    have c13b0 : decide (0 < x7_1) = true := decide_eq_true c13
    clear c13
    replace H := Option.bind_eq_some_iff.mp H
    obtain ⟨⟨t117,t118,t119⟩,A140,H⟩ := H
    replace H : (if x6_1.length < 17592186044416 then (spec_DrawTableOfPoints.l0 k1 t108 (x6_1 ++ [wrap64 (t117 - 1)]) (wrap64 (x7_1 - 1)) t101 t118 t119) else (none)) = some (r1,r2) := H
    have A14 := aZ_ A140
    clear A140
    by_cases c15 : x6_1.length < 17592186044416
    ·rw [if_pos c15] at H
     have LMc15 := aZ_ c15
     clear c15
     obtain ⟨y120,hy120⟩ : ∃ y_ : List Int,y_ = (x6_1 ++ [wrap64 (t117 - 1)]) := ⟨_,rfl⟩
     replace H : (spec_DrawTableOfPoints.l0 k1 t108 y120 (wrap64 (x7_1 - 1)) t101 t118 t119) = some (r1,r2) := by first | (rw [hy120];with_reducible exact H) | (have H2_ := (Option.bind_some _ _).symm.trans H;rw [hy120];with_reducible exact H2_) | (have H2_ := (Option.bind_some _ _).symm.trans H;with_reducible exact H2_) | with_reducible exact H | (rw [hy120];exact H) | exact H
     have Ny120 := aZ_ hy120
     clear hy120
     have H' := aZ_ H
     clear H
     go_wp2_with (first | ((with_reducible refine gate_callee (f := 45) rfl ?_);refine goesL_ (some 22) rfl rfl Try.func45 T21_ rfl #[.pointer (some ⟨g104,0,none⟩),.int .i64 17] rfl T4_ ?_;(with_reducible refine (spec_l1Below.calls g104 t101 x105001_1 x105002_1 17 t117 t118 t119 w _ ?side1 ?side2 A14.out).mono ?_);(case side1 => repeat (first | (with_reducible first | exact HI104.out | apply IsS61.alloc | apply IsS61.drewN | apply IsS61.drew | apply IsS61.set_1 | apply IsS61.set_2) | exact HI104.out));(case side2 => repeat (first | (with_reducible first | exact HB.out | apply below_alloc | apply pw_below_drewN | apply below_drew1 | refine below_set ?_ (IsS61.ge HI104.out)) | exact HB.out));rintro e w16 ⟨rfl,hi,hb,hk⟩;refine ⟨_,rfl,?_⟩;have n0_ := aZ_ (Kd.R_mono (Kd.R_keep (IsS61.apart (show IsS61 w _ g104 t101 x105001_1 x105002_1 from by repeat (first | (with_reducible first | exact HI104.out | apply IsS61.alloc | apply IsS61.drewN | apply IsS61.drew | apply IsS61.set_1 | apply IsS61.set_2) | exact HI104.out)) (by (with_reducible repeat (first | apply Kd.R_alloc | apply Kd.R_drewN | apply Kd.R_drew));exact HO_6.out) T66_) hk (fun _ h => h.2)) (fun _ h => h.1));have n1_ := aZ_ (hb);have n2_ := aZ_ (hi);clear HO_6;clear HB;clear HI104;have HO_6 := n0_;have HB := n1_;have HI104 := n2_;clear n0_ n1_ n2_;(try clear hb);(try clear hb2);(try clear hk);(try clear hi)) | ((with_reducible refine gate_builtin (b := .append) (xs := #[.tmp 20,.tmp 24]) rfl ?_);at_builtin;refine Kd.R_append (Kd.int .i64) (w0 := w) w.heap.size rfl (.tmp 20) (.tmp 24) 28 3 (.int .i64 0) 8 rfl Try.underlying28 info3 rfl T66_ T74_ u6 x6_1 (wrap64 (t117 - 1)) [.int .i64 (wrap64 (t117 - 1))] (fun _ => True) (fun _ => False) rfl rfl ?aP (fun _ hk => hk.elim) ?aF ?aO ?aB ?aS ?aL ?_;(case aP => exact rfl);(case aB => exact T38_);(case aF => exact (fun _ _ => trivial));(case aO => exact (by (with_reducible repeat (first | apply Kd.R_alloc | apply Kd.R_drewN | apply Kd.R_drew));exact HO_6.out));(case aS => exact (below_size T38_));(case aL => have := LMc15.out;omega);intro v121 w17 ho hb hg hat;rw [← Ny120.out] at ho;have n0_ := aZ_ (IsS61.grown T61_ hg (IsS61.own_ne HI104.out HO_6.out T66_));have n1_ := aZ_ (hb);have n2_ := aZ_ (ho);clear HI104;clear HB;clear HO_6;have HI104 := n0_;have HB := n1_;have HO122 := n2_;clear n0_ n1_ n2_;clear ho hb hg hat))
     go_roundg k1
     case measure => have := HK1.out;omega
     case rel => exact ⟨(y120),(wrap64 (x7_1 - 1)),(t118),(t119),T11_,H',⟨by have := HK1.out;omega⟩,⟨by (with_reducible repeat (first | apply Kd.R_alloc | apply Kd.R_drewN | apply Kd.R_drew));exact HO122.out⟩,⟨by repeat (first | (with_reducible first | exact HI104.out | apply IsS61.alloc | apply IsS61.drewN | apply IsS61.drew | apply IsS61.set_1 | apply IsS61.set_2) | exact HI104.out)⟩,⟨by repeat (first | (with_reducible first | exact HB.out | apply below_alloc | apply pw_below_drewN | apply below_drew1 | refine below_set ?_ (IsS61.ge HI104.out)) | exact HB.out)⟩⟩
    ·rw [if_neg c15] at H
     exact absurd H T67_
   ·rw [if_neg c13] at H
    have c13b0 : decide (0 < x7_1) = false := decide_eq_false c13
    clear c13
    simp only [Option.some.injEq,Prod.mk.injEq] at H
    obtain ⟨rfl,rfl⟩ := H
    go_wp2
    go_ret2
    exact ⟨_,by first | rfl | (simp [errW_none,errW_some] <;> rfl) | (simp [*,errW_none,errW_some] <;> rfl),by (with_reducible repeat (first | apply Kd.R_alloc | apply Kd.R_drewN | apply Kd.R_drew));exact HO_6.out,by repeat (first | (with_reducible first | exact HB.out | apply below_alloc | apply pw_below_drewN | apply below_drew1 | refine below_set ?_ (IsS61.ge HI104.out)) | exact HB.out)⟩
def spec_TableOfPoints.l0 : Nat → Int → List Int → Int → Int → Option (Int × Int × Bool)
 | 0,_,_,_,_ => none
 | k + 1,x0,x1,x6,x7 => if x7 < (x1.length : Int) then (if 0 ≤ x7 then (if 0 ≤ x0 then ((spec_l1In.f (rd x1 x7) 0 (wrap64 ((shl .i64 1 x0) - 1))).bind fun t104 => (if t104 = true then (if 0 ≤ (rd x1 x7) then (spec_TableOfPoints.l0 k x0 x1 (Go.bits .or .i64 x6 (shl .i64 1 (rd x1 x7))) (wrap64 (x7 + 1))) else (none)) else (some (0,0,false)))) else (none)) else (none)) else ((spec_MonotoneHull.f k x0 x6).bind fun bt106 => (some (bt106.1,bt106.2.1,bt106.2.2)))
def spec_TableOfPoints.f (k : Nat) (a0 : Int) (l1 : List Int) : Option (Int × Int × Bool) := (spec_l1In.f a0 0 5).bind fun t102 => (if t102 = true then (spec_TableOfPoints.l0 k a0 l1 0 0) else (some (0,0,false)))
def spec_TableOfPoints.T7 : Bool × List (List Nat × List Nat) := (true,[([],[]),([],[]),([0,1],[0,1]),([2],[2]),([],[]),([4],[4]),([5],[5]),([3,6],[3,6]),([7],[7])])
def spec_TableOfPoints.B7 : List Nat := [0,0,3,7,0,16,48,127,255]
theorem spec_TableOfPoints.tab7 : rtab .any (opsOf Try.f22 7) = spec_TableOfPoints.T7 := by kernel_rfl
theorem spec_TableOfPoints.bits7 : waitsOk spec_TableOfPoints.T7.2 spec_TableOfPoints.B7 = true := by kernel_rfl
set_option maxHeartbeats 8000000 in
set_option maxRecDepth 100000 in
theorem spec_TableOfPoints.calls (k : Nat) (a0 : Int) (A1 : Option Addr) (c1 : Nat) (l1 : List Int) (r1 : Int) (r2 : Int) (r3 : Bool) (w : World) (hr1 : Kd.C (Kd.int .i64) w A1 l1.length l1) (hc1 : l1.length ≤ c1) (h : spec_TableOfPoints.f k a0 l1 = some (r1,r2,r3)) :
  Calls Try.prog 22 #[.int .i64 a0,.slice A1 l1.length c1] w fun e w' => e = .returned (.tuple #[.agg #[.int .i64 r1,.int .i64 r2],.bool r3]) ∧ Below w.heap.size w w' := by
 have hu25 := Try.underlying25
 have HR1 := aZ_ hr1
 have HC1 := aZ_ hc1
 clear hr1 hc1
 have HB := aZ_ (Below.refl w.heap.size w)
 have H : ((spec_l1In.f a0 0 5).bind fun t102 => (if t102 = true then (spec_TableOfPoints.l0 k a0 l1 0 0) else (some (0,0,false)))) = some (r1,r2,r3) := h
 clear h
 replace H := Option.bind_eq_some_iff.mp H
 obtain ⟨t102,A30,H⟩ := H
 replace H : (if t102 = true then (spec_TableOfPoints.l0 k a0 l1 0 0) else (some (0,0,false))) = some (r1,r2,r3) := H
 have A3 := aZ_ A30
 clear A30
 by_cases c4 : t102 = true
 ·subst c4
  have H1 : (spec_TableOfPoints.l0 k a0 l1 0 0) = some (r1,r2,r3) := by rw [if_pos rfl] at H;exact H
  clear H
  have H := H1
  clear H1
  have H' := aZ_ H
  clear H
  go_enter Try.func22,Try.ntmps22
  go_wp2_with (first | ((with_reducible refine gate_dst (N := 4) rfl ?_);refine box_event ?hg (N := 4) ?hd (cs := #[.int .i64 0,.int .i64 0]) (t := 25) ?hr ?_;(case hd => rfl);(case hg => rfl);(case hr => first | (go_simp;done) | (go_simp;rfl));intro gb101 hg w5 hbox hb;have n0_ := aZ_ (below_step T6_ hb);have n1_ := aZ_ (hbox);have n2_ := aZ_ ((T2_ : w.heap.size ≤ gb101));have n3_ := aZ_ ((T2_ : w.heap.size ≤ gb101));clear HB;have HB := n0_;have BK101 := n1_;have GW101 := n2_;have GE101 := n3_;clear n0_ n1_ n2_ n3_;clear hb hbox hg) | ((with_reducible refine gate_callee (f := 46) rfl ?_);refine goesL_ (some 11) rfl rfl Try.func46 T21_ rfl #[.int .i64 a0,.int .i64 0,.int .i64 5] rfl T4_ ?_;(with_reducible refine (spec_l1In.calls a0 0 5 true _ A3.out).mono ?_);rintro e w' ⟨rfl,⟨nd,rfl⟩⟩;refine ⟨_,rfl,?_⟩))
  go_loopg [6,7] k (fun kq v6 v7 w' => ∃ (x6_1 : Int) (x7_1 : Int) (x102000_1 : Int) (x102001_1 : Int),v6 = .int .i64 x6_1 ∧ v7 = .int .i64 x7_1 ∧ Aside0 (spec_TableOfPoints.l0 kq a0 l1 x6_1 x7_1 = some (r1,r2,r3)) ∧ Aside0 (kq ≤ k) ∧ Aside0 (w'.heap[gb101]? = some (.cells #[.int .i64 x102000_1,.int .i64 x102001_1] 25 (0,0))) ∧ Aside0 (Below w.heap.size w w'))
  case atStart => exact ⟨(0),(0),(0),(0),T11_,T11_,H',⟨Nat.le_refl _⟩,⟨by (with_reducible repeat (first | refine blk_drewN ?_ _ | refine blk_drew ?_ | refine blk_alloc ?_ _));exact BK101.out⟩,⟨by repeat (first | (with_reducible first | exact HB.out | apply below_alloc | apply pw_below_drewN | apply below_drew1 | refine below_set ?_ GE101.out) | exact HB.out)⟩⟩
  case round =>
   clear H'
   try clear c1
   try clear c2
   try clear p2
   try clear c4
   obtain ⟨x6_1,x7_1,x102000_1,x102001_1,rfl,rfl,HA,HK1,BK101,HB⟩ := hrel
   cases gk with
   | zero => exact absurd HA.out (by simp [spec_TableOfPoints.l0])
   | succ k1 =>
    have H := HA.out
    clear HA
    simp only [spec_TableOfPoints.l0] at H
    by_cases c6 : x7_1 < (l1.length : Int)
    ·rw [if_pos c6] at H
     have c6b0 : decide (x7_1 < (l1.length : Int)) = true := decide_eq_true c6
     clear c6
     by_cases c7 : 0 ≤ x7_1
     ·rw [if_pos c7] at H
      have c7b0 : decide (0 ≤ x7_1) = true := decide_eq_true c7
      clear c7
      by_cases c8 : 0 ≤ a0
      ·rw [if_pos c8] at H
       have c8b0 := eq_true c8
       have c8b1 : decide (0 ≤ a0) = true := decide_eq_true c8
       clear c8
       obtain ⟨ji9,hji9⟩ : ∃ j_ : Int,(shl .i64 1 a0) = j_ := ⟨_,rfl⟩
       replace H : ((spec_l1In.f (rd l1 x7_1) 0 (wrap64 ((ji9) - 1))).bind fun t104 => (if t104 = true then (if 0 ≤ (rd l1 x7_1) then (spec_TableOfPoints.l0 k1 a0 l1 (Go.bits .or .i64 x6_1 (shl .i64 1 (rd l1 x7_1))) (wrap64 (x7_1 + 1))) else (none)) else (some (0,0,false)))) = some (r1,r2,r3) := by first | (rw [hji9] at H;exact H) | (simp only [hji9] at H ⊢;exact H)
       have hji9_ : (IntKind.i64.wrap (1 * 2 ^ min a0.toNat 64)) = ji9 := hji9
       have hji9z : a0 ≤ 64 → (IntKind.i64.wrap (1 * 2 ^ a0.toNat)) = ji9 := shl_small hji9
       have hji9u : (IntKind.i64.wrap (2 ^ min a0.toNat 64)) = ji9 := by have h_ := hji9_;rw [Int.one_mul] at h_;exact h_
       have hji9v : a0 ≤ 64 → (IntKind.i64.wrap (2 ^ a0.toNat)) = ji9 := fun hle_ => by have h_ := hji9z hle_;rw [Int.one_mul] at h_;exact h_
       have hji9y : (wrap64 (1 * 2 ^ min a0.toNat 64)) = ji9 := (i64_w _).symm.trans hji9_
       have hji9x : a0 ≤ 64 → (wrap64 (1 * 2 ^ a0.toNat)) = ji9 := fun h_ => (i64_w _).symm.trans (hji9z h_)
       replace H := Option.bind_eq_some_iff.mp H
       obtain ⟨t104,A100,H⟩ := H
       replace H : (if t104 = true then (if 0 ≤ (rd l1 x7_1) then (spec_TableOfPoints.l0 k1 a0 l1 (Go.bits .or .i64 x6_1 (shl .i64 1 (rd l1 x7_1))) (wrap64 (x7_1 + 1))) else (none)) else (some (0,0,false))) = some (r1,r2,r3) := H
       have A10 := aZ_ A100
       clear A100
       by_cases c11 : t104 = true
       ·subst c11
        have H1 : (if 0 ≤ (rd l1 x7_1) then (spec_TableOfPoints.l0 k1 a0 l1 (Go.bits .or .i64 x6_1 (shl .i64 1 (rd l1 x7_1))) (wrap64 (x7_1 + 1))) else (none)) = some (r1,r2,r3) := by rw [if_pos rfl] at H;exact H
        clear H
        have H := H1
        clear H1
        by_cases c12 : 0 ≤ (rd l1 x7_1)
        ·rw [if_pos c12] at H
         have c12b0 := eq_true c12
         have c12b1 : decide (0 ≤ (rd l1 x7_1)) = true := decide_eq_true c12
         clear c12
         obtain ⟨ji13,hji13⟩ : ∃ j_ : Int,(shl .i64 1 (rd l1 x7_1)) = j_ := ⟨_,rfl⟩
         replace H : (spec_TableOfPoints.l0 k1 a0 l1 (Go.bits .or .i64 x6_1 (ji13)) (wrap64 (x7_1 + 1))) = some (r1,r2,r3) := by first | (rw [hji13] at H;exact H) | (simp only [hji13] at H ⊢;exact H)
         (try rw [hji13] at A10)
         have hji13_ : (IntKind.i64.wrap (1 * 2 ^ min (rd l1 x7_1).toNat 64)) = ji13 := hji13
         have hji13z : (rd l1 x7_1) ≤ 64 → (IntKind.i64.wrap (1 * 2 ^ (rd l1 x7_1).toNat)) = ji13 := shl_small hji13
         have hji13u : (IntKind.i64.wrap (2 ^ min (rd l1 x7_1).toNat 64)) = ji13 := by have h_ := hji13_;rw [Int.one_mul] at h_;exact h_
         have hji13v : (rd l1 x7_1) ≤ 64 → (IntKind.i64.wrap (2 ^ (rd l1 x7_1).toNat)) = ji13 := fun hle_ => by have h_ := hji13z hle_;rw [Int.one_mul] at h_;exact h_
         have hji13y : (wrap64 (1 * 2 ^ min (rd l1 x7_1).toNat 64)) = ji13 := (i64_w _).symm.trans hji13_
         have hji13x : (rd l1 x7_1) ≤ 64 → (wrap64 (1 * 2 ^ (rd l1 x7_1).toNat)) = ji13 := fun h_ => (i64_w _).symm.trans (hji13z h_)
         have H' := aZ_ H
         clear H
         try go_wp2
         have n0_ := aZ_ (blk_drew BK101.out)
         have n1_ := aZ_ (below_drew1 HB.out)
         clear BK101
         clear HB
         have BK101 := n0_
         have HB := n1_
         clear n0_ n1_
         have p103 : 0 ≤ (x7_1 : Int) := of_decide_eq_true T31_
         have q103 : x7_1 < (l1.length : Int) := of_decide_eq_true T31_
         obtain ⟨ad103,e103,hx103_0⟩ := Kd.at_int HR1.out x7_1 p103 q103
         have hw103_0 := hx103_0
         cases e103
         replace hx103_0 := (HB.out.cell (World.block_lt_of_cell? w _ hx103_0)).trans hx103_0
         replace p103 := eq_true p103
         replace q103 := eq_true q103
         refine start_ (n := 9) (S := fun w' => w'.cell? (ad103.add (x7_1).toNat) = some (.int .i64 (rd l1 x7_1))) (ds := []) #[false,false,false,false,false,false,false,false,false] T21_ rfl rfl (((HB.out.cell (World.block_lt_of_cell? w _ hw103_0)).trans hw103_0)) (fun hHeld => ?_);refine with_tabW spec_TableOfPoints.tab7 spec_TableOfPoints.bits7 (fun HT_ HW_ => ?_)
         generalize wr.drew = w14 at BK101 HB hx103_0 hHeld ⊢
         refine pZ_ 0 (some 20) #[true,false,false,false,false,false,false,false,false] ?_
         refine pZ_ 1 (some 21) #[true,true,false,false,false,false,false,false,false] ?_
         refine pZ_ 2 (some 22) #[true,true,true,false,false,false,false,false,false] ?_
         refine pZ_ 4 (some 24) #[true,true,true,false,true,false,false,false,false] ?_
         refine pZ_ 5 (some 25) #[true,true,true,false,true,true,false,false,false] ?_
         refine pZ_ 6 (some 26) #[true,true,true,false,true,true,true,false,false] ?_
         refine take_ (i := 3) (N := some 23) (v := ?_) (a' := ?_) #[true,true,true,true,true,true,true,false,false] rfl rfl (take_ofW HT_.out HW_.out T21_) (fun _ _ _ h => h) (Or.inl ⟨by rfl,?_⟩) hHeld ?_ ?_
         rotate_left
         ·intro w' s0
          go_simp
          with_reducible rfl
         rotate_left
         ·simp only [Act.put,List.setIfInBounds_toArray,List.set_cons_zero,List.set_cons_succ,i64_w,i32_w]
          rfl
         refine one_ (i := 7) (N := some 27) #[true,true,true,true,true,true,true,true,false] rfl rfl (one_of HT_.out T21_) T66_ (fun K hK => ?_)
         refine goes_ Try.func46 T21_ rfl #[.int .i64 (rd l1 x7_1),.int .i64 0,.int .i64 (wrap64 ((ji9) - 1))] (by rfl) rfl rfl T72_ ?_
         with_reducible refine (spec_l1In.calls (rd l1 x7_1) 0 (wrap64 ((ji9) - 1)) true _ A10.out).mono ?_
         rintro e w' ⟨rfl,⟨nd,rfl⟩⟩
         refine ⟨_,rfl,?_⟩
         refine hK.out _ _ (((HB.out.cell (World.block_lt_of_cell? w _ hw103_0)).trans hw103_0)) (fun hHeld => ?_)
         clear hK K
         refine norm_ (a' := ?_) ?_ ?_
         rotate_left
         ·show Act.put _ (some 27) _ = _
          simp only [Act.put,List.setIfInBounds_toArray,List.set_cons_zero,List.set_cons_succ,i64_w,i32_w]
          rfl
         refine pZ_ 8 (some 28) #[true,true,true,true,true,true,true,true,true] ?_
         refine done_ (done_of HT_.out T21_) ?_
         have p105 : 0 ≤ (x7_1 : Int) := of_decide_eq_true T31_
         have q105 : x7_1 < (l1.length : Int) := of_decide_eq_true T31_
         obtain ⟨ad105,e105,hx105_0⟩ := Kd.at_int HR1.out x7_1 p105 q105
         obtain rfl : ad103 = ad105 := (by injection e105)
         replace hx105_0 := (HB.out.cell (World.block_lt_of_cell? w _ hx105_0)).trans hx105_0
         replace p105 := eq_true p105
         replace q105 := eq_true q105
         try go_wp2
         go_roundg k1
         case measure => have := HK1.out;omega
         case rel => exact ⟨(Go.bits .or .i64 x6_1 (ji13)),(wrap64 (x7_1 + 1)),(x102000_1),(x102001_1),(by first | rfl | (simp;done) | (simp only [← hji13] <;> (first | rfl | simp)) | (simp [*];done)),T11_,H',⟨by have := HK1.out;omega⟩,⟨by (with_reducible repeat (first | refine blk_drewN ?_ _ | refine blk_drew ?_ | refine blk_alloc ?_ _));exact BK101.out⟩,⟨by repeat (first | (with_reducible first | exact HB.out | apply below_alloc | apply pw_below_drewN | apply below_drew1 | refine below_set ?_ GE101.out) | exact HB.out)⟩⟩
        ·rw [if_neg c12] at H
         exact absurd H T67_
       ·replace c11 := Bool.eq_false_iff.mpr c11
        subst c11
        have H1 : (some (0,0,false)) = some (r1,r2,r3) := by rw [if_neg (show ¬ (false = true) by decide)] at H;exact H
        clear H
        have H := H1
        clear H1
        simp only [Option.some.injEq,Prod.mk.injEq] at H
        obtain ⟨rfl,rfl,rfl⟩ := H
        try go_wp2
        have n0_ := aZ_ (blk_drew BK101.out)
        have n1_ := aZ_ (below_drew1 HB.out)
        clear BK101
        clear HB
        have BK101 := n0_
        have HB := n1_
        clear n0_ n1_
        have p103 : 0 ≤ (x7_1 : Int) := of_decide_eq_true T31_
        have q103 : x7_1 < (l1.length : Int) := of_decide_eq_true T31_
        obtain ⟨ad103,e103,hx103_0⟩ := Kd.at_int HR1.out x7_1 p103 q103
        have hw103_0 := hx103_0
        cases e103
        replace hx103_0 := (HB.out.cell (World.block_lt_of_cell? w _ hx103_0)).trans hx103_0
        replace p103 := eq_true p103
        replace q103 := eq_true q103
        refine start_ (n := 9) (S := fun w' => w'.cell? (ad103.add (x7_1).toNat) = some (.int .i64 (rd l1 x7_1))) (ds := []) #[false,false,false,false,false,false,false,false,false] T21_ rfl rfl (((HB.out.cell (World.block_lt_of_cell? w _ hw103_0)).trans hw103_0)) (fun hHeld => ?_);refine with_tabW spec_TableOfPoints.tab7 spec_TableOfPoints.bits7 (fun HT_ HW_ => ?_)
        generalize wr.drew = w15 at BK101 HB hx103_0 hHeld ⊢
        refine pZ_ 0 (some 20) #[true,false,false,false,false,false,false,false,false] ?_
        refine pZ_ 1 (some 21) #[true,true,false,false,false,false,false,false,false] ?_
        refine pZ_ 2 (some 22) #[true,true,true,false,false,false,false,false,false] ?_
        refine pZ_ 4 (some 24) #[true,true,true,false,true,false,false,false,false] ?_
        refine pZ_ 5 (some 25) #[true,true,true,false,true,true,false,false,false] ?_
        refine pZ_ 6 (some 26) #[true,true,true,false,true,true,true,false,false] ?_
        refine take_ (i := 3) (N := some 23) (v := ?_) (a' := ?_) #[true,true,true,true,true,true,true,false,false] rfl rfl (take_ofW HT_.out HW_.out T21_) (fun _ _ _ h => h) (Or.inl ⟨by rfl,?_⟩) hHeld ?_ ?_
        rotate_left
        ·intro w' s0
         go_simp
         with_reducible rfl
        rotate_left
        ·simp only [Act.put,List.setIfInBounds_toArray,List.set_cons_zero,List.set_cons_succ,i64_w,i32_w]
         rfl
        refine one_ (i := 7) (N := some 27) #[true,true,true,true,true,true,true,true,false] rfl rfl (one_of HT_.out T21_) T66_ (fun K hK => ?_)
        refine goes_ Try.func46 T21_ rfl #[.int .i64 (rd l1 x7_1),.int .i64 0,.int .i64 (wrap64 ((ji9) - 1))] (by rfl) rfl rfl T72_ ?_
        with_reducible refine (spec_l1In.calls (rd l1 x7_1) 0 (wrap64 ((ji9) - 1)) false _ A10.out).mono ?_
        rintro e w' ⟨rfl,⟨nd,rfl⟩⟩
        refine ⟨_,rfl,?_⟩
        refine hK.out _ _ (((HB.out.cell (World.block_lt_of_cell? w _ hw103_0)).trans hw103_0)) (fun hHeld => ?_)
        clear hK K
        refine norm_ (a' := ?_) ?_ ?_
        rotate_left
        ·show Act.put _ (some 27) _ = _
         simp only [Act.put,List.setIfInBounds_toArray,List.set_cons_zero,List.set_cons_succ,i64_w,i32_w]
         rfl
        refine pZ_ 8 (some 28) #[true,true,true,true,true,true,true,true,true] ?_
        refine done_ (done_of HT_.out T21_) ?_
        have hcz16_0 : w15.cell? ⟨gb101,0,none⟩ = some (.int .i64 x102000_1) := (blk_cell BK101.out 0).trans rfl
        have hcz16_1 : w15.cell? ⟨gb101,1,none⟩ = some (.int .i64 x102001_1) := (blk_cell BK101.out 1).trans rfl
        have hfz16_0 := blk_frozen BK101.out 0
        have hfz16_1 := blk_frozen BK101.out 1
        try go_wp2
        refine bodyPost_ret (results_ct rfl _ _ gb101 25 #[.int .i64 0,.int .i64 0] (0,0) _ rfl (by (with_reducible repeat (first | refine blk_drewN ?_ _ | refine blk_drew ?_ | refine blk_alloc ?_ _));refine blk_put (cs := #[.int .i64 0,.int .i64 x102001_1]) ?_ 1 _ rfl;(with_reducible repeat (first | refine blk_drewN ?_ _ | refine blk_drew ?_ | refine blk_alloc ?_ _));refine blk_put (cs := #[.int .i64 x102000_1,.int .i64 x102001_1]) ?_ 0 _ rfl;(with_reducible repeat (first | refine blk_drewN ?_ _ | refine blk_drew ?_ | refine blk_alloc ?_ _));exact BK101.out) Try.underlying25 rfl T21_) rfl ?_
        exact ⟨by first | rfl | (simp [errW_none,errW_some] <;> rfl) | (simp only [← hji9];first | rfl | (simp [errW_none,errW_some] <;> rfl)) | (simp [*,errW_none,errW_some] <;> rfl),by repeat (first | (with_reducible first | exact HB.out | apply below_alloc | apply pw_below_drewN | apply below_drew1 | refine below_set ?_ GE101.out) | exact HB.out)⟩
      ·rw [if_neg c8] at H
       exact absurd H T67_
     ·rw [if_neg c7] at H
      exact absurd H T67_
    ·rw [if_neg c6] at H
     have c6b0 : decide (x7_1 < (l1.length : Int)) = false := decide_eq_false c6
     clear c6
     replace H := Option.bind_eq_some_iff.mp H
     obtain ⟨⟨t106,t107,t108⟩,A170,H⟩ := H
     replace H : (some (t106,t107,t108)) = some (r1,r2,r3) := H
     have A17 := aZ_ A170
     clear A170
     simp only [Option.some.injEq,Prod.mk.injEq] at H
     obtain ⟨rfl,rfl,rfl⟩ := H
     go_wp2_with (first | ((with_reducible refine gate_callee (f := 16) rfl ?_);refine goesL_ (some 41) rfl rfl Try.func16 T21_ rfl #[.agg #[.int .i64 a0,.int .i64 x6_1]] rfl T4_ ?_;(with_reducible refine (spec_MonotoneHull.calls k1 a0 x6_1 t106 t107 t108 _ A17.out).mono ?_);rintro e w18 ⟨rfl,hb⟩;refine ⟨_,rfl,?_⟩;have n0_ := aZ_ (blk_below (g := gb101) (o := .cells #[.int .i64 x102000_1,.int .i64 x102001_1] 25 (0,0)) T1_ hb);have n1_ := aZ_ (below_step T3_ hb);clear BK101;clear HB;have BK101 := n0_;have HB := n1_;clear n0_ n1_;(try clear hb);(try clear hb2);(try clear hk);(try clear hi)) | ((with_reducible refine gate_dst (N := 8) rfl ?_);refine box_event ?hg (N := 8) ?hd (cs := #[.int .i64 0,.int .i64 0]) (t := 25) ?hr ?_;(case hd => rfl);(case hg => rfl);(case hr => first | (go_simp;done) | (go_simp;rfl));intro gb109 hg w19 hbox hb;have n0_ := aZ_ (blk_below (g := gb101) (o := .cells #[.int .i64 x102000_1,.int .i64 x102001_1] 25 (0,0)) T1_ hb);have n1_ := aZ_ (below_step T3_ hb);have n2_ := aZ_ (hbox);have n3_ := aZ_ ((T5_ : w.heap.size ≤ gb109));have n4_ := aZ_ ((T5_ : w.heap.size ≤ gb109));have n5_ := aZ_ ((by rw [hg];exact Nat.ne_of_lt (blk_lt (g := gb101) (o := .cells #[.int .i64 x102000_1,.int .i64 x102001_1] 25 (0,0)) T1_) : gb101 ≠ gb109));have n6_ := aZ_ ((by rw [hg];exact Nat.ne_of_gt (blk_lt (g := gb101) (o := .cells #[.int .i64 x102000_1,.int .i64 x102001_1] 25 (0,0)) T1_) : gb109 ≠ gb101));clear BK101;clear HB;have BK101 := n0_;have HB := n1_;have BK109 := n2_;have GW109 := n3_;have GE109 := n4_;have NB101_109 := n5_;have NB109_101 := n6_;clear n0_ n1_ n2_ n3_ n4_ n5_ n6_;clear hb hbox hg;have hnb20 := NB109_101.out;have hnc20 := NB101_109.out;have hcz21_0 : w19.cell? ⟨gb109,0,none⟩ = some (.int .i64 0) := (blk_cell BK109.out 0).trans rfl;have hcz21_1 : w19.cell? ⟨gb109,1,none⟩ = some (.int .i64 0) := (blk_cell BK109.out 1).trans rfl;have hfz21_0 := blk_frozen BK109.out 0;have hfz21_1 := blk_frozen BK109.out 1;have hcz22_0 : w19.cell? ⟨gb101,0,none⟩ = some (.int .i64 x102000_1) := (blk_cell BK101.out 0).trans rfl;have hcz22_1 : w19.cell? ⟨gb101,1,none⟩ = some (.int .i64 x102001_1) := (blk_cell BK101.out 1).trans rfl;have hfz22_0 := blk_frozen BK101.out 0;have hfz22_1 := blk_frozen BK101.out 1))
     refine bodyPost_ret (results_ct rfl _ _ gb101 25 #[.int .i64 t106,.int .i64 t107] (0,0) _ rfl (by (with_reducible repeat (first | refine blk_drewN ?_ _ | refine blk_drew ?_ | refine blk_alloc ?_ _));refine blk_put (cs := #[.int .i64 t106,.int .i64 x102001_1]) ?_ 1 _ rfl;(with_reducible repeat (first | refine blk_drewN ?_ _ | refine blk_drew ?_ | refine blk_alloc ?_ _));refine blk_put (cs := #[.int .i64 x102000_1,.int .i64 x102001_1]) ?_ 0 _ rfl;(with_reducible repeat (first | refine blk_drewN ?_ _ | refine blk_drew ?_ | refine blk_alloc ?_ _));refine blk_far ?_ NB101_109.out _;(with_reducible repeat (first | refine blk_drewN ?_ _ | refine blk_drew ?_ | refine blk_alloc ?_ _));refine blk_far ?_ NB101_109.out _;(with_reducible repeat (first | refine blk_drewN ?_ _ | refine blk_drew ?_ | refine blk_alloc ?_ _));exact BK101.out) Try.underlying25 rfl T21_) rfl ?_
     exact ⟨by first | rfl | (simp [errW_none,errW_some] <;> rfl) | (simp [*,errW_none,errW_some] <;> rfl),by repeat (first | (with_reducible first | exact HB.out | apply below_alloc | apply pw_below_drewN | apply below_drew1 | refine below_set ?_ GE101.out | refine below_set ?_ GE109.out) | exact HB.out)⟩
 ·replace c4 := Bool.eq_false_iff.mpr c4
  subst c4
  have H1 : (some (0,0,false)) = some (r1,r2,r3) := by rw [if_neg (show ¬ (false = true) by decide)] at H;exact H
  clear H
  have H := H1
  clear H1
  simp only [Option.some.injEq,Prod.mk.injEq] at H
  obtain ⟨rfl,rfl,rfl⟩ := H
  go_enter Try.func22,Try.ntmps22
  go_wp2_with (first | ((with_reducible refine gate_dst (N := 4) rfl ?_);refine box_event ?hg (N := 4) ?hd (cs := #[.int .i64 0,.int .i64 0]) (t := 25) ?hr ?_;(case hd => rfl);(case hg => rfl);(case hr => first | (go_simp;done) | (go_simp;rfl));intro gb101 hg w23 hbox hb;have n0_ := aZ_ (below_step T6_ hb);have n1_ := aZ_ (hbox);have n2_ := aZ_ ((T2_ : w.heap.size ≤ gb101));have n3_ := aZ_ ((T2_ : w.heap.size ≤ gb101));clear HB;have HB := n0_;have BK101 := n1_;have GW101 := n2_;have GE101 := n3_;clear n0_ n1_ n2_ n3_;clear hb hbox hg) | ((with_reducible refine gate_callee (f := 46) rfl ?_);refine goesL_ (some 11) rfl rfl Try.func46 T21_ rfl #[.int .i64 a0,.int .i64 0,.int .i64 5] rfl T4_ ?_;(with_reducible refine (spec_l1In.calls a0 0 5 false _ A3.out).mono ?_);rintro e w' ⟨rfl,⟨nd,rfl⟩⟩;refine ⟨_,rfl,?_⟩;(try (rw [drewN_self w23];generalize hq_ : World.drewN w23 _ = w23;have n0_ : Aside0 (w23.heap[gb101]? = some (.cells #[.int .i64 0,.int .i64 0] 25 (0,0))) := ⟨by rw [← hq_];exact T1_⟩;have n1_ : Aside0 (Below w.heap.size w w23) := ⟨by rw [← hq_];exact T3_⟩;clear BK101 HB hq_;have BK101 := n0_;have HB := n1_;clear n0_ n1_));have hcz24_0 : w23.cell? ⟨gb101,0,none⟩ = some (.int .i64 0) := (blk_cell BK101.out 0).trans rfl;have hcz24_1 : w23.cell? ⟨gb101,1,none⟩ = some (.int .i64 0) := (blk_cell BK101.out 1).trans rfl;have hfz24_0 := blk_frozen BK101.out 0;have hfz24_1 := blk_frozen BK101.out 1))
  refine bodyPost_ret (results_ct rfl _ _ gb101 25 #[.int .i64 0,.int .i64 0] (0,0) _ rfl (by (with_reducible repeat (first | refine blk_drewN ?_ _ | refine blk_drew ?_ | refine blk_alloc ?_ _));refine blk_put (cs := #[.int .i64 0,.int .i64 0]) ?_ 1 _ rfl;(with_reducible repeat (first | refine blk_drewN ?_ _ | refine blk_drew ?_ | refine blk_alloc ?_ _));refine blk_put (cs := #[.int .i64 0,.int .i64 0]) ?_ 0 _ rfl;(with_reducible repeat (first | refine blk_drewN ?_ _ | refine blk_drew ?_ | refine blk_alloc ?_ _));exact BK101.out) Try.underlying25 rfl T21_) rfl ?_
  exact ⟨by first | rfl | (simp [errW_none,errW_some] <;> rfl) | (simp [*,errW_none,errW_some] <;> rfl),by repeat (first | (with_reducible first | exact HB.out | apply below_alloc | apply pw_below_drewN | apply below_drew1 | refine below_set ?_ GE101.out) | exact HB.out)⟩
def spec_DrawCountMonotone.f (k : Nat) (l0 : List Int) : Option (Int) := (spec_l1New.f k l0).bind fun bt101 => ((spec_l1Below.f bt101.1 bt101.2.1 bt101.2.2 6).bind fun bt105 => (some (wrap64 (bt105.1 - 1))))
set_option maxHeartbeats 8000000 in
set_option maxRecDepth 100000 in
theorem spec_DrawCountMonotone.calls (k : Nat) (A0 : Option Addr) (c0 : Nat) (l0 : List Int) (r : Int) (w : World) (hr0 : Kd.C (Kd.int .u8) w A0 l0.length l0) (hc0 : l0.length ≤ c0) (h : spec_DrawCountMonotone.f k l0 = some r) :
  Calls Try.prog 23 #[.slice A0 l0.length c0] w fun e w' => e = .returned (.int .i64 r) ∧ Below w.heap.size w w' := by
 have HR0 := aZ_ hr0
 have HC0 := aZ_ hc0
 clear hr0 hc0
 have HB := aZ_ (Below.refl w.heap.size w)
 have H : ((spec_l1New.f k l0).bind fun bt101 => ((spec_l1Below.f bt101.1 bt101.2.1 bt101.2.2 6).bind fun bt105 => (some (wrap64 (bt105.1 - 1))))) = some r := h
 clear h
 replace H := Option.bind_eq_some_iff.mp H
 obtain ⟨⟨t101,t102,t103⟩,A20,H⟩ := H
 replace H : ((spec_l1Below.f t101 t102 t103 6).bind fun bt105 => (some (wrap64 (bt105.1 - 1)))) = some r := H
 have A2 := aZ_ A20
 clear A20
 replace H := Option.bind_eq_some_iff.mp H
 obtain ⟨⟨t105,t106,t107⟩,A30,H⟩ := H
 replace H : (some (wrap64 (t105 - 1))) = some r := H
 have A3 := aZ_ A30
 clear A30
 obtain rfl := Option.some.inj H
 go_enter Try.func23,Try.ntmps23
 go_wp2_with (first | ((with_reducible refine gate_callee (f := 29) rfl ?_);refine goesL_ (some 4) rfl rfl Try.func29 T21_ rfl #[.slice A0 l0.length c0] rfl T4_ ?_;(with_reducible refine (spec_l1New.calls k _ _ l0 t101 t102 t103 w _ ?side1 ?side2 ?side3 A2.out).mono ?_);(case side1 => repeat (first | (with_reducible first | exact HB.out | apply below_alloc | apply pw_below_drewN | apply below_drew1) | exact HB.out));(case side2 => exact HR0.out);(case side3 => exact HC0.out);rintro e w4 ⟨g104,rfl,hi,hb,hb2⟩;refine ⟨_,rfl,?_⟩;have n0_ := aZ_ (hb);have n1_ := aZ_ (hi);clear HB;have HB := n0_;have HI104 := n1_;clear n0_ n1_;(try clear hb);(try clear hb2);(try clear hk);(try clear hi)) | ((with_reducible refine gate_callee (f := 45) rfl ?_);refine goesL_ (some 5) rfl rfl Try.func45 T21_ rfl #[.pointer (some ⟨g104,0,none⟩),.int .i64 6] rfl T4_ ?_;(with_reducible refine (spec_l1Below.calls g104 t101 t102 t103 6 t105 t106 t107 w _ ?side1 ?side2 A3.out).mono ?_);(case side1 => repeat (first | (with_reducible first | exact HI104.out | apply IsS61.alloc | apply IsS61.drewN | apply IsS61.drew | apply IsS61.set_1 | apply IsS61.set_2) | exact HI104.out));(case side2 => repeat (first | (with_reducible first | exact HB.out | apply below_alloc | apply pw_below_drewN | apply below_drew1 | refine below_set ?_ (IsS61.ge HI104.out)) | exact HB.out));rintro e w5 ⟨rfl,hi,hb,hk⟩;refine ⟨_,rfl,?_⟩;have n0_ := aZ_ (hb);have n1_ := aZ_ (hi);clear HB;clear HI104;have HB := n0_;have HI104 := n1_;clear n0_ n1_;(try clear hb);(try clear hb2);(try clear hk);(try clear hi)))
 go_ret
 exact ⟨by first | rfl | (simp [errW_none,errW_some] <;> rfl) | (simp [*,errW_none,errW_some] <;> rfl),by repeat (first | (with_reducible first | exact HB.out | apply below_alloc | apply pw_below_drewN | apply below_drew1 | refine below_set ?_ (IsS61.ge HI104.out)) | exact HB.out)⟩
def spec_DrawIsSelfDual.f (k : Nat) (l0 : List Int) : Option (Int × Int) := (spec_l1New.f k l0).bind fun bt102 => ((spec_l1Once.f bt102.1 bt102.2.1 bt102.2.2 2).bind fun bt106 => (if bt106.1 = true then ((spec_l1PickInt.f bt102.1 bt106.2.1 bt106.2.2 (([232,170,204,150,142] : List Int))).bind fun bt112 => (some (3,bt112.1))) else ((spec_l15Draw.f k bt102.1 bt106.2.1 bt106.2.2).bind fun bt115 => (some (bt115.1,bt115.2.1)))))
set_option maxHeartbeats 8000000 in
set_option maxRecDepth 100000 in
theorem spec_DrawIsSelfDual.calls (k : Nat) (A0 : Option Addr) (c0 : Nat) (l0 : List Int) (r1 : Int) (r2 : Int) (w : World) (hr0 : Kd.C (Kd.int .u8) w A0 l0.length l0) (hc0 : l0.length ≤ c0) (h : spec_DrawIsSelfDual.f k l0 = some (r1,r2)) :
  Calls Try.prog 24 #[.slice A0 l0.length c0] w fun e w' => e = .returned (.agg #[.int .i64 r1,.int .i64 r2]) ∧ Below w.heap.size w w' := by
 have hu25 := Try.underlying25
 have HR0 := aZ_ hr0
 have HC0 := aZ_ hc0
 clear hr0 hc0
 have HB := aZ_ (Below.refl w.heap.size w)
 have H : ((spec_l1New.f k l0).bind fun bt102 => ((spec_l1Once.f bt102.1 bt102.2.1 bt102.2.2 2).bind fun bt106 => (if bt106.1 = true then ((spec_l1PickInt.f bt102.1 bt106.2.1 bt106.2.2 (([232,170,204,150,142] : List Int))).bind fun bt112 => (some (3,bt112.1))) else ((spec_l15Draw.f k bt102.1 bt106.2.1 bt106.2.2).bind fun bt115 => (some (bt115.1,bt115.2.1)))))) = some (r1,r2) := h
 clear h
 replace H := Option.bind_eq_some_iff.mp H
 obtain ⟨⟨t102,t103,t104⟩,A20,H⟩ := H
 replace H : ((spec_l1Once.f t102 t103 t104 2).bind fun bt106 => (if bt106.1 = true then ((spec_l1PickInt.f t102 bt106.2.1 bt106.2.2 (([232,170,204,150,142] : List Int))).bind fun bt112 => (some (3,bt112.1))) else ((spec_l15Draw.f k t102 bt106.2.1 bt106.2.2).bind fun bt115 => (some (bt115.1,bt115.2.1))))) = some (r1,r2) := H
 have A2 := aZ_ A20
 clear A20
 replace H := Option.bind_eq_some_iff.mp H
 obtain ⟨⟨t106,t107,t108⟩,A30,H⟩ := H
 replace H : (if t106 = true then ((spec_l1PickInt.f t102 t107 t108 (([232,170,204,150,142] : List Int))).bind fun bt112 => (some (3,bt112.1))) else ((spec_l15Draw.f k t102 t107 t108).bind fun bt115 => (some (bt115.1,bt115.2.1)))) = some (r1,r2) := H
 have A3 := aZ_ A30
 clear A30
 by_cases c4 : t106 = true
 ·subst c4
  have H1 : ((spec_l1PickInt.f t102 t107 t108 (([232,170,204,150,142] : List Int))).bind fun bt112 => (some (3,bt112.1))) = some (r1,r2) := by rw [if_pos rfl] at H;exact H
  clear H
  have H := H1
  clear H1
  obtain ⟨y109,hy109⟩ : ∃ y_ : List Int,y_ = (([232,170,204,150,142] : List Int)) := ⟨_,rfl⟩
  replace H : ((spec_l1PickInt.f t102 t107 t108 y109).bind fun bt112 => (some (3,bt112.1))) = some (r1,r2) := by first | (rw [hy109];with_reducible exact H) | (have H2_ := (Option.bind_some _ _).symm.trans H;rw [hy109];with_reducible exact H2_) | (have H2_ := (Option.bind_some _ _).symm.trans H;with_reducible exact H2_) | with_reducible exact H | (rw [hy109];exact H) | exact H
  have Ny109 := aZ_ hy109
  clear hy109
  replace H := Option.bind_eq_some_iff.mp H
  obtain ⟨⟨t112,t113,t114⟩,A50,H⟩ := H
  replace H : (some (3,t112)) = some (r1,r2) := H
  have A5 := aZ_ A50
  clear A50
  simp only [Option.some.injEq,Prod.mk.injEq] at H
  obtain ⟨rfl,rfl⟩ := H
  go_enter Try.func24,Try.ntmps24
  go_wp2_with (first | ((with_reducible refine gate_dst (N := 2) rfl ?_);refine box_event ?hg (N := 2) ?hd (cs := #[.int .i64 0,.int .i64 0]) (t := 25) ?hr ?_;(case hd => rfl);(case hg => rfl);(case hr => first | (go_simp;done) | (go_simp;rfl));intro gb101 hg w6 hbox hb;have n0_ := aZ_ (below_step T6_ hb);have n1_ := aZ_ (hbox);have n2_ := aZ_ ((T2_ : w.heap.size ≤ gb101));have n3_ := aZ_ ((T2_ : w.heap.size ≤ gb101));clear HB;have HB := n0_;have BK101 := n1_;have GW101 := n2_;have GE101 := n3_;clear n0_ n1_ n2_ n3_;clear hb hbox hg) | ((with_reducible refine gate_callee (f := 29) rfl ?_);refine goesL_ (some 5) rfl rfl Try.func29 T21_ rfl #[.slice A0 l0.length c0] rfl T4_ ?_;(with_reducible refine (spec_l1New.calls k _ _ l0 t102 t103 t104 w _ ?side1 ?side2 ?side3 A2.out).mono ?_);(case side1 => repeat (first | (with_reducible first | exact HB.out | apply below_alloc | apply pw_below_drewN | apply below_drew1 | refine below_set ?_ GE101.out) | exact HB.out));(case side2 => exact HR0.out);(case side3 => exact HC0.out);rintro e w7 ⟨g105,rfl,hi,hb,hb2⟩;refine ⟨_,rfl,?_⟩;have n0_ := aZ_ (blk_below (g := gb101) (o := .cells #[.int .i64 0,.int .i64 0] 25 (0,0)) T1_ hb2);have n1_ := aZ_ (hb);have n2_ := aZ_ (hi);have n3_ := aZ_ (IsS61.ne_blk hi (blk_below (g := gb101) (o := .cells #[.int .i64 0,.int .i64 0] 25 (0,0)) T1_ hb2) T66_);have n4_ := aZ_ (Ne.symm (IsS61.ne_blk hi (blk_below (g := gb101) (o := .cells #[.int .i64 0,.int .i64 0] 25 (0,0)) T1_ hb2) T66_));clear BK101;clear HB;have BK101 := n0_;have HB := n1_;have HI105 := n2_;have NB105_101 := n3_;have NB101_105 := n4_;clear n0_ n1_ n2_ n3_ n4_;(try clear hb);(try clear hb2);(try clear hk);(try clear hi)) | ((with_reducible refine gate_callee (f := 47) rfl ?_);refine goesL_ (some 7) rfl rfl Try.func47 T21_ rfl #[.pointer (some ⟨g105,0,none⟩),.int .i64 2] rfl T4_ ?_;(with_reducible refine (spec_l1Once.calls g105 t102 t103 t104 2 true t107 t108 w _ ?side1 ?side2 A3.out).mono ?_);(case side1 => repeat (first | (with_reducible first | exact HI105.out | apply IsS61.alloc | apply IsS61.drewN | apply IsS61.drew | apply IsS61.set_1 | apply IsS61.set_2 | refine IsS61.far ?_ NB105_101.out _) | exact HI105.out));(case side2 => repeat (first | (with_reducible first | exact HB.out | apply below_alloc | apply pw_below_drewN | apply below_drew1 | refine below_set ?_ (IsS61.ge HI105.out) | refine below_set ?_ GE101.out) | exact HB.out));rintro e w8 ⟨rfl,hi,hb,hk⟩;refine ⟨_,rfl,?_⟩;have n0_ := aZ_ (KeepBut.blk hk (g' := gb101) (o := .cells #[.int .i64 0,.int .i64 0] 25 (0,0)) T1_ NB101_105.out T67_);have n1_ := aZ_ (hb);have n2_ := aZ_ (hi);clear BK101;clear HB;clear HI105;have BK101 := n0_;have HB := n1_;have HI105 := n2_;clear n0_ n1_ n2_;(try clear hb);(try clear hb2);(try clear hk);(try clear hi)) | ((with_reducible refine gate_dst (N := 9) rfl ?_);refine Kd.R_lit (Kd.int .i64) _ 3 ?hg (N := 9) ?hd (xs := ([232,170,204,150,142] : List Int)) (inner := [.int .i64 232,.int .i64 170,.int .i64 204,.int .i64 150,.int .i64 142]) (ok := fun _ => True) (okp := fun _ => True) ?hr ?hp (fun _ hk => hk) trivial (Below.refl _ _) (Nat.le_refl _) T67_ ?_;(case hd => rfl);(case hg => rfl);(case hr => first | (go_simp;done) | (go_simp;rfl));(case hp => exact (Reps.one (show Kd.M (Kd.int .i64) _ _ _ 232 [.int .i64 232] from rfl) (Reps.one (show Kd.M (Kd.int .i64) _ _ _ 170 [.int .i64 170] from rfl) (Reps.one (show Kd.M (Kd.int .i64) _ _ _ 204 [.int .i64 204] from rfl) (Reps.one (show Kd.M (Kd.int .i64) _ _ _ 150 [.int .i64 150] from rfl) (Reps.one (show Kd.M (Kd.int .i64) _ _ _ 142 [.int .i64 142] from rfl) (Reps.none _ _)))))));intro v110 w9 ho10 hb hg_ hnew_;clear hg_ hnew_;(first | rw [← Ny109.out] at ho10 | (simp only [Int.reduceToNat] at ho10;rw [← Ny109.out] at ho10));have n0_ := aZ_ (Kd.R_lower ho10 (below_size T71_));have n1_ := aZ_ (blk_below (g := gb101) (o := .cells #[.int .i64 0,.int .i64 0] 25 (0,0)) T1_ hb);have n2_ := aZ_ (IsS61.below (by repeat (first | (with_reducible first | exact HI105.out | apply IsS61.alloc | apply IsS61.drewN | apply IsS61.drew | apply IsS61.set_1 | apply IsS61.set_2 | refine IsS61.far ?_ NB105_101.out _) | exact HI105.out)) hb);have n3_ := aZ_ (below_step T71_ hb);clear BK101;clear HI105;clear HB;have HO111 := n0_;have BK101 := n1_;have HI105 := n2_;have HB := n3_;clear n0_ n1_ n2_ n3_;clear hb ho10;obtain ⟨Ao11,co11,eo11⟩ := Kd.R_slice HO111.out;subst eo11) | ((with_reducible refine gate_callee (f := 44) rfl ?_);refine goesL_ (some 10) rfl rfl Try.func44 T21_ rfl #[.pointer (some ⟨g105,0,none⟩),.slice Ao11 y109.length co11] rfl T4_ ?_;(with_reducible refine (spec_l1PickInt.calls g105 t102 t107 t108 _ _ y109 t112 t113 t114 w _ ?side1 ?side2 ?side3 ?side4 ?side5 A5.out).mono ?_);(case side1 => repeat (first | (with_reducible first | exact HI105.out | apply IsS61.alloc | apply IsS61.drewN | apply IsS61.drew | apply IsS61.set_1 | apply IsS61.set_2 | refine IsS61.far ?_ NB105_101.out _) | exact HI105.out));(case side2 => repeat (first | (with_reducible first | exact HB.out | apply below_alloc | apply pw_below_drewN | apply below_drew1 | refine below_set ?_ (IsS61.ge HI105.out) | refine below_set ?_ GE101.out) | exact HB.out));(case side3 => repeat (first | exact (Kd.R_reads' HO111.out).2.2 | (with_reducible refine Kd.C_alloc ?_ _) | (with_reducible refine Kd.C_drewN ?_ _) | (with_reducible refine Kd.C_drew ?_)));(case side4 => exact (Kd.R_reads' HO111.out).2.1);(case side5 => exact far_slice (IsS61.own_ne HI105.out HO111.out T66_));rintro e w12 ⟨rfl,hi,hb,hk⟩;refine ⟨_,rfl,?_⟩;have n0_ := aZ_ (KeepBut.blk hk (g' := gb101) (o := .cells #[.int .i64 0,.int .i64 0] 25 (0,0)) T1_ NB101_105.out T67_);have n1_ := aZ_ (Kd.R_mono (Kd.R_keep (IsS61.apart (show IsS61 w _ g105 t102 t107 t108 from by repeat (first | (with_reducible first | exact HI105.out | apply IsS61.alloc | apply IsS61.drewN | apply IsS61.drew | apply IsS61.set_1 | apply IsS61.set_2 | refine IsS61.far ?_ NB105_101.out _) | exact HI105.out)) (by (with_reducible repeat (first | apply Kd.R_alloc | apply Kd.R_drewN | apply Kd.R_drew));exact HO111.out) T66_) hk (fun _ h => h.2)) (fun _ h => h.1));have n2_ := aZ_ (hb);have n3_ := aZ_ (hi);clear BK101;clear HO111;clear HB;clear HI105;have BK101 := n0_;have HO111 := n1_;have HB := n2_;have HI105 := n3_;clear n0_ n1_ n2_ n3_;(try clear hb);(try clear hb2);(try clear hk);(try clear hi);have hnb13 := NB101_105.out;have hnc13 := NB105_101.out;have hcz14_0 : w12.cell? ⟨gb101,0,none⟩ = some (.int .i64 0) := (blk_cell BK101.out 0).trans rfl;have hcz14_1 : w12.cell? ⟨gb101,1,none⟩ = some (.int .i64 0) := (blk_cell BK101.out 1).trans rfl;have hfz14_0 := blk_frozen BK101.out 0;have hfz14_1 := blk_frozen BK101.out 1))
  refine bodyPost_ret (results_cell_row rfl _ _ gb101 25 #[.int .i64 3,.int .i64 t112] (0,0) _ rfl (by (with_reducible repeat (first | refine blk_drewN ?_ _ | refine blk_drew ?_ | refine blk_alloc ?_ _));refine blk_put (cs := #[.int .i64 3,.int .i64 0]) ?_ 1 _ rfl;(with_reducible repeat (first | refine blk_drewN ?_ _ | refine blk_drew ?_ | refine blk_alloc ?_ _));refine blk_put (cs := #[.int .i64 0,.int .i64 0]) ?_ 0 _ rfl;(with_reducible repeat (first | refine blk_drewN ?_ _ | refine blk_drew ?_ | refine blk_alloc ?_ _));exact BK101.out) Try.underlying25 rfl T21_) rfl ?_
  exact ⟨by first | rfl | (simp [errW_none,errW_some] <;> rfl) | (simp [*,errW_none,errW_some] <;> rfl),by repeat (first | (with_reducible first | exact HB.out | apply below_alloc | apply pw_below_drewN | apply below_drew1 | refine below_set ?_ (IsS61.ge HI105.out) | refine below_set ?_ GE101.out) | exact HB.out)⟩
 ·replace c4 := Bool.eq_false_iff.mpr c4
  subst c4
  have H1 : ((spec_l15Draw.f k t102 t107 t108).bind fun bt115 => (some (bt115.1,bt115.2.1))) = some (r1,r2) := by rw [if_neg (show ¬ (false = true) by decide)] at H;exact H
  clear H
  have H := H1
  clear H1
  replace H := Option.bind_eq_some_iff.mp H
  obtain ⟨⟨t115,t116,t117,t118⟩,A150,H⟩ := H
  replace H : (some (t115,t116)) = some (r1,r2) := H
  have A15 := aZ_ A150
  clear A150
  simp only [Option.some.injEq,Prod.mk.injEq] at H
  obtain ⟨rfl,rfl⟩ := H
  go_enter Try.func24,Try.ntmps24
  go_wp2_with (first | ((with_reducible refine gate_dst (N := 2) rfl ?_);refine box_event ?hg (N := 2) ?hd (cs := #[.int .i64 0,.int .i64 0]) (t := 25) ?hr ?_;(case hd => rfl);(case hg => rfl);(case hr => first | (go_simp;done) | (go_simp;rfl));intro gb101 hg w16 hbox hb;have n0_ := aZ_ (below_step T6_ hb);have n1_ := aZ_ (hbox);have n2_ := aZ_ ((T2_ : w.heap.size ≤ gb101));have n3_ := aZ_ ((T2_ : w.heap.size ≤ gb101));clear HB;have HB := n0_;have BK101 := n1_;have GW101 := n2_;have GE101 := n3_;clear n0_ n1_ n2_ n3_;clear hb hbox hg) | ((with_reducible refine gate_callee (f := 29) rfl ?_);refine goesL_ (some 5) rfl rfl Try.func29 T21_ rfl #[.slice A0 l0.length c0] rfl T4_ ?_;(with_reducible refine (spec_l1New.calls k _ _ l0 t102 t103 t104 w _ ?side1 ?side2 ?side3 A2.out).mono ?_);(case side1 => repeat (first | (with_reducible first | exact HB.out | apply below_alloc | apply pw_below_drewN | apply below_drew1 | refine below_set ?_ GE101.out) | exact HB.out));(case side2 => exact HR0.out);(case side3 => exact HC0.out);rintro e w17 ⟨g105,rfl,hi,hb,hb2⟩;refine ⟨_,rfl,?_⟩;have n0_ := aZ_ (blk_below (g := gb101) (o := .cells #[.int .i64 0,.int .i64 0] 25 (0,0)) T1_ hb2);have n1_ := aZ_ (hb);have n2_ := aZ_ (hi);have n3_ := aZ_ (IsS61.ne_blk hi (blk_below (g := gb101) (o := .cells #[.int .i64 0,.int .i64 0] 25 (0,0)) T1_ hb2) T66_);have n4_ := aZ_ (Ne.symm (IsS61.ne_blk hi (blk_below (g := gb101) (o := .cells #[.int .i64 0,.int .i64 0] 25 (0,0)) T1_ hb2) T66_));clear BK101;clear HB;have BK101 := n0_;have HB := n1_;have HI105 := n2_;have NB105_101 := n3_;have NB101_105 := n4_;clear n0_ n1_ n2_ n3_ n4_;(try clear hb);(try clear hb2);(try clear hk);(try clear hi)) | ((with_reducible refine gate_callee (f := 47) rfl ?_);refine goesL_ (some 7) rfl rfl Try.func47 T21_ rfl #[.pointer (some ⟨g105,0,none⟩),.int .i64 2] rfl T4_ ?_;(with_reducible refine (spec_l1Once.calls g105 t102 t103 t104 2 false t107 t108 w _ ?side1 ?side2 A3.out).mono ?_);(case side1 => repeat (first | (with_reducible first | exact HI105.out | apply IsS61.alloc | apply IsS61.drewN | apply IsS61.drew | apply IsS61.set_1 | apply IsS61.set_2 | refine IsS61.far ?_ NB105_101.out _) | exact HI105.out));(case side2 => repeat (first | (with_reducible first | exact HB.out | apply below_alloc | apply pw_below_drewN | apply below_drew1 | refine below_set ?_ (IsS61.ge HI105.out) | refine below_set ?_ GE101.out) | exact HB.out));rintro e w18 ⟨rfl,hi,hb,hk⟩;refine ⟨_,rfl,?_⟩;have n0_ := aZ_ (KeepBut.blk hk (g' := gb101) (o := .cells #[.int .i64 0,.int .i64 0] 25 (0,0)) T1_ NB101_105.out T67_);have n1_ := aZ_ (hb);have n2_ := aZ_ (hi);clear BK101;clear HB;clear HI105;have BK101 := n0_;have HB := n1_;have HI105 := n2_;clear n0_ n1_ n2_;(try clear hb);(try clear hb2);(try clear hk);(try clear hi)) | ((with_reducible refine gate_callee (f := 28) rfl ?_);refine goesL_ (some 13) rfl rfl Try.func28 T21_ rfl #[.pointer (some ⟨g105,0,none⟩)] rfl T4_ ?_;(with_reducible refine (spec_l15Draw.calls k g105 t102 t107 t108 t115 t116 t117 t118 w _ ?side1 ?side2 A15.out).mono ?_);(case side1 => repeat (first | (with_reducible first | exact HI105.out | apply IsS61.alloc | apply IsS61.drewN | apply IsS61.drew | apply IsS61.set_1 | apply IsS61.set_2 | refine IsS61.far ?_ NB105_101.out _) | exact HI105.out));(case side2 => repeat (first | (with_reducible first | exact HB.out | apply below_alloc | apply pw_below_drewN | apply below_drew1 | refine below_set ?_ (IsS61.ge HI105.out) | refine below_set ?_ GE101.out) | exact HB.out));rintro e w19 ⟨rfl,hi,hb,hk⟩;refine ⟨_,rfl,?_⟩;have n0_ := aZ_ (KeepBut.blk hk (g' := gb101) (o := .cells #[.int .i64 0,.int .i64 0] 25 (0,0)) T1_ NB101_105.out T67_);have n1_ := aZ_ (hb);have n2_ := aZ_ (hi);clear BK101;clear HB;clear HI105;have BK101 := n0_;have HB := n1_;have HI105 := n2_;clear n0_ n1_ n2_;(try clear hb);(try clear hb2);(try clear hk);(try clear hi);have hnb20 := NB101_105.out;have hnc20 := NB105_101.out;have hcz21_0 : w19.cell? ⟨gb101,0,none⟩ = some (.int .i64 0) := (blk_cell BK101.out 0).trans rfl;have hcz21_1 : w19.cell? ⟨gb101,1,none⟩ = some (.int .i64 0) := (blk_cell BK101.out 1).trans rfl;have hfz21_0 := blk_frozen BK101.out 0;have hfz21_1 := blk_frozen BK101.out 1))
  refine bodyPost_ret (results_cell_row rfl _ _ gb101 25 #[.int .i64 t115,.int .i64 t116] (0,0) _ rfl (by (with_reducible repeat (first | refine blk_drewN ?_ _ | refine blk_drew ?_ | refine blk_alloc ?_ _));refine blk_put (cs := #[.int .i64 t115,.int .i64 0]) ?_ 1 _ rfl;(with_reducible repeat (first | refine blk_drewN ?_ _ | refine blk_drew ?_ | refine blk_alloc ?_ _));refine blk_put (cs := #[.int .i64 0,.int .i64 0]) ?_ 0 _ rfl;(with_reducible repeat (first | refine blk_drewN ?_ _ | refine blk_drew ?_ | refine blk_alloc ?_ _));exact BK101.out) Try.underlying25 rfl T21_) rfl ?_
  exact ⟨by first | rfl | (simp [errW_none,errW_some] <;> rfl) | (simp [*,errW_none,errW_some] <;> rfl),by repeat (first | (with_reducible first | exact HB.out | apply below_alloc | apply pw_below_drewN | apply below_drew1 | refine below_set ?_ (IsS61.ge HI105.out) | refine below_set ?_ GE101.out) | exact HB.out)⟩
set_option maxHeartbeats 400000 in
set_option maxRecDepth 100000 in
theorem impl_countTables_1.any (n x : Int) (c : Nat) (hc : c < 4611686018427387904) (b : Bool) (g g1 g2 : Nat) (lb : Array Value) (eg : ∀ args w,(callFunc g args).run Try.prog w = .ok (.enter g args) w) (W : World) (hne : g1 ≠ g2)
  (h1 : W.heap[g1]? = some (.cells #[.func (.func g) #[] lb] 27 (0,0))) (h2 : W.heap[g2]? = some (.cells #[.int .i64 c] 3 (0,0)))
  (hp : ∀ W' : World,Below W.heap.size W W' → Gives Try.prog g lb #[.agg #[.int .i64 n,.int .i64 x]] (.bool b) W') :
  Calls Try.prog 63 #[.agg #[.int .i64 n,.int .i64 x],.pointer (some ⟨g1,0,none⟩),.pointer (some ⟨g2,0,none⟩)] W fun e w' => e = .returned (.tuple #[]) ∧ w'.heap[g1]? = some (.cells #[.func (.func g) #[] lb] 27 (0,0)) ∧ w'.heap[g2]? = some (.cells #[.int .i64 (c + b.toNat : Nat)] 3 (0,0)) ∧ Below g2 W w' := by
 have hu := Try.underlying25
 have hl1 := blk_lt h1
 have hl2 := blk_lt h2
 have hcall := hp (W.alloc (.cells #[.int .i64 n,.int .i64 x] 25 (0,0))) (below_alloc (Below.refl _ _) _)
 unfold Gives at hcall
 have hc0 : (W.alloc (.cells #[.int .i64 n,.int .i64 x] 25 (0,0))).cell? ⟨g1,0,none⟩ = some (.func (.func g) #[] lb) := (blk_cell (blk_alloc h1 _) 0).trans rfl
 have hd0 : (W.alloc (.cells #[.int .i64 n,.int .i64 x] 25 (0,0))).cell? ⟨W.heap.size,0,none⟩ = some (.int .i64 n) := (blk_cell (blk_new _ _) 0).trans rfl
 have hd1 : (W.alloc (.cells #[.int .i64 n,.int .i64 x] 25 (0,0))).cell? ⟨W.heap.size,1,none⟩ = some (.int .i64 x) := (blk_cell (blk_new _ _) 1).trans rfl
 go_enter Try.func63,Try.ntmps63
 cases b with
 | true =>
  go_wp2_with (go_at_fn g;refine hcall.mono ?_;rintro e w' ⟨rfl,hb'⟩;have K1 := blk_below (blk_alloc h1 _) hb';have K2 := blk_below (blk_alloc h2 _) hb';have HB := below_step (below_alloc (Below.refl _ _) _) hb';have hx0 : w'.cell? ⟨g2,0,none⟩ = some (.int .i64 c) := (blk_cell K2 0).trans rfl;have hf0 : w'.frozen? ⟨g2,0,none⟩ = false := blk_frozen K2 0)
  go_end0
  refine ⟨rfl,?_,?_,?_⟩
  ·exact blk_far K1 (fun h => hne h) _
  ·exact blk_put K2 0 _ T67_
  ·exact (HB.mono (Nat.le_of_lt hl2)).setCell (Nat.le_refl _) _
 | false =>
  go_wp2_with (go_at_fn g;refine hcall.mono ?_;rintro e w' ⟨rfl,hb'⟩;have K1 := blk_below (blk_alloc h1 _) hb';have K2 := blk_below (blk_alloc h2 _) hb';have HB := below_step (below_alloc (Below.refl _ _) _) hb';have hx0 : w'.cell? ⟨g2,0,none⟩ = some (.int .i64 c) := (blk_cell K2 0).trans rfl;have hf0 : w'.frozen? ⟨g2,0,none⟩ = false := blk_frozen K2 0)
  go_end0
  exact ⟨rfl,K1,K2,HB.mono (Nat.le_of_lt hl2)⟩
set_option maxHeartbeats 400000 in
set_option maxRecDepth 100000 in
theorem impl_allTables.any (n : Nat) (hn : n ≤ 4) (p : Nat → Bool) (g g1 g2 : Nat) (lb : Array Value) (eg : ∀ args w,(callFunc g args).run Try.prog w = .ok (.enter g args) w) (hne : g1 ≠ g2)
  (hp : ∀ x : Nat,x < 2 ^ 2 ^ n → ∀ W' : World,Gives Try.prog g lb #[.agg #[.int .i64 n,.int .i64 x]] (.bool (p x)) W') (w : World)
  (h1 : w.heap[g1]? = some (.cells #[.func (.func g) #[] lb] 27 (0,0))) (h2 : w.heap[g2]? = some (.cells #[.int .i64 0] 3 (0,0))) :
  Calls Try.prog 62 #[.int .i64 n,.func (.func 63) #[] #[.pointer (some ⟨g1,0,none⟩),.pointer (some ⟨g2,0,none⟩)]] w fun e w' => e = .returned (.tuple #[]) ∧ w'.heap[g2]? = some (.cells #[.int .i64 (B.cntN p (2 ^ 2 ^ n) : Nat)] 3 (0,0)) ∧ Below g2 w w' := by
 have hu := Try.underlying25
 have HP := aZ_ hp
 have HG := aZ_ eg
 have H1 := aZ_ h1
 have H2 := aZ_ h2
 have HNE := aZ_ hne
 have eg1 := enters_of Try.func63 T21_ rfl
 clear hp eg h1 h2 hne
 have h63 : (n : Int) ≤ 64 := by omega
 have h0 : (0 : Int) ≤ n := by omega
 obtain ⟨M,hM⟩ : ∃ M : Nat,M = 2 ^ 2 ^ n := ⟨_,rfl⟩
 have hsh : ∀ n : Fin 5,wrap64 (2 ^ min (IntKind.u64.wrap (2 ^ n.val)).toNat 64) = ((2 ^ 2 ^ n.val : Nat) : Int) ∧ 2 ^ 2 ^ n.val ≤ 65536 := by decide +kernel
 obtain ⟨hwr,hM1⟩ := hsh ⟨n,by omega⟩
 rw [← hM] at hwr hM1
 clear hsh
 have HM := aZ_ hM
 clear hM
 go_enter Try.func62,Try.ntmps62
 go_wp2
 clear hwr
 go_loopg [8] M (fun gg v8 wr => ∃ x : Nat,x ≤ M ∧ M - x ≤ gg ∧ v8 = .int .i64 x ∧ Aside0 (wr.heap[g1]? = some (.cells #[.func (.func g) #[] lb] 27 (0,0))) ∧ Aside0 (wr.heap[g2]? = some (.cells #[.int .i64 (B.cntN p x : Nat)] 3 (0,0))) ∧ Aside0 (Below g2 w wr))
 case atStart => exact ⟨0,Nat.zero_le _,by omega,rfl,H1,⟨by simpa [B.cntN] using H2.out⟩,⟨Below.refl _ _⟩⟩
 case round =>
  obtain ⟨x,hx,hg,rfl,BK1,BK2,HB⟩ := hrel
  by_cases hlt : x < M
  ·have hltz : (x : Int) < (M : Int) := by omega
   have hcall := impl_countTables_1.any n x (B.cntN p x) (by have := B.cntN_le p x;omega) (p x) g g1 g2 lb HG.out wr HNE.out BK1.out BK2.out (fun W' _ => HP.out x (by rw [← HM.out];exact hlt) W')
   go_wp2_with (go_at_call 63;refine hcall.mono ?_;rintro e w' ⟨rfl,k1,k2,hb'⟩;have BK1' := aZ_ k1;have BK2' := aZ_ k2;have HB' := aZ_ (HB.out.trans hb');clear hb' k1 k2)
   go_roundg (M - (x + 1))
   case measure => omega
   case rel => exact ⟨x + 1,by omega,by omega,by go_num,BK1',BK2',HB'⟩
  ·have hltz : ¬ (x : Int) < (M : Int) := by omega
   obtain rfl : x = M := by omega
   go_wp2
   go_end0
   rw [← HM.out]
   exact ⟨rfl,BK2.out,HB.out⟩
set_option maxHeartbeats 400000 in
set_option maxRecDepth 100000 in
theorem impl_countTables.upto (m : Int) (n : Nat) (hnm : (n : Int) ≤ m) (hn : n ≤ 4) (p : Nat → Bool) (g : Nat) (eg : ∀ args w,(callFunc g args).run Try.prog w = .ok (.enter g args) w)
  (hp : ∀ x : Nat,x < 2 ^ 2 ^ n → ∀ W' : World,Gives Try.prog g #[] #[.agg #[.int .i64 n,.int .i64 x]] (.bool (p x)) W') (w : World) :
  Calls Try.prog 48 #[.int .i64 n,.int .i64 m,.func (.func g) #[] #[]] w fun e w' => e = .returned (.int .i64 (B.cntN p (2 ^ 2 ^ n) : Nat)) ∧ Below w.heap.size w w' := by
 have hu := Try.underlying25
 have HP := aZ_ hp
 have HG := aZ_ eg
 have HN := aZ_ hn
 clear hp eg
 have h0 : (0 : Int) ≤ n := by omega
 have h1 : ¬ (n : Int) < 0 := by omega
 have h4 : ¬ m < n := by omega
 have k1 := blk_alloc (blk_new w (.cells #[.func (.func g) #[] #[]] 27 (0,0))) (.cells #[.int .i64 0] 3 (0,0))
 have k2 : ((w.alloc (.cells #[.func (.func g) #[] #[]] 27 (0,0))).alloc (.cells #[.int .i64 0] 3 (0,0))).heap[w.heap.size + 1]? = some (.cells #[.int .i64 0] 3 (0,0)) := by simpa using blk_new (w.alloc (.cells #[.func (.func g) #[] #[]] 27 (0,0))) (.cells #[.int .i64 0] 3 (0,0))
 have kb := below_alloc (below_alloc (Below.refl w.heap.size w) (.cells #[.func (.func g) #[] #[]] 27 (0,0))) (.cells #[.int .i64 0] 3 (0,0))
 go_enter Try.func48,Try.ntmps48
 go_wp2_with (go_at_call 62;refine (impl_allTables.any n HN.out p g w.heap.size (w.heap.size + 1) #[] HG.out T74_ HP.out _ k1 k2).mono ?_;rintro e w' ⟨rfl,BK,hb⟩;have hc0 : w'.cell? ⟨w.heap.size + 1,0,none⟩ = some (.int .i64 (B.cntN p (2 ^ 2 ^ n) : Nat)) := (blk_cell BK 0).trans rfl)
 go_ret
 exact ⟨rfl,kb.trans (hb.mono (Nat.le_succ _))⟩
theorem impl_countTables.any (n : Nat) (hn : n ≤ 4) (p : Nat → Bool) (g : Nat) (eg : ∀ args w,(callFunc g args).run Try.prog w = .ok (.enter g args) w)
  (hp : ∀ x : Nat,x < 2 ^ 2 ^ n → ∀ W' : World,Gives Try.prog g #[] #[.agg #[.int .i64 n,.int .i64 x]] (.bool (p x)) W') (w : World) :
  Calls Try.prog 48 #[.int .i64 n,.int .i64 4,.func (.func g) #[] #[]] w fun e w' => e = .returned (.int .i64 (B.cntN p (2 ^ 2 ^ n) : Nat)) ∧ Below w.heap.size w w' := impl_countTables.upto 4 n T74_ hn p g eg hp w
def impl_CountMonotone.p (n x : Nat) : Bool := (impl_Table_isMonotone.f 200 n x) == some true
def impl_CountMonotone.f (a0 : Int) : Option Int := if a0 < 0 then some (-1) else if 4 < a0 then some (-1) else if B.allN (fun x => (impl_Table_isMonotone.f 200 a0 x).isSome) (2 ^ 2 ^ a0.toNat) = true then some ((B.cntN (impl_CountMonotone.p a0.toNat) (2 ^ 2 ^ a0.toNat) : Nat) : Int) else none
set_option maxHeartbeats 400000 in
set_option maxRecDepth 100000 in
theorem impl_CountMonotone.calls (a0 r : Int) (w : World) (h : impl_CountMonotone.f a0 = some r) :
  Calls Try.prog 25 #[.int .i64 a0] w fun e w' => e = .returned (.int .i64 r) ∧ Below w.heap.size w w' := by
 unfold impl_CountMonotone.f at h
 by_cases h1 : a0 < 0
 ·rw [if_pos h1] at h
  cases h
  go_enter Try.func25,Try.ntmps25
  go_wp2
  go_ret
  exact ⟨rfl,below_alloc (Below.refl _ _) _⟩
 ·rw [if_neg h1] at h
  by_cases h2 : 4 < a0
  ·rw [if_pos h2] at h
   cases h
   go_enter Try.func25,Try.ntmps25
   go_wp2
   go_ret
   exact ⟨rfl,below_alloc (Below.refl _ _) _⟩
  ·rw [if_neg h2] at h
   split at h
   next ha =>
    obtain ⟨n,rfl⟩ := Int.eq_ofNat_of_zero_le (T74_ : 0 ≤ a0)
    simp only [Option.some.injEq,Int.toNat_natCast] at h ha
    subst h
    rw [B.allN_iff] at ha
    have eg := enters_of Try.func31 T21_ rfl
    have HC := impl_countTables.any n T74_ (impl_CountMonotone.p n) 31 eg (fun x hx W => by
     have hs := ha x hx
     obtain ⟨b,hb⟩ := Option.isSome_iff_exists.mp hs
     have e : impl_CountMonotone.p n x = b := by unfold impl_CountMonotone.p;rw [hb];cases b <;> rfl
     rw [e]
     exact impl_Table_isMonotone.calls 200 n x b W hb) w
    clear ha eg
    go_enter Try.func25,Try.ntmps25
    go_wp2_with (go_at_call 48;refine HC.mono ?_;rintro e w' ⟨rfl,hb⟩)
    go_ret
    exact ⟨rfl,hb⟩
   next => cases h
def spec_CountMonotone.l0 : Nat → Int → Int → Int → Option (Int)
 | 0,_,_,_ => none
 | k + 1,x0,x3,x4 => (spec_l2Full.f x0).bind fun t102 => (if x4 ≤ t102 then ((spec_l15Monotone.f k x0 x4).bind fun t103 => (if t103 = true then (spec_CountMonotone.l0 k x0 (wrap64 (x3 + 1)) (wrap64 (x4 + 1))) else (spec_CountMonotone.l0 k x0 x3 (wrap64 (x4 + 1))))) else (some x3))
def spec_CountMonotone.f (k : Nat) (a0 : Int) : Option (Int) := (spec_l1In.f a0 0 4).bind fun t101 => (if t101 = true then (spec_CountMonotone.l0 k a0 0 0) else (some (-1)))
set_option maxHeartbeats 8000000 in
set_option maxRecDepth 100000 in
theorem spec_CountMonotone.calls (k : Nat) (a0 : Int) (r : Int) (w : World) (h : spec_CountMonotone.f k a0 = some r) :
  Calls Try.prog 26 #[.int .i64 a0] w fun e w' => e = .returned (.int .i64 r) ∧ Below w.heap.size w w' := by
 have hu25 := Try.underlying25
 have HB := aZ_ (Below.refl w.heap.size w)
 have H : ((spec_l1In.f a0 0 4).bind fun t101 => (if t101 = true then (spec_CountMonotone.l0 k a0 0 0) else (some (-1)))) = some r := h
 clear h
 replace H := Option.bind_eq_some_iff.mp H
 obtain ⟨t101,A20,H⟩ := H
 replace H : (if t101 = true then (spec_CountMonotone.l0 k a0 0 0) else (some (-1))) = some r := H
 have A2 := aZ_ A20
 clear A20
 by_cases c3 : t101 = true
 ·subst c3
  have H1 : (spec_CountMonotone.l0 k a0 0 0) = some r := by rw [if_pos rfl] at H;exact H
  clear H
  have H := H1
  clear H1
  have H' := aZ_ H
  clear H
  go_enter Try.func26,Try.ntmps26
  go_wp2_with (first | ((with_reducible refine gate_callee (f := 46) rfl ?_);refine goesL_ (some 6) rfl rfl Try.func46 T21_ rfl #[.int .i64 a0,.int .i64 0,.int .i64 4] rfl T4_ ?_;(with_reducible refine (spec_l1In.calls a0 0 4 true _ A2.out).mono ?_);rintro e w' ⟨rfl,⟨nd,rfl⟩⟩;refine ⟨_,rfl,?_⟩))
  go_loopg [3,4] k (fun kq v3 v4 w' => ∃ (x3_1 : Int) (x4_1 : Int),v3 = .int .i64 x3_1 ∧ v4 = .int .i64 x4_1 ∧ Aside0 (spec_CountMonotone.l0 kq a0 x3_1 x4_1 = some r) ∧ Aside0 (kq ≤ k) ∧ Aside0 (Below w.heap.size w w'))
  case atStart => exact ⟨(0),(0),T11_,T11_,H',⟨Nat.le_refl _⟩,⟨by repeat (first | (with_reducible first | exact HB.out | apply below_alloc | apply pw_below_drewN | apply below_drew1) | exact HB.out)⟩⟩
  case round =>
   clear H'
   try clear c2
   try clear p2
   try clear c3
   obtain ⟨x3_1,x4_1,rfl,rfl,HA,HK1,HB⟩ := hrel
   cases gk with
   | zero => exact absurd HA.out (by simp [spec_CountMonotone.l0])
   | succ k1 =>
    have H := HA.out
    clear HA
    simp only [spec_CountMonotone.l0] at H
    replace H := Option.bind_eq_some_iff.mp H
    obtain ⟨t102,A40,H⟩ := H
    replace H : (if x4_1 ≤ t102 then ((spec_l15Monotone.f k1 a0 x4_1).bind fun t103 => (if t103 = true then (spec_CountMonotone.l0 k1 a0 (wrap64 (x3_1 + 1)) (wrap64 (x4_1 + 1))) else (spec_CountMonotone.l0 k1 a0 x3_1 (wrap64 (x4_1 + 1))))) else (some x3_1)) = some r := H
    have A4 := aZ_ A40
    clear A40
    by_cases c5 : x4_1 ≤ t102
    ·rw [if_pos c5] at H
     have c5b0 : decide (x4_1 ≤ t102) = true := decide_eq_true c5
     clear c5
     replace H := Option.bind_eq_some_iff.mp H
     obtain ⟨t103,A60,H⟩ := H
     replace H : (if t103 = true then (spec_CountMonotone.l0 k1 a0 (wrap64 (x3_1 + 1)) (wrap64 (x4_1 + 1))) else (spec_CountMonotone.l0 k1 a0 x3_1 (wrap64 (x4_1 + 1)))) = some r := H
     have A6 := aZ_ A60
     clear A60
     by_cases c7 : t103 = true
     ·subst c7
      have H1 : (spec_CountMonotone.l0 k1 a0 (wrap64 (x3_1 + 1)) (wrap64 (x4_1 + 1))) = some r := by rw [if_pos rfl] at H;exact H
      clear H
      have H := H1
      clear H1
      have H' := aZ_ H
      clear H
      go_wp2_with (first | ((with_reducible refine gate_callee (f := 37) rfl ?_);refine goesL_ (some 10) rfl rfl Try.func37 T21_ rfl #[.int .i64 a0] rfl T4_ ?_;(with_reducible refine (spec_l2Full.calls a0 t102 _ A4.out).mono ?_);rintro e w' ⟨rfl,⟨nd,rfl⟩⟩;refine ⟨_,rfl,?_⟩) | ((with_reducible refine gate_callee (f := 34) rfl ?_);refine goesL_ (some 17) rfl rfl Try.func34 T21_ rfl #[.agg #[.int .i64 a0,.int .i64 x4_1]] rfl T4_ ?_;(with_reducible refine (spec_l15Monotone.calls k1 a0 x4_1 true _ A6.out).mono ?_);rintro e w8 ⟨rfl,hb⟩;refine ⟨_,rfl,?_⟩;have n0_ := aZ_ (below_step T6_ hb);clear HB;have HB := n0_;clear n0_;(try clear hb);(try clear hb2);(try clear hk);(try clear hi)))
      go_roundg k1
      case measure => have := HK1.out;omega
      case rel => exact ⟨(wrap64 (x3_1 + 1)),(wrap64 (x4_1 + 1)),T11_,T11_,H',⟨by have := HK1.out;omega⟩,⟨by repeat (first | (with_reducible first | exact HB.out | apply below_alloc | apply pw_below_drewN | apply below_drew1) | exact HB.out)⟩⟩
     ·replace c7 := Bool.eq_false_iff.mpr c7
      subst c7
      have H1 : (spec_CountMonotone.l0 k1 a0 x3_1 (wrap64 (x4_1 + 1))) = some r := by rw [if_neg (show ¬ (false = true) by decide)] at H;exact H
      clear H
      have H := H1
      clear H1
      have H' := aZ_ H
      clear H
      go_wp2_with (first | ((with_reducible refine gate_callee (f := 37) rfl ?_);refine goesL_ (some 10) rfl rfl Try.func37 T21_ rfl #[.int .i64 a0] rfl T4_ ?_;(with_reducible refine (spec_l2Full.calls a0 t102 _ A4.out).mono ?_);rintro e w' ⟨rfl,⟨nd,rfl⟩⟩;refine ⟨_,rfl,?_⟩) | ((with_reducible refine gate_callee (f := 34) rfl ?_);refine goesL_ (some 17) rfl rfl Try.func34 T21_ rfl #[.agg #[.int .i64 a0,.int .i64 x4_1]] rfl T4_ ?_;(with_reducible refine (spec_l15Monotone.calls k1 a0 x4_1 false _ A6.out).mono ?_);rintro e w9 ⟨rfl,hb⟩;refine ⟨_,rfl,?_⟩;have n0_ := aZ_ (below_step T6_ hb);clear HB;have HB := n0_;clear n0_;(try clear hb);(try clear hb2);(try clear hk);(try clear hi)))
      go_roundg k1
      case measure => have := HK1.out;omega
      case rel => exact ⟨(x3_1),(wrap64 (x4_1 + 1)),T11_,T11_,H',⟨by have := HK1.out;omega⟩,⟨by repeat (first | (with_reducible first | exact HB.out | apply below_alloc | apply pw_below_drewN | apply below_drew1) | exact HB.out)⟩⟩
    ·rw [if_neg c5] at H
     have c5b0 : decide (x4_1 ≤ t102) = false := decide_eq_false c5
     clear c5
     obtain rfl := Option.some.inj H
     go_wp2_with (first | ((with_reducible refine gate_callee (f := 37) rfl ?_);refine goesL_ (some 10) rfl rfl Try.func37 T21_ rfl #[.int .i64 a0] rfl T4_ ?_;(with_reducible refine (spec_l2Full.calls a0 t102 _ A4.out).mono ?_);rintro e w' ⟨rfl,⟨nd,rfl⟩⟩;refine ⟨_,rfl,?_⟩))
     go_ret
     exact ⟨by first | rfl | (simp [errW_none,errW_some] <;> rfl) | (simp [*,errW_none,errW_some] <;> rfl),by repeat (first | (with_reducible first | exact HB.out | apply below_alloc | apply pw_below_drewN | apply below_drew1) | exact HB.out)⟩
 ·replace c3 := Bool.eq_false_iff.mpr c3
  subst c3
  have H1 : (some (-1)) = some r := by rw [if_neg (show ¬ (false = true) by decide)] at H;exact H
  clear H
  have H := H1
  clear H1
  obtain rfl := Option.some.inj H
  go_enter Try.func26,Try.ntmps26
  go_wp2_with (first | ((with_reducible refine gate_callee (f := 46) rfl ?_);refine goesL_ (some 6) rfl rfl Try.func46 T21_ rfl #[.int .i64 a0,.int .i64 0,.int .i64 4] rfl T4_ ?_;(with_reducible refine (spec_l1In.calls a0 0 4 false _ A2.out).mono ?_);rintro e w' ⟨rfl,⟨nd,rfl⟩⟩;refine ⟨_,rfl,?_⟩))
  go_ret
  exact ⟨by first | rfl | (simp [errW_none,errW_some] <;> rfl) | (simp [*,errW_none,errW_some] <;> rfl),by repeat (first | (with_reducible first | exact HB.out | apply below_alloc | apply pw_below_drewN | apply below_drew1) | exact HB.out)⟩
end Go.Proofs.Ytgojehaneegaeab.F
