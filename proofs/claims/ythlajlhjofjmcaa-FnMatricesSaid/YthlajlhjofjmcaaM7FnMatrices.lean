/- Walks of Go functions and lemmas on what they compute, for the row of FnMatrices (a part of several): each call ends as the Lean function of its name tells; the conditions are those of each theorem. -/
import Derived.Test.YthlajlhjofjmcaaM1FnMatrices
import Derived.Test.YthlajlhjofjmcaaM2FnMatrices
import Derived.Test.YthlajlhjofjmcaaM3FnMatrices
import Derived.Test.YthlajlhjofjmcaaM4FnMatrices
import Derived.Test.YthlajlhjofjmcaaM6FnMatrices
namespace Go.Proofs.Ythlajlhjofjmcaa.F
open Go.RowKit Go.Proofs.YthlajlhjofjmcaaW.PrintWords Go.Proofs.YthlajlhjofjmcaaW.PrintLast Go.Proofs.YthlajlhjofjmcaaW.PrintMore
attribute [local go_sem] max2_int min2_int max_two min_two max_three min_three max_four min_four 
set_option linter.unusedVariables false
set_option linter.unusedSimpArgs false
def impl_Table_rows.l0 : Nat → Int → List Int → Int → Int → Int → Int → Option (List Int)
 | 0,_,_,_,_,_,_ => none
 | k + 1,x1,x5,x11,x12,x102000,x102001 => if x12 < x11 then (if 0 ≤ x1 then (if 0 ≤ (Go.bits .and .i64 x12 (wrap64 ((shl .i64 1 x1) - 1))) then (if (Go.bits .and .i64 x12 (wrap64 ((shl .i64 1 x1) - 1))) < (x5.length : Int) then ((impl_Table_at.f x102000 x102001 x12).bind fun t107 => (if 0 ≤ (shr .i64 x12 x1) then (impl_Table_rows.l0 k x1 (x5.set ((Go.bits .and .i64 x12 (wrap64 ((shl .i64 1 x1) - 1))) : Int).toNat (Go.bits .or .i64 (rd x5 (Go.bits .and .i64 x12 (wrap64 ((shl .i64 1 x1) - 1)))) (shl .i64 t107 (shr .i64 x12 x1)))) x11 (wrap64 (x12 + 1)) x102000 x102001) else (none))) else (none)) else (none)) else (none)) else (some x5)
def impl_Table_rows.f (k : Nat) (a0_0 : Int) (a0_1 : Int) (a1 : Int) : Option (List Int) := if 0 ≤ a1 then (if 0 ≤ (shl .i64 1 a1) then (if (shl .i64 1 a1 : Int).toNat ≤ 35184372088832 then ((impl_Table_size.f a0_0 a0_1).bind fun t105 => (impl_Table_rows.l0 k a1 (List.replicate (shl .i64 1 a1 : Int).toNat 0) t105 0 a0_0 a0_1)) else (none)) else (none)) else (none)
def impl_Table_rows.T5 : Bool × List (List Nat × List Nat) := (true,[([],[]),([],[]),([],[]),([2],[2]),([3],[3]),([1,4],[1,4]),([0,5],[0,5]),([6],[6]),([],[]),([],[]),([8,9],[8,9]),([],[]),([],[]),([11,12],[11,12]),([10,13],[10,13]),([7,14],[7,14]),([0,5,0,1,2,3,4,5,6,7,8,9,10,11,12,13,14,15],[0,5]),([16,15,10,0,1,2,3,4,5,6,7,8,9,10,11,12,13,14,15],[15,16])])
def impl_Table_rows.B5 : List Nat := [0,0,0,4,12,30,63,127,0,0,768,0,0,6144,16128,32767,65535,131071]
theorem impl_Table_rows.tab5 : rtab .any (opsOf Try.f70 5) = impl_Table_rows.T5 := by kernel_rfl
theorem impl_Table_rows.bits5 : waitsOk impl_Table_rows.T5.2 impl_Table_rows.B5 = true := by kernel_rfl
set_option maxHeartbeats 8000000 in
set_option maxRecDepth 100000 in
theorem impl_Table_rows.calls (k : Nat) (a0_0 : Int) (a0_1 : Int) (a1 : Int) (r : List Int) (w : World) (h : impl_Table_rows.f k a0_0 a0_1 a1 = some r) :
  Calls Try.prog 70 #[.agg #[.int .i64 a0_0,.int .i64 a0_1],.int .i64 a1] w fun e w' => ∃ v0_ : Value,e = .returned (v0_) ∧ Kd.R (Kd.int .i64) 3 w' w.heap.size (fun _ => True) v0_ r ∧ Below w.heap.size w w' := by
 have hu25 := Try.underlying25
 have HB := aZ_ (Below.refl w.heap.size w)
 have H : (if 0 ≤ a1 then (if 0 ≤ (shl .i64 1 a1) then (if (shl .i64 1 a1 : Int).toNat ≤ 35184372088832 then ((impl_Table_size.f a0_0 a0_1).bind fun t105 => (impl_Table_rows.l0 k a1 (List.replicate (shl .i64 1 a1 : Int).toNat 0) t105 0 a0_0 a0_1)) else (none)) else (none)) else (none)) = some r := h
 clear h
 by_cases c3 : 0 ≤ a1
 ·rw [if_pos c3] at H
  have c3b0 := eq_true c3
  have c3b1 : decide (0 ≤ a1) = true := decide_eq_true c3
  clear c3
  obtain ⟨ji4,hji4⟩ : ∃ j_ : Int,(shl .i64 1 a1) = j_ := ⟨_,rfl⟩
  replace H : (if 0 ≤ (ji4) then (if (ji4 : Int).toNat ≤ 35184372088832 then ((impl_Table_size.f a0_0 a0_1).bind fun t105 => (impl_Table_rows.l0 k a1 (List.replicate (ji4 : Int).toNat 0) t105 0 a0_0 a0_1)) else (none)) else (none)) = some r := by first | (rw [hji4] at H;exact H) | (simp only [hji4] at H ⊢;exact H)
  have hji4_ : (IntKind.i64.wrap (1 * 2 ^ min a1.toNat 64)) = ji4 := hji4
  have hji4z : a1 ≤ 64 → (IntKind.i64.wrap (1 * 2 ^ a1.toNat)) = ji4 := shl_small hji4
  have hji4u : (IntKind.i64.wrap (2 ^ min a1.toNat 64)) = ji4 := by have h_ := hji4_;rw [Int.one_mul] at h_;exact h_
  have hji4v : a1 ≤ 64 → (IntKind.i64.wrap (2 ^ a1.toNat)) = ji4 := fun hle_ => by have h_ := hji4z hle_;rw [Int.one_mul] at h_;exact h_
  have hji4y : (wrap64 (1 * 2 ^ min a1.toNat 64)) = ji4 := (i64_w _).symm.trans hji4_
  have hji4x : a1 ≤ 64 → (wrap64 (1 * 2 ^ a1.toNat)) = ji4 := fun h_ => (i64_w _).symm.trans (hji4z h_)
  by_cases c5 : 0 ≤ (ji4)
  ·rw [if_pos c5] at H
   have c5b0 := eq_true c5
   have c5b1 : decide (0 ≤ (ji4)) = true := decide_eq_true c5
   clear c5
   by_cases c6 : (ji4 : Int).toNat ≤ 35184372088832
   ·rw [if_pos c6] at H
    have c6b0 := eq_true c6
    have c6b1 : decide ((ji4 : Int).toNat ≤ 35184372088832) = true := decide_eq_true c6
    clear c6
    obtain ⟨y102,hy102⟩ : ∃ y_ : List Int,y_ = (List.replicate (ji4 : Int).toNat 0) := ⟨_,rfl⟩
    replace H : ((impl_Table_size.f a0_0 a0_1).bind fun t105 => (impl_Table_rows.l0 k a1 y102 t105 0 a0_0 a0_1)) = some r := by first | (rw [hy102];with_reducible exact H) | (have H2_ := (Option.bind_some _ _).symm.trans H;rw [hy102];with_reducible exact H2_) | (have H2_ := (Option.bind_some _ _).symm.trans H;with_reducible exact H2_) | with_reducible exact H | (rw [hy102];exact H) | exact H
    have Ny102 := aZ_ hy102
    clear hy102
    replace H := Option.bind_eq_some_iff.mp H
    obtain ⟨t105,A70,H⟩ := H
    replace H : (impl_Table_rows.l0 k a1 y102 t105 0 a0_0 a0_1) = some r := H
    have A7 := aZ_ A70
    clear A70
    have H' := aZ_ H
    clear H
    go_enter Try.func70,Try.ntmps70
    go_wp2_with (first | ((with_reducible refine gate_dst (N := 2) rfl ?_);refine box_event ?hg (N := 2) ?hd (cs := #[.int .i64 a0_0,.int .i64 a0_1]) (t := 25) ?hr ?_;(case hd => rfl);(case hg => rfl);(case hr => first | (go_simp;done) | (go_simp;rfl));intro gb101 hg w8 hbox hb;have n0_ := aZ_ (below_step T5_ hb);have n1_ := aZ_ (hbox);have n2_ := aZ_ ((T2_ : w.heap.size ≤ gb101));have n3_ := aZ_ ((T2_ : w.heap.size ≤ gb101));clear HB;have HB := n0_;have BK101 := n1_;have GW101 := n2_;have GE101 := n3_;clear n0_ n1_ n2_ n3_;clear hb hbox hg) | ((with_reducible refine gate_dst (N := 9) rfl ?_);refine Kd.R_make (Kd.int .i64) _ 3 rfl (N := 9) rfl 27 _ _ rfl ji4 rfl rfl Try.underlying27 (.int .i64 0) 8 info3 rfl T48_ T44_ 0 (ok := fun _ => True) (okp := fun _ => True) rfl (fun _ hk => hk) trivial (of_decide_eq_true T6_) (Nat.le_trans (Nat.mul_le_mul_right _ (of_decide_eq_true T6_ : ji4.toNat ≤ 35184372088832)) T44_) (Below.refl _ _) (Nat.le_refl _) ?_;intro v103 w9 ho10 hb hg_ hnew_;clear hg_ hnew_;(first | rw [← Ny102.out] at ho10 | (simp only [Int.reduceToNat] at ho10;rw [← Ny102.out] at ho10));have n0_ := aZ_ (Kd.R_lower ho10 (below_size T1_));have n1_ := aZ_ (blk_below (g := gb101) (o := .cells #[.int .i64 a0_0,.int .i64 a0_1] 25 (0,0)) T3_ hb);have n2_ := aZ_ (below_step T1_ hb);clear BK101;clear HB;have HO104 := n0_;have BK101 := n1_;have HB := n2_;clear n0_ n1_ n2_;clear hb ho10;have hcz11_0 : w9.cell? ⟨gb101,0,none⟩ = some (.int .i64 a0_0) := (blk_cell BK101.out 0).trans rfl;have hcz11_1 : w9.cell? ⟨gb101,1,none⟩ = some (.int .i64 a0_1) := (blk_cell BK101.out 1).trans rfl;have hfz11_0 := blk_frozen BK101.out 0;have hfz11_1 := blk_frozen BK101.out 1) | ((with_reducible refine gate_callee (f := 80) rfl ?_);refine goesL_ (some 11) rfl rfl Try.func80 T15_ rfl #[.agg #[.int .i64 a0_0,.int .i64 a0_1]] rfl T4_ ?_;(with_reducible refine (impl_Table_size.calls a0_0 a0_1 t105 _ A7.out).mono ?_);rintro e w12 ⟨rfl,hb⟩;refine ⟨_,rfl,?_⟩;have n0_ := aZ_ (Kd.R_below T47_ hb);have n1_ := aZ_ (blk_below (g := gb101) (o := .cells #[.int .i64 a0_0,.int .i64 a0_1] 25 (0,0)) T3_ hb);have n2_ := aZ_ (below_step T1_ hb);clear HO104;clear BK101;clear HB;have HO104 := n0_;have BK101 := n1_;have HB := n2_;clear n0_ n1_ n2_;(try clear hb);(try clear hb2);(try clear hk);(try clear hi)))
    go_loopg [12] k (fun kq v12 w' => ∃ (x5_1 : List Int) (x12_1 : Int),v12 = .int .i64 x12_1 ∧ Aside0 (impl_Table_rows.l0 kq a1 x5_1 t105 x12_1 a0_0 a0_1 = some r) ∧ Aside0 (kq ≤ k) ∧ Aside0 (Kd.R (Kd.int .i64) 3 w' w.heap.size (fun _ => True) v103 x5_1) ∧ Aside0 (w'.heap[gb101]? = some (.cells #[.int .i64 a0_0,.int .i64 a0_1] 25 (0,0))) ∧ Aside0 (Below w.heap.size w w'))
    case atStart => exact ⟨(y102),(0),T10_,H',⟨Nat.le_refl _⟩,⟨by (with_reducible repeat (first | apply Kd.R_alloc | apply Kd.R_drewN | apply Kd.R_drew));exact HO104.out⟩,⟨by (with_reducible repeat (first | refine blk_drewN ?_ _ | refine blk_drew ?_ | refine blk_alloc ?_ _));exact BK101.out⟩,⟨by repeat (first | (with_reducible first | exact HB.out | apply below_alloc | apply pw_below_drewN | apply below_drew1 | refine below_set ?_ GE101.out) | exact HB.out)⟩⟩
    case round =>
     clear H'
     try clear p2
     try clear c3
     try clear c3b0
     try clear c3b1
     try clear c5
     try clear c5b0
     try clear c5b1
     try clear c6
     try clear c6b0
     try clear c6b1
     try clear p6
     try clear c7
     try clear c8
     try clear hcz11_0
     try clear hcz11_1
     try clear hfz11_0
     try clear hfz11_1
     obtain ⟨x5_1,x12_1,rfl,HA,HK1,HO_5,BK101,HB⟩ := hrel
     cases gk with
     | zero => exact absurd HA.out (by simp [impl_Table_rows.l0])
     | succ k1 =>
      have H := HA.out
      clear HA
      simp only [impl_Table_rows.l0] at H
      by_cases c13 : x12_1 < t105
      ·rw [if_pos c13] at H
       have c13b0 : decide (x12_1 < t105) = true := decide_eq_true c13
       clear c13
       by_cases c14 : 0 ≤ a1
       ·rw [if_pos c14] at H
        have c14b0 := eq_true c14
        have c14b1 : decide (0 ≤ a1) = true := decide_eq_true c14
        clear c14
        obtain ⟨ji15,hji15⟩ : ∃ j_ : Int,(shl .i64 1 a1) = j_ := ⟨_,rfl⟩
        (try (obtain rfl : ji15 = ji4 := hji15.symm.trans hji4))
        replace H : (if 0 ≤ (Go.bits .and .i64 x12_1 (wrap64 ((ji15) - 1))) then (if (Go.bits .and .i64 x12_1 (wrap64 ((ji15) - 1))) < (x5_1.length : Int) then ((impl_Table_at.f a0_0 a0_1 x12_1).bind fun t107 => (if 0 ≤ (shr .i64 x12_1 a1) then (impl_Table_rows.l0 k1 a1 (x5_1.set ((Go.bits .and .i64 x12_1 (wrap64 ((ji15) - 1))) : Int).toNat (Go.bits .or .i64 (rd x5_1 (Go.bits .and .i64 x12_1 (wrap64 ((ji15) - 1)))) (shl .i64 t107 (shr .i64 x12_1 a1)))) t105 (wrap64 (x12_1 + 1)) a0_0 a0_1) else (none))) else (none)) else (none)) = some r := by first | (rw [hji15] at H;exact H) | (simp only [hji15] at H ⊢;exact H)
        have hji15_ : (IntKind.i64.wrap (1 * 2 ^ min a1.toNat 64)) = ji15 := hji15
        have hji15z : a1 ≤ 64 → (IntKind.i64.wrap (1 * 2 ^ a1.toNat)) = ji15 := shl_small hji15
        have hji15u : (IntKind.i64.wrap (2 ^ min a1.toNat 64)) = ji15 := by have h_ := hji15_;rw [Int.one_mul] at h_;exact h_
        have hji15v : a1 ≤ 64 → (IntKind.i64.wrap (2 ^ a1.toNat)) = ji15 := fun hle_ => by have h_ := hji15z hle_;rw [Int.one_mul] at h_;exact h_
        have hji15y : (wrap64 (1 * 2 ^ min a1.toNat 64)) = ji15 := (i64_w _).symm.trans hji15_
        have hji15x : a1 ≤ 64 → (wrap64 (1 * 2 ^ a1.toNat)) = ji15 := fun h_ => (i64_w _).symm.trans (hji15z h_)
        obtain ⟨ji16,hji16⟩ : ∃ j_ : Int,(Go.bits .and .i64 x12_1 (wrap64 ((ji15) - 1))) = j_ := ⟨_,rfl⟩
        have hji16w : (Go.bits .and .i64 x12_1 (IntKind.i64.wrap ((ji15) - 1))) = ji16 := by first | (simp only [i64_w];exact hji16) | exact hji16
        replace H : (if 0 ≤ (ji16) then (if (ji16) < (x5_1.length : Int) then ((impl_Table_at.f a0_0 a0_1 x12_1).bind fun t107 => (if 0 ≤ (shr .i64 x12_1 a1) then (impl_Table_rows.l0 k1 a1 (x5_1.set ((ji16) : Int).toNat (Go.bits .or .i64 (rd x5_1 (ji16)) (shl .i64 t107 (shr .i64 x12_1 a1)))) t105 (wrap64 (x12_1 + 1)) a0_0 a0_1) else (none))) else (none)) else (none)) = some r := by first | (rw [hji16] at H;exact H) | (simp only [hji16] at H ⊢;exact H)
        by_cases c17 : 0 ≤ (ji16)
        ·rw [if_pos c17] at H
         have c17b0 : decide (0 ≤ (ji16)) = true := decide_eq_true c17
         clear c17
         by_cases c18 : (ji16) < (x5_1.length : Int)
         ·rw [if_pos c18] at H
          have c18b0 : decide ((ji16) < (x5_1.length : Int)) = true := decide_eq_true c18
          clear c18
          replace H := Option.bind_eq_some_iff.mp H
          obtain ⟨t107,A190,H⟩ := H
          replace H : (if 0 ≤ (shr .i64 x12_1 a1) then (impl_Table_rows.l0 k1 a1 (x5_1.set ((ji16) : Int).toNat (Go.bits .or .i64 (rd x5_1 (ji16)) (shl .i64 t107 (shr .i64 x12_1 a1)))) t105 (wrap64 (x12_1 + 1)) a0_0 a0_1) else (none)) = some r := H
          have A19 := aZ_ A190
          clear A190
          have c20b0 := eq_true (of_decide_eq_true T6_ : 0 ≤ a1)
          obtain ⟨ji21,hji21⟩ : ∃ j_ : Int,(shr .i64 x12_1 a1) = j_ := ⟨_,rfl⟩
          replace H : (if 0 ≤ (ji21) then (impl_Table_rows.l0 k1 a1 (x5_1.set ((ji16) : Int).toNat (Go.bits .or .i64 (rd x5_1 (ji16)) (shl .i64 t107 (ji21)))) t105 (wrap64 (x12_1 + 1)) a0_0 a0_1) else (none)) = some r := by first | (rw [hji21] at H;exact H) | (simp only [hji21] at H ⊢;exact H)
          (try rw [hji21] at A19)
          have hji21_ : (x12_1 / 2 ^ min a1.toNat 64) = ji21 := hji21
          have hji21z : a1 ≤ 64 → (x12_1 / 2 ^ a1.toNat) = ji21 := shr_small hji21
          by_cases c22 : 0 ≤ (ji21)
          ·rw [if_pos c22] at H
           have c22b0 := eq_true c22
           have c22b1 : decide (0 ≤ (ji21)) = true := decide_eq_true c22
           clear c22
           obtain ⟨ji23,hji23⟩ : ∃ j_ : Int,(shl .i64 t107 (ji21)) = j_ := ⟨_,rfl⟩
           replace H : (impl_Table_rows.l0 k1 a1 (x5_1.set ((ji16) : Int).toNat (Go.bits .or .i64 (rd x5_1 (ji16)) (ji23))) t105 (wrap64 (x12_1 + 1)) a0_0 a0_1) = some r := by first | (rw [hji23] at H;exact H) | (simp only [hji23] at H ⊢;exact H)
           (try rw [hji23] at A19)
           have hji23_ : (IntKind.i64.wrap (t107 * 2 ^ min (ji21).toNat 64)) = ji23 := hji23
           have hji23z : (ji21) ≤ 64 → (IntKind.i64.wrap (t107 * 2 ^ (ji21).toNat)) = ji23 := shl_small hji23
           have hji23y : (wrap64 (t107 * 2 ^ min (ji21).toNat 64)) = ji23 := (i64_w _).symm.trans hji23_
           have hji23x : (ji21) ≤ 64 → (wrap64 (t107 * 2 ^ (ji21).toNat)) = ji23 := fun h_ => (i64_w _).symm.trans (hji23z h_)
           obtain ⟨y108,hy108⟩ : ∃ y_ : List Int,y_ = (x5_1.set ((ji16) : Int).toNat (Go.bits .or .i64 (rd x5_1 (ji16)) (ji23))) := ⟨_,rfl⟩
           replace H : (impl_Table_rows.l0 k1 a1 y108 t105 (wrap64 (x12_1 + 1)) a0_0 a0_1) = some r := by first | (rw [hy108];with_reducible exact H) | (have H2_ := (Option.bind_some _ _).symm.trans H;rw [hy108];with_reducible exact H2_) | (have H2_ := (Option.bind_some _ _).symm.trans H;with_reducible exact H2_) | with_reducible exact H | (rw [hy108];exact H) | exact H
           have Ny108 := aZ_ hy108
           clear hy108
           have H' := aZ_ H
           clear H
           try go_wp2
           have n0_ := aZ_ (Kd.R_drew HO_5.out)
           have n1_ := aZ_ (blk_drew BK101.out)
           have n2_ := aZ_ (below_drew1 HB.out)
           clear HO_5
           clear BK101
           clear HB
           have HO_5 := n0_
           have BK101 := n1_
           have HB := n2_
           clear n0_ n1_ n2_
           obtain ⟨Ao26,co26,eo26⟩ := Kd.R_slice HO_5.out
           (first | subst eo26 | (injection eo26 with f1_ f2_ f3_;have f4_ := f1_.symm;have f5_ := f3_.symm;clear f1_ f2_ f3_;subst f4_;subst f5_))
           have p106 : 0 ≤ ((ji16) : Int) := of_decide_eq_true T6_
           have q106 : (ji16) < (x5_1.length : Int) := of_decide_eq_true T6_
           obtain ⟨ad106,e106,hx106_0⟩ := Kd.at_int (Kd.R_reads' HO_5.out).2.2 (ji16) p106 q106
           cases e106
           replace p106 := eq_true p106
           replace q106 := eq_true q106
           refine start_ (n := 18) (S := fun w' => w'.cell? ⟨gb101,0,none⟩ = some (.int .i64 a0_0) ∧ w'.cell? ⟨gb101,1,none⟩ = some (.int .i64 a0_1) ∧ w'.cell? (ad106.add ((ji16)).toNat) = some (.int .i64 (rd x5_1 (ji16)))) (ds := [17]) #[false,false,false,false,false,false,false,false,false,false,false,false,false,false,false,false,false,false] T15_ rfl rfl ⟨(blk_cell BK101.out 0).trans rfl,(blk_cell BK101.out 1).trans rfl,hx106_0⟩ (fun hHeld => ?_);refine with_tabW impl_Table_rows.tab5 impl_Table_rows.bits5 (fun HT_ HW_ => ?_)
           generalize wr.drew = w25 at HO_5 BK101 HB hx106_0 hHeld ⊢
           refine pZ_ 0 (some 15) #[true,false,false,false,false,false,false,false,false,false,false,false,false,false,false,false,false,false] ?_
           refine pZ_ 1 (some 16) #[true,true,false,false,false,false,false,false,false,false,false,false,false,false,false,false,false,false] ?_
           refine pZ_ 2 (some 17) #[true,true,true,false,false,false,false,false,false,false,false,false,false,false,false,false,false,false] ?_
           refine pZ_ 3 (some 18) #[true,true,true,true,false,false,false,false,false,false,false,false,false,false,false,false,false,false] ?_
           refine pZ_ 4 (some 19) #[true,true,true,true,true,false,false,false,false,false,false,false,false,false,false,false,false,false] ?_
           refine pZ_ 5 (some 20) #[true,true,true,true,true,true,false,false,false,false,false,false,false,false,false,false,false,false] ?_
           refine pZ_ 6 (some 21) #[true,true,true,true,true,true,true,false,false,false,false,false,false,false,false,false,false,false] ?_
           refine pZ_ 9 (some 24) #[true,true,true,true,true,true,true,false,false,true,false,false,false,false,false,false,false,false] ?_
           refine pZ_ 11 (some 26) #[true,true,true,true,true,true,true,false,false,true,false,true,false,false,false,false,false,false] ?_
           refine pZ_ 12 (some 27) #[true,true,true,true,true,true,true,false,false,true,false,true,true,false,false,false,false,false] ?_
           refine pZ_ 13 (some 28) #[true,true,true,true,true,true,true,false,false,true,false,true,true,true,false,false,false,false] ?_
           refine tZ3_ 7 (some 22) #[true,true,true,true,true,true,true,true,false,true,false,true,true,true,false,false,false,false] hHeld ?_
           refine tZ3_ 8 (some 23) #[true,true,true,true,true,true,true,true,true,true,false,true,true,true,false,false,false,false] hHeld ?_
           refine one_ (i := 10) (N := some 25) #[true,true,true,true,true,true,true,true,true,true,true,true,true,true,false,false,false,false] rfl rfl (one_of HT_.out T15_) T48_ (fun K hK => ?_)
           refine gZ_ Try.func78 #[.agg #[.int .i64 a0_0,.int .i64 a0_1],.int .i64 x12_1] ?_
           with_reducible refine (impl_Table_at.calls a0_0 a0_1 x12_1 t107 _ A19.out).mono ?_
           rintro e w27 ⟨rfl,hb⟩
           have HS2_ := (hb.cell (World.block_lt_of_cell? _ _ (hHeld.2.2))).trans (hHeld.2.2)
           refine ⟨_,rfl,?_⟩
           have n0_ := aZ_ (Kd.R_below (by (with_reducible repeat (first | apply Kd.R_alloc | apply Kd.R_drewN | apply Kd.R_drew));exact HO_5.out) hb)
           have n1_ := aZ_ (blk_below (g := gb101) (o := .cells #[.int .i64 a0_0,.int .i64 a0_1] 25 (0,0)) T3_ hb)
           have n2_ := aZ_ (below_step T1_ hb)
           clear HO_5
           clear BK101
           clear HB
           have HO_5 := n0_
           have BK101 := n1_
           have HB := n2_
           clear n0_ n1_ n2_
           (try clear hb)
           (try clear hb2)
           (try clear hk)
           (try clear hi)
           have p24 : 0 ≤ ((ji16) : Int) := of_decide_eq_true T6_
           have q24 : ((ji16) : Int) < ((x5_1.length : Int) : Int) := of_decide_eq_true T6_
           obtain ⟨go24,co24,eo24,gb24,gl24,cl24,HG24⟩ := Kd.R_form HO_5.out T44_
           (first | cases eo24 | (injection eo24 with ea_ en_ ec_;(first | subst ea_ | (injection ea_ with ea_;subst ea_));subst ec_;clear en_))
           have GB24 := aZ_ gb24
           have GG24 := aZ_ HG24
           clear gb24 gl24 HG24
           (first | simp only [add_plain] at hx106_0 | skip)
           obtain ⟨hx24_0,hf24_0⟩ := Kd.R_celln 0 HO_5.out ((ji16) : Int) p24 q24
           replace p24 := eq_true p24
           replace q24 := eq_true q24
           have HP28 := Kd.R_putn HO_5.out ((ji16) : Int) (Go.bits .or .i64 (rd x5_1 (ji16)) (ji23))
           rw [← Ny108.out] at HP28
           have HQ28 := aZ_ HP28
           clear HP28
           refine hK.out _ _ ⟨(blk_cell BK101.out 0).trans rfl,(blk_cell BK101.out 1).trans rfl,HS2_⟩ (fun hHeld => ?_)
           clear hK K
           refine norm_ (a' := ?_) ?_ ?_
           rotate_left
           ·show Act.put _ (some 25) _ = _
            simp only [Act.put,List.setIfInBounds_toArray,List.set_cons_zero,List.set_cons_succ,i64_w,i32_w]
            rfl
           refine pZ_ 14 (some 29) #[true,true,true,true,true,true,true,true,true,true,true,true,true,true,true,false,false,false] ?_
           refine pZ_ 15 (some 30) #[true,true,true,true,true,true,true,true,true,true,true,true,true,true,true,true,false,false] ?_
           refine pZ_ 16 (some 31) #[true,true,true,true,true,true,true,true,true,true,true,true,true,true,true,true,true,false] ?_
           refine last_ (i := 17) (N := none) #[true,true,true,true,true,true,true,true,true,true,true,true,true,true,true,true,true,true] rfl rfl (one_of HT_.out T15_) T48_ (fun K hK => ?_)
           refine skip_ (w1 := ?_) (by rfl) rfl ?_ ?_
           rotate_left
           ·go_simp
            rfl
           refine hK.out _ _ ?_
           clear hK K
           refine done_ (done_of HT_.out T15_) ?_
           try go_wp2
           go_roundg k1
           case measure => have := HK1.out;omega
           case rel => exact ⟨(y108),(wrap64 (x12_1 + 1)),T10_,H',⟨by have := HK1.out;omega⟩,⟨by (with_reducible repeat (first | apply Kd.R_alloc | apply Kd.R_drewN | apply Kd.R_drew));exact HQ28.out⟩,⟨by (with_reducible repeat (first | refine blk_drewN ?_ _ | refine blk_drew ?_ | refine blk_alloc ?_ _));refine blk_far ?_ (by have h_ := Kd.R_ne HO_5.out BK101.out T48_;intro e_;exact h_ (by rw [e_];rfl)) _;(with_reducible repeat (first | refine blk_drewN ?_ _ | refine blk_drew ?_ | refine blk_alloc ?_ _));exact BK101.out⟩,⟨by repeat (first | (with_reducible first | exact HB.out | apply below_alloc | apply pw_below_drewN | apply below_drew1 | refine below_set ?_ GB24.out | refine below_set ?_ GE101.out) | exact HB.out)⟩⟩
          ·rw [if_neg c22] at H
           exact absurd H T49_
         ·rw [if_neg c18] at H
          exact absurd H T49_
        ·rw [if_neg c17] at H
         exact absurd H T49_
       ·rw [if_neg c14] at H
        exact absurd H T49_
      ·rw [if_neg c13] at H
       have c13b0 : decide (x12_1 < t105) = false := decide_eq_false c13
       clear c13
       obtain rfl := Option.some.inj H
       go_wp2
       go_ret
       exact ⟨_,by first | rfl | (simp [errW_none,errW_some] <;> rfl) | (simp only [← hji4];first | rfl | (simp [errW_none,errW_some] <;> rfl)) | (simp [*,errW_none,errW_some] <;> rfl),by (with_reducible repeat (first | apply Kd.R_alloc | apply Kd.R_drewN | apply Kd.R_drew));exact HO_5.out,by repeat (first | (with_reducible first | exact HB.out | apply below_alloc | apply pw_below_drewN | apply below_drew1 | refine below_set ?_ GE101.out) | exact HB.out)⟩
   ·rw [if_neg c6] at H
    exact absurd H T49_
  ·rw [if_neg c5] at H
   exact absurd H T49_
 ·rw [if_neg c3] at H
  exact absurd H T49_
def impl_MatrixOf.f (k : Nat) (a0_0 : Int) (a0_1 : Int) (a1 : Int) : Option (List Int × Bool) := (impl_isSplit.f a0_0 a0_1 a1).bind fun t102 => (if t102 = true then ((impl_Table_rows.f k a0_0 a0_1 a1).bind fun t103 => (some (t103,true))) else (some (([] : List Int),false)))
set_option maxHeartbeats 8000000 in
set_option maxRecDepth 100000 in
theorem impl_MatrixOf.calls (k : Nat) (a0_0 : Int) (a0_1 : Int) (a1 : Int) (r1 : List Int) (r2 : Bool) (w : World) (h : impl_MatrixOf.f k a0_0 a0_1 a1 = some (r1,r2)) :
  Calls Try.prog 26 #[.agg #[.int .i64 a0_0,.int .i64 a0_1],.int .i64 a1] w fun e w' => ∃ v0_ : Value,e = .returned (.tuple #[v0_,.bool r2]) ∧ Kd.R (Kd.int .i64) 3 w' w.heap.size (fun _ => True) v0_ r1 ∧ Below w.heap.size w w' := by
 have hu25 := Try.underlying25
 have HB := aZ_ (Below.refl w.heap.size w)
 have H : ((impl_isSplit.f a0_0 a0_1 a1).bind fun t102 => (if t102 = true then ((impl_Table_rows.f k a0_0 a0_1 a1).bind fun t103 => (some (t103,true))) else (some (([] : List Int),false)))) = some (r1,r2) := h
 clear h
 replace H := Option.bind_eq_some_iff.mp H
 obtain ⟨t102,A30,H⟩ := H
 replace H : (if t102 = true then ((impl_Table_rows.f k a0_0 a0_1 a1).bind fun t103 => (some (t103,true))) else (some (([] : List Int),false))) = some (r1,r2) := H
 have A3 := aZ_ A30
 clear A30
 by_cases c4 : t102 = true
 ·subst c4
  have H1 : ((impl_Table_rows.f k a0_0 a0_1 a1).bind fun t103 => (some (t103,true))) = some (r1,r2) := by rw [if_pos rfl] at H;exact H
  clear H
  have H := H1
  clear H1
  replace H := Option.bind_eq_some_iff.mp H
  obtain ⟨t103,A50,H⟩ := H
  replace H : (some (t103,true)) = some (r1,r2) := H
  have A5 := aZ_ A50
  clear A50
  simp only [Option.some.injEq,Prod.mk.injEq] at H
  obtain ⟨rfl,rfl⟩ := H
  go_enter Try.func26,Try.ntmps26
  go_wp2_with (first | ((with_reducible refine gate_dst (N := 2) rfl ?_);refine box_event ?hg (N := 2) ?hd (cs := #[.int .i64 a0_0,.int .i64 a0_1]) (t := 25) ?hr ?_;(case hd => rfl);(case hg => rfl);(case hr => first | (go_simp;done) | (go_simp;rfl));intro gb101 hg w6 hbox hb;have n0_ := aZ_ (below_step T5_ hb);have n1_ := aZ_ (hbox);have n2_ := aZ_ ((T2_ : w.heap.size ≤ gb101));have n3_ := aZ_ ((T2_ : w.heap.size ≤ gb101));clear HB;have HB := n0_;have BK101 := n1_;have GW101 := n2_;have GE101 := n3_;clear n0_ n1_ n2_ n3_;clear hb hbox hg;have hcz7_0 : w6.cell? ⟨gb101,0,none⟩ = some (.int .i64 a0_0) := (blk_cell BK101.out 0).trans rfl;have hcz7_1 : w6.cell? ⟨gb101,1,none⟩ = some (.int .i64 a0_1) := (blk_cell BK101.out 1).trans rfl;have hfz7_0 := blk_frozen BK101.out 0;have hfz7_1 := blk_frozen BK101.out 1) | ((with_reducible refine gate_callee (f := 69) rfl ?_);refine goesL_ (some 8) rfl rfl Try.func69 T15_ rfl #[.agg #[.int .i64 a0_0,.int .i64 a0_1],.int .i64 a1] rfl T4_ ?_;(with_reducible refine (impl_isSplit.calls a0_0 a0_1 a1 true _ A3.out).mono ?_);rintro e w8 ⟨rfl,hb⟩;refine ⟨_,rfl,?_⟩;have n0_ := aZ_ (blk_below (g := gb101) (o := .cells #[.int .i64 a0_0,.int .i64 a0_1] 25 (0,0)) T3_ hb);have n1_ := aZ_ (below_step T1_ hb);clear BK101;clear HB;have BK101 := n0_;have HB := n1_;clear n0_ n1_;(try clear hb);(try clear hb2);(try clear hk);(try clear hi);have hcz9_0 : w8.cell? ⟨gb101,0,none⟩ = some (.int .i64 a0_0) := (blk_cell BK101.out 0).trans rfl;have hcz9_1 : w8.cell? ⟨gb101,1,none⟩ = some (.int .i64 a0_1) := (blk_cell BK101.out 1).trans rfl;have hfz9_0 := blk_frozen BK101.out 0;have hfz9_1 := blk_frozen BK101.out 1) | ((with_reducible refine gate_callee (f := 70) rfl ?_);refine goesL_ (some 12) rfl rfl Try.func70 T15_ rfl #[.agg #[.int .i64 a0_0,.int .i64 a0_1],.int .i64 a1] rfl T4_ ?_;(with_reducible refine (impl_Table_rows.calls k a0_0 a0_1 a1 t103 _ A5.out).mono ?_);rintro e w10 ⟨v104,rfl,ho0,hb⟩;refine ⟨_,rfl,?_⟩;have n0_ := aZ_ (Kd.R_lower ho0 (below_size T1_));have n1_ := aZ_ (blk_below (g := gb101) (o := .cells #[.int .i64 a0_0,.int .i64 a0_1] 25 (0,0)) T3_ hb);have n2_ := aZ_ (below_step T1_ hb);clear BK101;clear HB;have HO105 := n0_;have BK101 := n1_;have HB := n2_;clear n0_ n1_ n2_;(try clear hb);(try clear hb2);(try clear hk);(try clear hi);(try clear ho0)))
  go_ret2
  exact ⟨_,by first | rfl | (simp [errW_none,errW_some] <;> rfl) | (simp [*,errW_none,errW_some] <;> rfl),by (with_reducible repeat (first | apply Kd.R_alloc | apply Kd.R_drewN | apply Kd.R_drew));exact HO105.out,by repeat (first | (with_reducible first | exact HB.out | apply below_alloc | apply pw_below_drewN | apply below_drew1 | refine below_set ?_ GE101.out) | exact HB.out)⟩
 ·replace c4 := Bool.eq_false_iff.mpr c4
  subst c4
  have H1 : (some (([] : List Int),false)) = some (r1,r2) := by rw [if_neg (show ¬ (false = true) by decide)] at H;exact H
  clear H
  have H := H1
  clear H1
  simp only [Option.some.injEq,Prod.mk.injEq] at H
  obtain ⟨rfl,rfl⟩ := H
  go_enter Try.func26,Try.ntmps26
  go_wp2_with (first | ((with_reducible refine gate_dst (N := 2) rfl ?_);refine box_event ?hg (N := 2) ?hd (cs := #[.int .i64 a0_0,.int .i64 a0_1]) (t := 25) ?hr ?_;(case hd => rfl);(case hg => rfl);(case hr => first | (go_simp;done) | (go_simp;rfl));intro gb101 hg w11 hbox hb;have n0_ := aZ_ (below_step T5_ hb);have n1_ := aZ_ (hbox);have n2_ := aZ_ ((T2_ : w.heap.size ≤ gb101));have n3_ := aZ_ ((T2_ : w.heap.size ≤ gb101));clear HB;have HB := n0_;have BK101 := n1_;have GW101 := n2_;have GE101 := n3_;clear n0_ n1_ n2_ n3_;clear hb hbox hg;have hcz12_0 : w11.cell? ⟨gb101,0,none⟩ = some (.int .i64 a0_0) := (blk_cell BK101.out 0).trans rfl;have hcz12_1 : w11.cell? ⟨gb101,1,none⟩ = some (.int .i64 a0_1) := (blk_cell BK101.out 1).trans rfl;have hfz12_0 := blk_frozen BK101.out 0;have hfz12_1 := blk_frozen BK101.out 1) | ((with_reducible refine gate_callee (f := 69) rfl ?_);refine goesL_ (some 8) rfl rfl Try.func69 T15_ rfl #[.agg #[.int .i64 a0_0,.int .i64 a0_1],.int .i64 a1] rfl T4_ ?_;(with_reducible refine (impl_isSplit.calls a0_0 a0_1 a1 false _ A3.out).mono ?_);rintro e w13 ⟨rfl,hb⟩;refine ⟨_,rfl,?_⟩;have n0_ := aZ_ (blk_below (g := gb101) (o := .cells #[.int .i64 a0_0,.int .i64 a0_1] 25 (0,0)) T3_ hb);have n1_ := aZ_ (below_step T1_ hb);clear BK101;clear HB;have BK101 := n0_;have HB := n1_;clear n0_ n1_;(try clear hb);(try clear hb2);(try clear hk);(try clear hi)))
  go_ret2
  exact ⟨_,by first | rfl | (simp [errW_none,errW_some] <;> rfl) | (simp [*,errW_none,errW_some] <;> rfl),by first | exact Kd.R_nil _ _ _ _ _ | exact Kd.N_nil _ _ _ _ _ | exact Kd.V_nil _ _ _ _ _ | exact Kd.Q_nil _ _ _ _ _ | exact Kd.S_nil _ _ _ _ _,by repeat (first | (with_reducible first | exact HB.out | apply below_alloc | apply pw_below_drewN | apply below_drew1 | refine below_set ?_ GE101.out) | exact HB.out)⟩
mutual
def spec_MatrixOf.j0 : Nat → Int → List Int → Bool → Int → Int → Option (List Int × Bool)
 | 0,_,_,_,_,_ => none
 | k + 1,x1,x6,x20,x102000,x102001 => if x20 = true then (some (x6,false)) else (spec_MatrixOf.l0 k x1 x6 0 x102000 x102001)
def spec_MatrixOf.l0 : Nat → Int → List Int → Int → Int → Int → Option (List Int × Bool)
 | 0,_,_,_,_,_ => none
 | k + 1,x1,x6,x7,x102000,x102001 => if 0 ≤ x1 then (if x7 < (shl .i64 1 x1) then (spec_MatrixOf.l1 k x1 x6 x7 0 0 x102000 x102001) else (some (x6,true))) else (none)
def spec_MatrixOf.l1 : Nat → Int → List Int → Int → Int → Int → Int → Int → Option (List Int × Bool)
 | 0,_,_,_,_,_,_,_ => none
 | k + 1,x1,x6,x7,x8,x9,x102000,x102001 => if 0 ≤ (wrap64 (x102000 - x1)) then (if x9 < (shl .i64 1 (wrap64 (x102000 - x1))) then (if 0 ≤ x1 then (if 0 ≤ (Go.bits .or .i64 x7 (shl .i64 x9 x1)) then (if 0 ≤ x9 then (spec_MatrixOf.l1 k x1 x6 x7 (Go.bits .or .i64 x8 (shl .i64 (Go.bits .and .i64 (shr .i64 x102001 (Go.bits .or .i64 x7 (shl .i64 x9 x1))) 1) x9)) (wrap64 (x9 + 1)) x102000 x102001) else (none)) else (none)) else (none)) else (if x6.length < 17592186044416 then (spec_MatrixOf.l0 k x1 (x6 ++ [x8]) (wrap64 (x7 + 1)) x102000 x102001) else (none))) else (none)
end
def spec_MatrixOf.f (k : Nat) (a0_0 : Int) (a0_1 : Int) (a1 : Int) : Option (List Int × Bool) := (some (([] : List Int) : List Int)).bind fun y102 => ((spec_IsTable.f a0_0 a0_1).bind fun t105 => (if t105 = true then ((spec_l1In.f a1 0 a0_0).bind fun t106 => (spec_MatrixOf.j0 k a1 y102 (!t106) a0_0 a0_1)) else (spec_MatrixOf.j0 k a1 y102 true a0_0 a0_1)))
set_option maxHeartbeats 8000000 in
set_option maxRecDepth 100000 in
theorem spec_MatrixOf.calls (k : Nat) (a0_0 : Int) (a0_1 : Int) (a1 : Int) (r1 : List Int) (r2 : Bool) (w : World) (h : spec_MatrixOf.f k a0_0 a0_1 a1 = some (r1,r2)) :
  Calls Try.prog 27 #[.agg #[.int .i64 a0_0,.int .i64 a0_1],.int .i64 a1] w fun e w' => ∃ v0_ : Value,e = .returned (.tuple #[v0_,.bool r2]) ∧ Kd.R (Kd.int .i64) 3 w' w.heap.size (fun _ => True) v0_ r1 ∧ Below w.heap.size w w' := by
 have hu25 := Try.underlying25
 have HB := aZ_ (Below.refl w.heap.size w)
 have H : ((some (([] : List Int) : List Int)).bind fun y102 => ((spec_IsTable.f a0_0 a0_1).bind fun t105 => (if t105 = true then ((spec_l1In.f a1 0 a0_0).bind fun t106 => (spec_MatrixOf.j0 k a1 y102 (!t106) a0_0 a0_1)) else (spec_MatrixOf.j0 k a1 y102 true a0_0 a0_1)))) = some (r1,r2) := h
 clear h
 obtain ⟨y102,hy102⟩ : ∃ y_ : List Int,y_ = (([] : List Int)) := ⟨_,rfl⟩
 replace H : ((spec_IsTable.f a0_0 a0_1).bind fun t105 => (if t105 = true then ((spec_l1In.f a1 0 a0_0).bind fun t106 => (spec_MatrixOf.j0 k a1 y102 (!t106) a0_0 a0_1)) else (spec_MatrixOf.j0 k a1 y102 true a0_0 a0_1))) = some (r1,r2) := by first | (rw [hy102];with_reducible exact H) | (have H2_ := (Option.bind_some _ _).symm.trans H;rw [hy102];with_reducible exact H2_) | (have H2_ := (Option.bind_some _ _).symm.trans H;with_reducible exact H2_) | with_reducible exact H | (rw [hy102];exact H) | exact H
 have Ny102 := aZ_ hy102
 clear hy102
 have HC3 := aZ_ H
 clear H
 go_enter Try.func27,Try.ntmps27
 go_upto_region 2 with (first | ((with_reducible refine gate_dst (N := 2) rfl ?_);refine box_event ?hg (N := 2) ?hd (cs := #[.int .i64 a0_0,.int .i64 a0_1]) (t := 25) ?hr ?_;(case hd => rfl);(case hg => rfl);(case hr => first | (go_simp;done) | (go_simp;rfl));intro gb101 hg w4 hbox hb;have n0_ := aZ_ (below_step T5_ hb);have n1_ := aZ_ (hbox);have n2_ := aZ_ ((T2_ : w.heap.size ≤ gb101));have n3_ := aZ_ ((T2_ : w.heap.size ≤ gb101));clear HB;have HB := n0_;have BK101 := n1_;have GW101 := n2_;have GE101 := n3_;clear n0_ n1_ n2_ n3_;clear hb hbox hg) | ((with_reducible refine gate_dst (N := 10) rfl ?_);refine Kd.R_lit (Kd.int .i64) _ 3 ?hg (N := 10) ?hd (xs := ([] : List Int)) (inner := []) (ok := fun _ => True) (okp := fun _ => True) ?hr ?hp (fun _ hk => hk) trivial (Below.refl _ _) (Nat.le_refl _) T49_ ?_;(case hd => rfl);(case hg => rfl);(case hr => first | (go_simp;done) | (go_simp;rfl));(case hp => exact (Reps.none _ _));intro v103 w5 ho6 hb hg_ hnew_;clear hg_ hnew_;(first | rw [← Ny102.out] at ho6 | (simp only [Int.reduceToNat] at ho6;rw [← Ny102.out] at ho6));have n0_ := aZ_ (Kd.R_lower ho6 (below_size T1_));have n1_ := aZ_ (blk_below (g := gb101) (o := .cells #[.int .i64 a0_0,.int .i64 a0_1] 25 (0,0)) T3_ hb);have n2_ := aZ_ (below_step T1_ hb);clear BK101;clear HB;have HO104 := n0_;have BK101 := n1_;have HB := n2_;clear n0_ n1_ n2_;clear hb ho6))
 repeat (go_quiet (first | ((with_reducible refine gate_dst (N := 2) rfl ?_);refine box_event ?hg (N := 2) ?hd (cs := #[.int .i64 a0_0,.int .i64 a0_1]) (t := 25) ?hr ?_;(case hd => rfl);(case hg => rfl);(case hr => first | (go_simp;done) | (go_simp;rfl));intro gb101 hg w4 hbox hb;have n0_ := aZ_ (below_step T5_ hb);have n1_ := aZ_ (hbox);have n2_ := aZ_ ((T2_ : w.heap.size ≤ gb101));have n3_ := aZ_ ((T2_ : w.heap.size ≤ gb101));clear HB;have HB := n0_;have BK101 := n1_;have GW101 := n2_;have GE101 := n3_;clear n0_ n1_ n2_ n3_;clear hb hbox hg) | ((with_reducible refine gate_dst (N := 10) rfl ?_);refine Kd.R_lit (Kd.int .i64) _ 3 ?hg (N := 10) ?hd (xs := ([] : List Int)) (inner := []) (ok := fun _ => True) (okp := fun _ => True) ?hr ?hp (fun _ hk => hk) trivial (Below.refl _ _) (Nat.le_refl _) T49_ ?_;(case hd => rfl);(case hg => rfl);(case hr => first | (go_simp;done) | (go_simp;rfl));(case hp => exact (Reps.none _ _));intro v103 w5 ho6 hb hg_ hnew_;clear hg_ hnew_;(first | rw [← Ny102.out] at ho6 | (simp only [Int.reduceToNat] at ho6;rw [← Ny102.out] at ho6));have n0_ := aZ_ (Kd.R_lower ho6 (below_size T1_));have n1_ := aZ_ (blk_below (g := gb101) (o := .cells #[.int .i64 a0_0,.int .i64 a0_1] 25 (0,0)) T3_ hb);have n2_ := aZ_ (below_step T1_ hb);clear BK101;clear HB;have HO104 := n0_;have BK101 := n1_;have HB := n2_;clear n0_ n1_ n2_;clear hb ho6));go_upto_region 2 with (first | ((with_reducible refine gate_dst (N := 2) rfl ?_);refine box_event ?hg (N := 2) ?hd (cs := #[.int .i64 a0_0,.int .i64 a0_1]) (t := 25) ?hr ?_;(case hd => rfl);(case hg => rfl);(case hr => first | (go_simp;done) | (go_simp;rfl));intro gb101 hg w4 hbox hb;have n0_ := aZ_ (below_step T5_ hb);have n1_ := aZ_ (hbox);have n2_ := aZ_ ((T2_ : w.heap.size ≤ gb101));have n3_ := aZ_ ((T2_ : w.heap.size ≤ gb101));clear HB;have HB := n0_;have BK101 := n1_;have GW101 := n2_;have GE101 := n3_;clear n0_ n1_ n2_ n3_;clear hb hbox hg) | ((with_reducible refine gate_dst (N := 10) rfl ?_);refine Kd.R_lit (Kd.int .i64) _ 3 ?hg (N := 10) ?hd (xs := ([] : List Int)) (inner := []) (ok := fun _ => True) (okp := fun _ => True) ?hr ?hp (fun _ hk => hk) trivial (Below.refl _ _) (Nat.le_refl _) T49_ ?_;(case hd => rfl);(case hg => rfl);(case hr => first | (go_simp;done) | (go_simp;rfl));(case hp => exact (Reps.none _ _));intro v103 w5 ho6 hb hg_ hnew_;clear hg_ hnew_;(first | rw [← Ny102.out] at ho6 | (simp only [Int.reduceToNat] at ho6;rw [← Ny102.out] at ho6));have n0_ := aZ_ (Kd.R_lower ho6 (below_size T1_));have n1_ := aZ_ (blk_below (g := gb101) (o := .cells #[.int .i64 a0_0,.int .i64 a0_1] 25 (0,0)) T3_ hb);have n2_ := aZ_ (below_step T1_ hb);clear BK101;clear HB;have HO104 := n0_;have BK101 := n1_;have HB := n2_;clear n0_ n1_ n2_;clear hb ho6)))
 (try simp only [Act.put,List.setIfInBounds_toArray,List.set_cons_zero,List.set_cons_succ])
 go_cut [20] (fun v20 wc => ∃ (kq : Nat) (x20_2 : Bool),v20 = .bool x20_2 ∧ Aside0 (spec_MatrixOf.j0 kq a1 y102 x20_2 a0_0 a0_1 = some (r1,r2)) ∧ Aside0 (kq ≤ k) ∧ Aside0 (Kd.R (Kd.int .i64) 3 wc w.heap.size (fun _ => True) v103 y102) ∧ Aside0 (wc.heap[gb101]? = some (.cells #[.int .i64 a0_0,.int .i64 a0_1] 25 (0,0))) ∧ Aside0 (Below w.heap.size w wc))
 case first =>
  have H := HC3.out
  clear HC3
  replace H := Option.bind_eq_some_iff.mp H
  obtain ⟨t105,A70,H⟩ := H
  replace H : (if t105 = true then ((spec_l1In.f a1 0 a0_0).bind fun t106 => (spec_MatrixOf.j0 k a1 y102 (!t106) a0_0 a0_1)) else (spec_MatrixOf.j0 k a1 y102 true a0_0 a0_1)) = some (r1,r2) := H
  have A7 := aZ_ A70
  clear A70
  by_cases c8 : t105 = true
  ·subst c8
   have H1 : ((spec_l1In.f a1 0 a0_0).bind fun t106 => (spec_MatrixOf.j0 k a1 y102 (!t106) a0_0 a0_1)) = some (r1,r2) := by rw [if_pos rfl] at H;exact H
   clear H
   have H := H1
   clear H1
   replace H := Option.bind_eq_some_iff.mp H
   obtain ⟨t106,A90,H⟩ := H
   replace H : (spec_MatrixOf.j0 k a1 y102 (!t106) a0_0 a0_1) = some (r1,r2) := H
   have A9 := aZ_ A90
   clear A90
   have H' := aZ_ H
   clear H
   have hcz10_0 : w5.cell? ⟨gb101,0,none⟩ = some (.int .i64 a0_0) := (blk_cell BK101.out 0).trans rfl
   have hcz10_1 : w5.cell? ⟨gb101,1,none⟩ = some (.int .i64 a0_1) := (blk_cell BK101.out 1).trans rfl
   have hfz10_0 := blk_frozen BK101.out 0
   have hfz10_1 := blk_frozen BK101.out 1
   go_wp2_with (first | (go_at_call 17;(with_reducible refine (spec_IsTable.calls a0_0 a0_1 true _ A7.out).mono ?_);rintro e w11 ⟨rfl,hb⟩;have n0_ := aZ_ (Kd.R_below T47_ hb);have n1_ := aZ_ (blk_below (g := gb101) (o := .cells #[.int .i64 a0_0,.int .i64 a0_1] 25 (0,0)) T3_ hb);have n2_ := aZ_ (below_step T1_ hb);clear HO104;clear BK101;clear HB;have HO104 := n0_;have BK101 := n1_;have HB := n2_;clear n0_ n1_ n2_;(try clear hb);(try clear hb2);(try clear hk);(try clear hi);have hcz12_0 : w11.cell? ⟨gb101,0,none⟩ = some (.int .i64 a0_0) := (blk_cell BK101.out 0).trans rfl;have hcz12_1 : w11.cell? ⟨gb101,1,none⟩ = some (.int .i64 a0_1) := (blk_cell BK101.out 1).trans rfl;have hfz12_0 := blk_frozen BK101.out 0;have hfz12_1 := blk_frozen BK101.out 1) | (go_at_call 61;(with_reducible refine (spec_l1In.calls a1 0 a0_0 t106 _ A9.out).mono ?_);rintro e w' ⟨rfl,⟨nd,rfl⟩⟩;(try first | exact ⟨rfl,_,World.drewN_drewN _ _ _⟩ | exact ⟨rfl,_,Eq.trans (World.drewN_drewN _ _ _) (congrArg (World.drewN _) (Nat.add_assoc _ _ _))⟩)))
   repeat (go_quiet (first | (go_at_call 17;(with_reducible refine (spec_IsTable.calls a0_0 a0_1 true _ A7.out).mono ?_);rintro e w11 ⟨rfl,hb⟩;have n0_ := aZ_ (Kd.R_below T47_ hb);have n1_ := aZ_ (blk_below (g := gb101) (o := .cells #[.int .i64 a0_0,.int .i64 a0_1] 25 (0,0)) T3_ hb);have n2_ := aZ_ (below_step T1_ hb);clear HO104;clear BK101;clear HB;have HO104 := n0_;have BK101 := n1_;have HB := n2_;clear n0_ n1_ n2_;(try clear hb);(try clear hb2);(try clear hk);(try clear hi);have hcz12_0 : w11.cell? ⟨gb101,0,none⟩ = some (.int .i64 a0_0) := (blk_cell BK101.out 0).trans rfl;have hcz12_1 : w11.cell? ⟨gb101,1,none⟩ = some (.int .i64 a0_1) := (blk_cell BK101.out 1).trans rfl;have hfz12_0 := blk_frozen BK101.out 0;have hfz12_1 := blk_frozen BK101.out 1) | (go_at_call 61;(with_reducible refine (spec_l1In.calls a1 0 a0_0 t106 _ A9.out).mono ?_);rintro e w' ⟨rfl,⟨nd,rfl⟩⟩;(try first | exact ⟨rfl,_,World.drewN_drewN _ _ _⟩ | exact ⟨rfl,_,Eq.trans (World.drewN_drewN _ _ _) (congrArg (World.drewN _) (Nat.add_assoc _ _ _))⟩)));try go_wp2_with (first | (go_at_call 17;(with_reducible refine (spec_IsTable.calls a0_0 a0_1 true _ A7.out).mono ?_);rintro e w11 ⟨rfl,hb⟩;have n0_ := aZ_ (Kd.R_below T47_ hb);have n1_ := aZ_ (blk_below (g := gb101) (o := .cells #[.int .i64 a0_0,.int .i64 a0_1] 25 (0,0)) T3_ hb);have n2_ := aZ_ (below_step T1_ hb);clear HO104;clear BK101;clear HB;have HO104 := n0_;have BK101 := n1_;have HB := n2_;clear n0_ n1_ n2_;(try clear hb);(try clear hb2);(try clear hk);(try clear hi);have hcz12_0 : w11.cell? ⟨gb101,0,none⟩ = some (.int .i64 a0_0) := (blk_cell BK101.out 0).trans rfl;have hcz12_1 : w11.cell? ⟨gb101,1,none⟩ = some (.int .i64 a0_1) := (blk_cell BK101.out 1).trans rfl;have hfz12_0 := blk_frozen BK101.out 0;have hfz12_1 := blk_frozen BK101.out 1) | (go_at_call 61;(with_reducible refine (spec_l1In.calls a1 0 a0_0 t106 _ A9.out).mono ?_);rintro e w' ⟨rfl,⟨nd,rfl⟩⟩;(try first | exact ⟨rfl,_,World.drewN_drewN _ _ _⟩ | exact ⟨rfl,_,Eq.trans (World.drewN_drewN _ _ _) (congrArg (World.drewN _) (Nat.add_assoc _ _ _))⟩))))
   go_meet
   case rel => exact ⟨_,(!t106),T10_,H',⟨by first | omega | exact Nat.le_refl _⟩,⟨by (with_reducible repeat (first | apply Kd.R_alloc | apply Kd.R_drewN | apply Kd.R_drew));exact HO104.out⟩,⟨by (with_reducible repeat (first | refine blk_drewN ?_ _ | refine blk_drew ?_ | refine blk_alloc ?_ _));exact BK101.out⟩,⟨by repeat (first | (with_reducible first | exact HB.out | apply below_alloc | apply pw_below_drewN | apply below_drew1 | refine below_set ?_ GE101.out) | exact HB.out)⟩⟩
  ·replace c8 := Bool.eq_false_iff.mpr c8
   subst c8
   have H1 : (spec_MatrixOf.j0 k a1 y102 true a0_0 a0_1) = some (r1,r2) := by rw [if_neg (show ¬ (false = true) by decide)] at H;exact H
   clear H
   have H := H1
   clear H1
   have H' := aZ_ H
   clear H
   have hcz13_0 : w5.cell? ⟨gb101,0,none⟩ = some (.int .i64 a0_0) := (blk_cell BK101.out 0).trans rfl
   have hcz13_1 : w5.cell? ⟨gb101,1,none⟩ = some (.int .i64 a0_1) := (blk_cell BK101.out 1).trans rfl
   have hfz13_0 := blk_frozen BK101.out 0
   have hfz13_1 := blk_frozen BK101.out 1
   go_wp2_with (first | (go_at_call 17;(with_reducible refine (spec_IsTable.calls a0_0 a0_1 false _ A7.out).mono ?_);rintro e w14 ⟨rfl,hb⟩;have n0_ := aZ_ (Kd.R_below T47_ hb);have n1_ := aZ_ (blk_below (g := gb101) (o := .cells #[.int .i64 a0_0,.int .i64 a0_1] 25 (0,0)) T3_ hb);have n2_ := aZ_ (below_step T1_ hb);clear HO104;clear BK101;clear HB;have HO104 := n0_;have BK101 := n1_;have HB := n2_;clear n0_ n1_ n2_;(try clear hb);(try clear hb2);(try clear hk);(try clear hi)))
   repeat (go_quiet (first | (go_at_call 17;(with_reducible refine (spec_IsTable.calls a0_0 a0_1 false _ A7.out).mono ?_);rintro e w14 ⟨rfl,hb⟩;have n0_ := aZ_ (Kd.R_below T47_ hb);have n1_ := aZ_ (blk_below (g := gb101) (o := .cells #[.int .i64 a0_0,.int .i64 a0_1] 25 (0,0)) T3_ hb);have n2_ := aZ_ (below_step T1_ hb);clear HO104;clear BK101;clear HB;have HO104 := n0_;have BK101 := n1_;have HB := n2_;clear n0_ n1_ n2_;(try clear hb);(try clear hb2);(try clear hk);(try clear hi)));try go_wp2_with (first | (go_at_call 17;(with_reducible refine (spec_IsTable.calls a0_0 a0_1 false _ A7.out).mono ?_);rintro e w14 ⟨rfl,hb⟩;have n0_ := aZ_ (Kd.R_below T47_ hb);have n1_ := aZ_ (blk_below (g := gb101) (o := .cells #[.int .i64 a0_0,.int .i64 a0_1] 25 (0,0)) T3_ hb);have n2_ := aZ_ (below_step T1_ hb);clear HO104;clear BK101;clear HB;have HO104 := n0_;have BK101 := n1_;have HB := n2_;clear n0_ n1_ n2_;(try clear hb);(try clear hb2);(try clear hk);(try clear hi))))
   go_meet
   case rel => exact ⟨_,(true),T10_,H',⟨by first | omega | exact Nat.le_refl _⟩,⟨by (with_reducible repeat (first | apply Kd.R_alloc | apply Kd.R_drewN | apply Kd.R_drew));exact HO104.out⟩,⟨by (with_reducible repeat (first | refine blk_drewN ?_ _ | refine blk_drew ?_ | refine blk_alloc ?_ _));exact BK101.out⟩,⟨by repeat (first | (with_reducible first | exact HB.out | apply below_alloc | apply pw_below_drewN | apply below_drew1 | refine below_set ?_ GE101.out) | exact HB.out)⟩⟩
 case rest =>
  clear HC3
  try clear c2
  try clear p2
  try clear c8
  try clear hcz10_0
  try clear hcz10_1
  try clear hcz12_0
  try clear hcz12_1
  try clear hcz13_0
  try clear hcz13_1
  try clear hfz10_0
  try clear hfz10_1
  try clear hfz12_0
  try clear hfz12_1
  try clear hfz13_0
  try clear hfz13_1
  obtain ⟨kq,x20_2,rfl,HA,HJ2,HO_6,BK101,HB⟩ := hcut
  cases kq with
  | zero => exact absurd HA.out (by simp [spec_MatrixOf.j0])
  | succ kj2 =>
   have H := HA.out
   clear HA
   simp only [spec_MatrixOf.j0] at H
   by_cases c15 : x20_2 = true
   ·subst c15
    have H1 : (some (y102,false)) = some (r1,r2) := by rw [if_pos rfl] at H;exact H
    clear H
    have H := H1
    clear H1
    simp only [Option.some.injEq,Prod.mk.injEq] at H
    obtain ⟨rfl,rfl⟩ := H
    go_wp2
    repeat (go_quiet (fail);try go_wp2)
    go_ret2
    exact ⟨_,by first | rfl | (simp [errW_none,errW_some] <;> rfl) | (simp [*,errW_none,errW_some] <;> rfl),by (with_reducible repeat (first | apply Kd.R_alloc | apply Kd.R_drewN | apply Kd.R_drew));exact HO_6.out,by repeat (first | (with_reducible first | exact HB.out | apply below_alloc | apply pw_below_drewN | apply below_drew1 | refine below_set ?_ GE101.out) | exact HB.out)⟩
   ·replace c15 := Bool.eq_false_iff.mpr c15
    subst c15
    have H1 : (spec_MatrixOf.l0 kj2 a1 y102 0 a0_0 a0_1) = some (r1,r2) := by rw [if_neg (show ¬ (false = true) by decide)] at H;exact H
    clear H
    have H := H1
    clear H1
    have H' := aZ_ H
    clear H
    go_wp2
    repeat (go_quiet (fail);try go_wp2)
    go_loopg [6,7] kj2 (fun kq v6 v7 w' => ∃ (x6_2 : List Int) (x7_2 : Int),v7 = .int .i64 x7_2 ∧ Aside0 (spec_MatrixOf.l0 kq a1 x6_2 x7_2 a0_0 a0_1 = some (r1,r2)) ∧ Aside0 (kq ≤ kj2) ∧ Aside0 (Kd.R (Kd.int .i64) 3 w' w.heap.size (fun _ => True) v6 x6_2) ∧ Aside0 (w'.heap[gb101]? = some (.cells #[.int .i64 a0_0,.int .i64 a0_1] 25 (0,0))) ∧ Aside0 (Below w.heap.size w w'))
    case atStart => exact ⟨(y102),(0),T10_,H',⟨Nat.le_refl _⟩,⟨by (with_reducible repeat (first | apply Kd.R_alloc | apply Kd.R_drewN | apply Kd.R_drew));exact HO_6.out⟩,⟨by (with_reducible repeat (first | refine blk_drewN ?_ _ | refine blk_drew ?_ | refine blk_alloc ?_ _));exact BK101.out⟩,⟨by repeat (first | (with_reducible first | exact HB.out | apply below_alloc | apply pw_below_drewN | apply below_drew1 | refine below_set ?_ GE101.out) | exact HB.out)⟩⟩
    case round =>
     clear H'
     try clear c1
     try clear c2
     try clear p2
     try clear c8
     try clear c15
     try clear hcz10_0
     try clear hcz10_1
     try clear hcz12_0
     try clear hcz12_1
     try clear hcz13_0
     try clear hcz13_1
     try clear hfz10_0
     try clear hfz10_1
     try clear hfz12_0
     try clear hfz12_1
     try clear hfz13_0
     try clear hfz13_1
     try clear p2
     obtain ⟨x6_2,x7_2,rfl,HA,HK2,HO_6,BK101,HB⟩ := hrel
     cases gk with
     | zero => exact absurd HA.out (by simp [spec_MatrixOf.l0])
     | succ k2 =>
      have H := HA.out
      clear HA
      simp only [spec_MatrixOf.l0] at H
      by_cases c16 : 0 ≤ a1
      ·rw [if_pos c16] at H
       have c16b0 := eq_true c16
       have c16b1 : decide (0 ≤ a1) = true := decide_eq_true c16
       clear c16
       obtain ⟨ji17,hji17⟩ : ∃ j_ : Int,(shl .i64 1 a1) = j_ := ⟨_,rfl⟩
       replace H : (if x7_2 < (ji17) then (spec_MatrixOf.l1 k2 a1 x6_2 x7_2 0 0 a0_0 a0_1) else (some (x6_2,true))) = some (r1,r2) := by first | (rw [hji17] at H;exact H) | (simp only [hji17] at H ⊢;exact H)
       have hji17_ : (IntKind.i64.wrap (1 * 2 ^ min a1.toNat 64)) = ji17 := hji17
       have hji17z : a1 ≤ 64 → (IntKind.i64.wrap (1 * 2 ^ a1.toNat)) = ji17 := shl_small hji17
       have hji17u : (IntKind.i64.wrap (2 ^ min a1.toNat 64)) = ji17 := by have h_ := hji17_;rw [Int.one_mul] at h_;exact h_
       have hji17v : a1 ≤ 64 → (IntKind.i64.wrap (2 ^ a1.toNat)) = ji17 := fun hle_ => by have h_ := hji17z hle_;rw [Int.one_mul] at h_;exact h_
       have hji17y : (wrap64 (1 * 2 ^ min a1.toNat 64)) = ji17 := (i64_w _).symm.trans hji17_
       have hji17x : a1 ≤ 64 → (wrap64 (1 * 2 ^ a1.toNat)) = ji17 := fun h_ => (i64_w _).symm.trans (hji17z h_)
       by_cases c18 : x7_2 < (ji17)
       ·rw [if_pos c18] at H
        have c18b0 : decide (x7_2 < (ji17)) = true := decide_eq_true c18
        clear c18
        have H' := aZ_ H
        clear H
        go_wp2
        repeat (go_quiet (fail);try go_wp2)
        go_loopg [8,9] k2 (fun kq v8 v9 w' => ∃ (x8_3 : Int) (x9_3 : Int),v8 = .int .i64 x8_3 ∧ v9 = .int .i64 x9_3 ∧ Aside0 (spec_MatrixOf.l1 kq a1 x6_2 x7_2 x8_3 x9_3 a0_0 a0_1 = some (r1,r2)) ∧ Aside0 (kq ≤ k2) ∧ Aside0 (Kd.R (Kd.int .i64) 3 w' w.heap.size (fun _ => True) u6 x6_2) ∧ Aside0 (w'.heap[gb101]? = some (.cells #[.int .i64 a0_0,.int .i64 a0_1] 25 (0,0))) ∧ Aside0 (Below w.heap.size w w'))
        case atStart => exact ⟨(0),(0),T10_,T10_,H',⟨Nat.le_refl _⟩,⟨by (with_reducible repeat (first | apply Kd.R_alloc | apply Kd.R_drewN | apply Kd.R_drew));exact HO_6.out⟩,⟨by (with_reducible repeat (first | refine blk_drewN ?_ _ | refine blk_drew ?_ | refine blk_alloc ?_ _));exact BK101.out⟩,⟨by repeat (first | (with_reducible first | exact HB.out | apply below_alloc | apply pw_below_drewN | apply below_drew1 | refine below_set ?_ GE101.out) | exact HB.out)⟩⟩
        case round =>
         clear H'
         try clear c1
         try clear c2
         try clear p2
         try clear p6
         try clear c8
         try clear c15
         try clear c16
         try clear c16b0
         try clear c16b1
         try clear c18
         try clear c18b0
         try clear hcz10_0
         try clear hcz10_1
         try clear hcz12_0
         try clear hcz12_1
         try clear hcz13_0
         try clear hcz13_1
         try clear hfz10_0
         try clear hfz10_1
         try clear hfz12_0
         try clear hfz12_1
         try clear hfz13_0
         try clear hfz13_1
         try clear p2
         obtain ⟨x8_3,x9_3,rfl,rfl,HA,HK3,HO_6,BK101,HB⟩ := hrel
         cases gk with
         | zero => exact absurd HA.out (by simp [spec_MatrixOf.l1])
         | succ k3 =>
          have H := HA.out
          clear HA
          simp only [spec_MatrixOf.l1] at H
          obtain ⟨ji19,hji19⟩ : ∃ j_ : Int,(wrap64 (a0_0 - a1)) = j_ := ⟨_,rfl⟩
          replace H : (if 0 ≤ (ji19) then (if x9_3 < (shl .i64 1 (ji19)) then (if 0 ≤ a1 then (if 0 ≤ (Go.bits .or .i64 x7_2 (shl .i64 x9_3 a1)) then (if 0 ≤ x9_3 then (spec_MatrixOf.l1 k3 a1 x6_2 x7_2 (Go.bits .or .i64 x8_3 (shl .i64 (Go.bits .and .i64 (shr .i64 a0_1 (Go.bits .or .i64 x7_2 (shl .i64 x9_3 a1))) 1) x9_3)) (wrap64 (x9_3 + 1)) a0_0 a0_1) else (none)) else (none)) else (none)) else (if x6_2.length < 17592186044416 then (spec_MatrixOf.l0 k3 a1 (x6_2 ++ [x8_3]) (wrap64 (x7_2 + 1)) a0_0 a0_1) else (none))) else (none)) = some (r1,r2) := by first | (rw [hji19] at H;exact H) | (simp only [hji19] at H ⊢;exact H)
          have hji19w : (IntKind.i64.wrap (a0_0 - a1)) = ji19 := (i64_w _).trans hji19
          by_cases c20 : 0 ≤ (ji19)
          ·rw [if_pos c20] at H
           have c20b0 := eq_true c20
           have c20b1 : decide (0 ≤ (ji19)) = true := decide_eq_true c20
           clear c20
           obtain ⟨ji21,hji21⟩ : ∃ j_ : Int,(shl .i64 1 (ji19)) = j_ := ⟨_,rfl⟩
           replace H : (if x9_3 < (ji21) then (if 0 ≤ a1 then (if 0 ≤ (Go.bits .or .i64 x7_2 (shl .i64 x9_3 a1)) then (if 0 ≤ x9_3 then (spec_MatrixOf.l1 k3 a1 x6_2 x7_2 (Go.bits .or .i64 x8_3 (shl .i64 (Go.bits .and .i64 (shr .i64 a0_1 (Go.bits .or .i64 x7_2 (shl .i64 x9_3 a1))) 1) x9_3)) (wrap64 (x9_3 + 1)) a0_0 a0_1) else (none)) else (none)) else (none)) else (if x6_2.length < 17592186044416 then (spec_MatrixOf.l0 k3 a1 (x6_2 ++ [x8_3]) (wrap64 (x7_2 + 1)) a0_0 a0_1) else (none))) = some (r1,r2) := by first | (rw [hji21] at H;exact H) | (simp only [hji21] at H ⊢;exact H)
           have hji21_ : (IntKind.i64.wrap (1 * 2 ^ min (ji19).toNat 64)) = ji21 := hji21
           have hji21z : (ji19) ≤ 64 → (IntKind.i64.wrap (1 * 2 ^ (ji19).toNat)) = ji21 := shl_small hji21
           have hji21u : (IntKind.i64.wrap (2 ^ min (ji19).toNat 64)) = ji21 := by have h_ := hji21_;rw [Int.one_mul] at h_;exact h_
           have hji21v : (ji19) ≤ 64 → (IntKind.i64.wrap (2 ^ (ji19).toNat)) = ji21 := fun hle_ => by have h_ := hji21z hle_;rw [Int.one_mul] at h_;exact h_
           have hji21y : (wrap64 (1 * 2 ^ min (ji19).toNat 64)) = ji21 := (i64_w _).symm.trans hji21_
           have hji21x : (ji19) ≤ 64 → (wrap64 (1 * 2 ^ (ji19).toNat)) = ji21 := fun h_ => (i64_w _).symm.trans (hji21z h_)
           by_cases c22 : x9_3 < (ji21)
           ·rw [if_pos c22] at H
            have c22b0 : decide (x9_3 < (ji21)) = true := decide_eq_true c22
            clear c22
            by_cases c23 : 0 ≤ a1
            ·rw [if_pos c23] at H
             have c23b0 := eq_true c23
             have c23b1 : decide (0 ≤ a1) = true := decide_eq_true c23
             clear c23
             obtain ⟨ji24,hji24⟩ : ∃ j_ : Int,(shl .i64 x9_3 a1) = j_ := ⟨_,rfl⟩
             replace H : (if 0 ≤ (Go.bits .or .i64 x7_2 (ji24)) then (if 0 ≤ x9_3 then (spec_MatrixOf.l1 k3 a1 x6_2 x7_2 (Go.bits .or .i64 x8_3 (shl .i64 (Go.bits .and .i64 (shr .i64 a0_1 (Go.bits .or .i64 x7_2 (ji24))) 1) x9_3)) (wrap64 (x9_3 + 1)) a0_0 a0_1) else (none)) else (none)) = some (r1,r2) := by first | (rw [hji24] at H;exact H) | (simp only [hji24] at H ⊢;exact H)
             have hji24_ : (IntKind.i64.wrap (x9_3 * 2 ^ min a1.toNat 64)) = ji24 := hji24
             have hji24z : a1 ≤ 64 → (IntKind.i64.wrap (x9_3 * 2 ^ a1.toNat)) = ji24 := shl_small hji24
             have hji24y : (wrap64 (x9_3 * 2 ^ min a1.toNat 64)) = ji24 := (i64_w _).symm.trans hji24_
             have hji24x : a1 ≤ 64 → (wrap64 (x9_3 * 2 ^ a1.toNat)) = ji24 := fun h_ => (i64_w _).symm.trans (hji24z h_)
             by_cases c25 : 0 ≤ (Go.bits .or .i64 x7_2 (ji24))
             ·rw [if_pos c25] at H
              have c25b0 := eq_true c25
              have c25b1 : decide (0 ≤ (Go.bits .or .i64 x7_2 (ji24))) = true := decide_eq_true c25
              clear c25
              obtain ⟨ji26,hji26⟩ : ∃ j_ : Int,(shr .i64 a0_1 (Go.bits .or .i64 x7_2 (ji24))) = j_ := ⟨_,rfl⟩
              replace H : (if 0 ≤ x9_3 then (spec_MatrixOf.l1 k3 a1 x6_2 x7_2 (Go.bits .or .i64 x8_3 (shl .i64 (Go.bits .and .i64 (ji26) 1) x9_3)) (wrap64 (x9_3 + 1)) a0_0 a0_1) else (none)) = some (r1,r2) := by first | (rw [hji26] at H;exact H) | (simp only [hji26] at H ⊢;exact H)
              have hji26_ : (a0_1 / 2 ^ min (Go.bits .or .i64 x7_2 (ji24)).toNat 64) = ji26 := hji26
              have hji26z : (Go.bits .or .i64 x7_2 (ji24)) ≤ 64 → (a0_1 / 2 ^ (Go.bits .or .i64 x7_2 (ji24)).toNat) = ji26 := shr_small hji26
              by_cases c27 : 0 ≤ x9_3
              ·rw [if_pos c27] at H
               have c27b0 := eq_true c27
               have c27b1 : decide (0 ≤ x9_3) = true := decide_eq_true c27
               clear c27
               obtain ⟨ji28,hji28⟩ : ∃ j_ : Int,(shl .i64 (Go.bits .and .i64 (ji26) 1) x9_3) = j_ := ⟨_,rfl⟩
               replace H : (spec_MatrixOf.l1 k3 a1 x6_2 x7_2 (Go.bits .or .i64 x8_3 (ji28)) (wrap64 (x9_3 + 1)) a0_0 a0_1) = some (r1,r2) := by first | (rw [hji28] at H;exact H) | (simp only [hji28] at H ⊢;exact H)
               have hji28_ : (IntKind.i64.wrap ((Go.bits .and .i64 (ji26) 1) * 2 ^ min x9_3.toNat 64)) = ji28 := hji28
               have hji28z : x9_3 ≤ 64 → (IntKind.i64.wrap ((Go.bits .and .i64 (ji26) 1) * 2 ^ x9_3.toNat)) = ji28 := shl_small hji28
               have hji28y : (wrap64 ((Go.bits .and .i64 (ji26) 1) * 2 ^ min x9_3.toNat 64)) = ji28 := (i64_w _).symm.trans hji28_
               have hji28x : x9_3 ≤ 64 → (wrap64 ((Go.bits .and .i64 (ji26) 1) * 2 ^ x9_3.toNat)) = ji28 := fun h_ => (i64_w _).symm.trans (hji28z h_)
               have H' := aZ_ H
               clear H
               have hcz29_0 : wr.cell? ⟨gb101,0,none⟩ = some (.int .i64 a0_0) := (blk_cell BK101.out 0).trans rfl
               have hcz29_1 : wr.cell? ⟨gb101,1,none⟩ = some (.int .i64 a0_1) := (blk_cell BK101.out 1).trans rfl
               have hfz29_0 := blk_frozen BK101.out 0
               have hfz29_1 := blk_frozen BK101.out 1
               go_wp2
               repeat (go_quiet (fail);try go_wp2)
               go_roundg k3
               case measure => have := HJ2.out;have := HK2.out;have := HK3.out;omega
               case rel => exact ⟨(Go.bits .or .i64 x8_3 (ji28)),(wrap64 (x9_3 + 1)),(by first | rfl | (simp;done) | (simp only [← hji28] <;> (first | rfl | simp)) | (simp [*];done)),T10_,H',⟨by have := HJ2.out;have := HK2.out;have := HK3.out;omega⟩,⟨by (with_reducible repeat (first | apply Kd.R_alloc | apply Kd.R_drewN | apply Kd.R_drew));exact HO_6.out⟩,⟨by (with_reducible repeat (first | refine blk_drewN ?_ _ | refine blk_drew ?_ | refine blk_alloc ?_ _));exact BK101.out⟩,⟨by repeat (first | (with_reducible first | exact HB.out | apply below_alloc | apply pw_below_drewN | apply below_drew1 | refine below_set ?_ GE101.out) | exact HB.out)⟩⟩
              ·rw [if_neg c27] at H
               exact absurd H T49_
             ·rw [if_neg c25] at H
              exact absurd H T49_
            ·rw [if_neg c23] at H
             exact absurd H T49_
           ·rw [if_neg c22] at H
            have c22b0 : decide (x9_3 < (ji21)) = false := decide_eq_false c22
            clear c22
            by_cases c30 : x6_2.length < 17592186044416
            ·rw [if_pos c30] at H
             have LMc30 := aZ_ c30
             clear c30
             obtain ⟨y107,hy107⟩ : ∃ y_ : List Int,y_ = (x6_2 ++ [x8_3]) := ⟨_,rfl⟩
             replace H : (spec_MatrixOf.l0 k3 a1 y107 (wrap64 (x7_2 + 1)) a0_0 a0_1) = some (r1,r2) := by first | (rw [hy107];with_reducible exact H) | (have H2_ := (Option.bind_some _ _).symm.trans H;rw [hy107];with_reducible exact H2_) | (have H2_ := (Option.bind_some _ _).symm.trans H;with_reducible exact H2_) | with_reducible exact H | (rw [hy107];exact H) | exact H
             have Ny107 := aZ_ hy107
             clear hy107
             have H' := aZ_ H
             clear H
             have hcz31_0 : wr.cell? ⟨gb101,0,none⟩ = some (.int .i64 a0_0) := (blk_cell BK101.out 0).trans rfl
             have hcz31_1 : wr.cell? ⟨gb101,1,none⟩ = some (.int .i64 a0_1) := (blk_cell BK101.out 1).trans rfl
             have hfz31_0 := blk_frozen BK101.out 0
             have hfz31_1 := blk_frozen BK101.out 1
             go_wp2_with (first | ((with_reducible refine gate_builtin (b := .append) (xs := #[.tmp 50,.tmp 52]) rfl ?_);at_builtin;refine Kd.R_append (Kd.int .i64) (w0 := w) w.heap.size rfl (.tmp 50) (.tmp 52) 27 3 (.int .i64 0) 8 rfl Try.underlying27 info3 rfl T48_ T44_ u6 x6_2 x8_3 [.int .i64 x8_3] (fun _ => True) (fun _ => False) rfl rfl ?aP (fun _ hk => hk.elim) ?aF ?aO ?aB ?aS ?aL ?_;(case aP => exact rfl);(case aB => exact T1_);(case aF => exact (fun _ _ => trivial));(case aO => exact T68_);(case aS => exact (below_size T1_));(case aL => have := LMc30.out;omega);intro v108 w32 ho hb hg hat;rw [← Ny107.out] at ho;have n0_ := aZ_ (blk_grown (g := gb101) (o := .cells #[.int .i64 a0_0,.int .i64 a0_1] 25 (0,0)) T3_ hg (Kd.R_ne HO_6.out BK101.out T48_));have n1_ := aZ_ (hb);have n2_ := aZ_ (ho);clear BK101;clear HB;clear HO_6;have BK101 := n0_;have HB := n1_;have HO109 := n2_;clear n0_ n1_ n2_;clear ho hb hg hat))
             repeat (go_quiet (first | ((with_reducible refine gate_builtin (b := .append) (xs := #[.tmp 50,.tmp 52]) rfl ?_);at_builtin;refine Kd.R_append (Kd.int .i64) (w0 := w) w.heap.size rfl (.tmp 50) (.tmp 52) 27 3 (.int .i64 0) 8 rfl Try.underlying27 info3 rfl T48_ T44_ u6 x6_2 x8_3 [.int .i64 x8_3] (fun _ => True) (fun _ => False) rfl rfl ?aP (fun _ hk => hk.elim) ?aF ?aO ?aB ?aS ?aL ?_;(case aP => exact rfl);(case aB => exact T1_);(case aF => exact (fun _ _ => trivial));(case aO => exact T68_);(case aS => exact (below_size T1_));(case aL => have := LMc30.out;omega);intro v108 w32 ho hb hg hat;rw [← Ny107.out] at ho;have n0_ := aZ_ (blk_grown (g := gb101) (o := .cells #[.int .i64 a0_0,.int .i64 a0_1] 25 (0,0)) T3_ hg (Kd.R_ne HO_6.out BK101.out T48_));have n1_ := aZ_ (hb);have n2_ := aZ_ (ho);clear BK101;clear HB;clear HO_6;have BK101 := n0_;have HB := n1_;have HO109 := n2_;clear n0_ n1_ n2_;clear ho hb hg hat));try go_wp2_with (first | ((with_reducible refine gate_builtin (b := .append) (xs := #[.tmp 50,.tmp 52]) rfl ?_);at_builtin;refine Kd.R_append (Kd.int .i64) (w0 := w) w.heap.size rfl (.tmp 50) (.tmp 52) 27 3 (.int .i64 0) 8 rfl Try.underlying27 info3 rfl T48_ T44_ u6 x6_2 x8_3 [.int .i64 x8_3] (fun _ => True) (fun _ => False) rfl rfl ?aP (fun _ hk => hk.elim) ?aF ?aO ?aB ?aS ?aL ?_;(case aP => exact rfl);(case aB => exact T1_);(case aF => exact (fun _ _ => trivial));(case aO => exact T68_);(case aS => exact (below_size T1_));(case aL => have := LMc30.out;omega);intro v108 w32 ho hb hg hat;rw [← Ny107.out] at ho;have n0_ := aZ_ (blk_grown (g := gb101) (o := .cells #[.int .i64 a0_0,.int .i64 a0_1] 25 (0,0)) T3_ hg (Kd.R_ne HO_6.out BK101.out T48_));have n1_ := aZ_ (hb);have n2_ := aZ_ (ho);clear BK101;clear HB;clear HO_6;have BK101 := n0_;have HB := n1_;have HO109 := n2_;clear n0_ n1_ n2_;clear ho hb hg hat)))
             go_roundg k3
             case measure => have := HJ2.out;have := HK2.out;have := HK3.out;omega
             case rel => exact ⟨(y107),(wrap64 (x7_2 + 1)),T10_,H',⟨by have := HJ2.out;have := HK2.out;have := HK3.out;omega⟩,⟨by (with_reducible repeat (first | apply Kd.R_alloc | apply Kd.R_drewN | apply Kd.R_drew));exact HO109.out⟩,⟨by (with_reducible repeat (first | refine blk_drewN ?_ _ | refine blk_drew ?_ | refine blk_alloc ?_ _));exact BK101.out⟩,⟨by repeat (first | (with_reducible first | exact HB.out | apply below_alloc | apply pw_below_drewN | apply below_drew1 | refine below_set ?_ GE101.out) | exact HB.out)⟩⟩
            ·rw [if_neg c30] at H
             exact absurd H T49_
          ·rw [if_neg c20] at H
           exact absurd H T49_
       ·rw [if_neg c18] at H
        have c18b0 : decide (x7_2 < (ji17)) = false := decide_eq_false c18
        clear c18
        simp only [Option.some.injEq,Prod.mk.injEq] at H
        obtain ⟨rfl,rfl⟩ := H
        go_wp2
        repeat (go_quiet (fail);try go_wp2)
        go_ret2
        exact ⟨_,by first | rfl | (simp [errW_none,errW_some] <;> rfl) | (simp only [← hji17];first | rfl | (simp [errW_none,errW_some] <;> rfl)) | (simp [*,errW_none,errW_some] <;> rfl),by (with_reducible repeat (first | apply Kd.R_alloc | apply Kd.R_drewN | apply Kd.R_drew));exact HO_6.out,by repeat (first | (with_reducible first | exact HB.out | apply below_alloc | apply pw_below_drewN | apply below_drew1 | refine below_set ?_ GE101.out) | exact HB.out)⟩
      ·rw [if_neg c16] at H
       exact absurd H T49_
def impl_TableOfMatrix.bit (l : List Int) (s x : Nat) : Bool := Go.bits .and .i64 (shr .i64 (rd l ((x % 2 ^ s : Nat) : Int)) ((x / 2 ^ s : Nat) : Int)) 1 == 1
def impl_TableOfMatrix.bad (m : Nat) (r : Int) : Bool := decide (r < 0) || (r / 2 ^ 2 ^ m != 0)
def impl_TableOfMatrix.ok (n k : Int) (len : Nat) : Bool := decide (0 ≤ n ∧ n ≤ 5 ∧ 0 ≤ k ∧ k ≤ n ∧ len = 2 ^ k.toNat)
def impl_TableOfMatrix.f (l0 : List Int) (a1 a2 : Int) : Option (Int × Int × Bool) :=
 if l0.length < 9223372036854775807 then (if impl_TableOfMatrix.ok a1 a2 l0.length = true then (if B.exN (fun i => impl_TableOfMatrix.bad (a1 - a2).toNat (rd l0 i)) l0.length = true then some (0,0,false) else some (a1,((B.tabN (impl_TableOfMatrix.bit l0 a2.toNat) (2 ^ a1.toNat) : Nat) : Int),true)) else some (0,0,false)) else none
set_option maxHeartbeats 400000 in
set_option maxRecDepth 100000 in
theorem impl_TableOfMatrix_1.any (l : List Int) (s x : Nat) (A : Option Addr) (c : Nat) (hs : s ≤ 5) (hx : x < 32) (hl : l.length = 2 ^ s) (g1 g2 : Nat) (W : World) (hr : Kd.C (Kd.int .i64) W A l.length l)
  (h1 : W.heap[g1]? = some (.cells #[.slice A l.length c] 27 (0,0))) (h2 : W.heap[g2]? = some (.cells #[.int .i64 s] 3 (0,0))) :
  Gives Try.prog 71 #[.pointer (some ⟨g1,0,none⟩),.pointer (some ⟨g2,0,none⟩)] #[.int .i64 x] (.bool (impl_TableOfMatrix.bit l s x)) W := by
 show Calls Try.prog 71 #[.int .i64 x,.pointer (some ⟨g1,0,none⟩),.pointer (some ⟨g2,0,none⟩)] W _
 have hp := B.pow_le hs
 have hp0 := B.pow_pos s
 have hm : x % 2 ^ s < l.length := by rw [hl];exact Nat.mod_lt _ hp0
 have hd : x / 2 ^ s ≤ x := Nat.div_le_self _ _
 have hq : impl_TableOfMatrix.bit l s x = (Go.bits .and .i64 (shr .i64 (rd l ((x % 2 ^ s : Nat) : Int)) ((x / 2 ^ s : Nat) : Int)) 1 == 1) := rfl
 have e1 : IntKind.i64.wrap (2 ^ s) = ((2 ^ s : Nat) : Int) := by rw [i64_w];exact B.wrap64_pow T44_
 have e2 : IntKind.i64.wrap (((2 ^ s : Nat) : Int) - 1) = ((2 ^ s - 1 : Nat) : Int) := by rw [i64_w,B.wrap64_of T44_ T44_];omega
 have e3 : Go.bits .and .i64 (x : Int) ((2 ^ s - 1 : Nat) : Int) = ((x % 2 ^ s : Nat) : Int) := by rw [B.and_cast T44_ T44_,Nat.and_two_pow_sub_one_eq_mod]
 have e4 : (x : Int) / 2 ^ s = ((x / 2 ^ s : Nat) : Int) := by simp
 generalize x % 2 ^ s = a at hm hq e3
 generalize x / 2 ^ s = b at hd hq e4
 generalize 2 ^ s - 1 = M1 at e2 e3
 generalize 2 ^ s = M at e1 e2 hp hl hp0
 obtain ⟨v,hv⟩ : ∃ v,shr .i64 (rd l (a : Int)) (b : Int) = v := ⟨_,rfl⟩
 have hv2 : (rd l (a : Int)) / 2 ^ b = v := by rw [← hv];unfold shr;simp only [IntKind.bits,Int.toNat_natCast,Nat.min_eq_left (show b ≤ 64 by omega)]
 rw [hv] at hq
 clear hv
 obtain ⟨ad,rfl,he⟩ := Kd.at_int hr (a : Int) T44_ T44_
 rw [Int.toNat_natCast] at he
 have hc0 : W.cell? ⟨g1,0,none⟩ = some (.slice (some ad) l.length c) := (blk_cell h1 0).trans rfl
 have hd0 : W.cell? ⟨g2,0,none⟩ = some (.int .i64 s) := (blk_cell h2 0).trans rfl
 have hq1 := aZ_ hq
 have b1 : (a : Int) < (l.length : Int) := by omega
 have b2 : (s : Int) ≤ 64 := by omega
 have b3 : (b : Int) ≤ 64 := by omega
 clear h1 h2 hr hp hp0 hl hq hm hd
 go_enter Try.func71,Try.ntmps71
 go_wp2
 go_quiet (fail)
 go_wp2
 go_ret
 exact ⟨by rw [hq1.out];rfl,by repeat (first | (with_reducible first | exact Below.refl _ _ | apply below_alloc | apply pw_below_drewN | apply below_drew1) | exact Below.refl _ _)⟩
set_option maxHeartbeats 400000 in
set_option maxRecDepth 100000 in
theorem impl_TableOfMatrix.no (A0 : Option Addr) (c0 : Nat) (l0 : List Int) (a1 a2 : Int) (w : World) (h : impl_TableOfMatrix.ok a1 a2 l0.length = false) :
  Calls Try.prog 28 #[.slice A0 l0.length c0,.int .i64 a1,.int .i64 a2] w fun e w' => e = .returned (.tuple #[.agg #[.int .i64 0,.int .i64 0],.bool false]) ∧ Below w.heap.size w w' := by
 have hu := Try.underlying25
 have k1 := blk_alloc (blk_alloc (blk_new w (.cells #[.slice A0 l0.length c0] 27 (0,0))) (.cells #[.int .i64 a2] 3 (0,0))) (.cells #[.int .i64 0,.int .i64 0] 25 (0,0))
 have k2 : (((w.alloc (.cells #[.slice A0 l0.length c0] 27 (0,0))).alloc (.cells #[.int .i64 a2] 3 (0,0))).alloc (.cells #[.int .i64 0,.int .i64 0] 25 (0,0))).heap[w.heap.size + 1]? = some (.cells #[.int .i64 a2] 3 (0,0)) := blk_alloc (by simpa using blk_new (w.alloc (.cells #[.slice A0 l0.length c0] 27 (0,0))) (.cells #[.int .i64 a2] 3 (0,0))) _
 have k3 : (((w.alloc (.cells #[.slice A0 l0.length c0] 27 (0,0))).alloc (.cells #[.int .i64 a2] 3 (0,0))).alloc (.cells #[.int .i64 0,.int .i64 0] 25 (0,0))).heap[w.heap.size + 2]? = some (.cells #[.int .i64 0,.int .i64 0] 25 (0,0)) := by simpa using blk_new ((w.alloc (.cells #[.slice A0 l0.length c0] 27 (0,0))).alloc (.cells #[.int .i64 a2] 3 (0,0))) (.cells #[.int .i64 0,.int .i64 0] 25 (0,0))
 have kb := below_alloc (below_alloc (below_alloc (Below.refl w.heap.size w) (.cells #[.slice A0 l0.length c0] 27 (0,0))) (.cells #[.int .i64 a2] 3 (0,0))) (.cells #[.int .i64 0,.int .i64 0] 25 (0,0))
 have K1 := aZ_ k1
 have K2 := aZ_ k2
 have K3 := aZ_ k3
 have KB := aZ_ kb
 clear k1 k2 k3 kb
 obtain ⟨t,ht⟩ : ∃ t,impl_isBits.f a1 = some t := by unfold impl_isBits.f;split <;> exact ⟨_,rfl⟩
 have hH := aZ_ h
 have HT := aZ_ ht
 clear h ht
 go_enter Try.func28,Try.ntmps28
 go_wp2
 generalize ((w.alloc (.cells #[.slice A0 l0.length c0] 27 (0,0))).alloc (.cells #[.int .i64 a2] 3 (0,0))).alloc (.cells #[.int .i64 0,.int .i64 0] 25 (0,0)) = W0 at K1 K2 K3 KB ⊢
 have hc0 : W0.cell? ⟨w.heap.size,0,none⟩ = some (.slice A0 l0.length c0) := (blk_cell K1.out 0).trans rfl
 have hc1 : W0.cell? ⟨w.heap.size + 1,0,none⟩ = some (.int .i64 a2) := (blk_cell K2.out 0).trans rfl
 have hx0 : W0.cell? ⟨w.heap.size + 2,0,none⟩ = some (.int .i64 0) := (blk_cell K3.out 0).trans rfl
 have hx1 : W0.cell? ⟨w.heap.size + 2,1,none⟩ = some (.int .i64 0) := (blk_cell K3.out 1).trans rfl
 have hf0 := blk_frozen K3.out 0
 have hf1 := blk_frozen K3.out 1
 have hbl : ∀ nq,Below w.heap.size w (W0.drewN nq) := fun nq => pw_below_drewN KB.out nq
 have HBL := aZ_ hbl
 clear hbl
 cases t with
 | false =>
  clear hH
  go_quiet ((go_at_call 52;(with_reducible refine (impl_isBits.calls a1 false _ HT.out).mono ?_);rintro e w' ⟨rfl,⟨nd,rfl⟩⟩;(try first | exact ⟨rfl,_,World.drewN_drewN _ _ _⟩ | exact ⟨rfl,_,Eq.trans (World.drewN_drewN _ _ _) (congrArg (World.drewN _) (Nat.add_assoc _ _ _))⟩)))
  go_wp2
  refine bodyPost_ret (results_ct rfl _ _ (w.heap.size + 2) 25 #[.int .i64 0,.int .i64 0] (0,0) _ rfl T42_ Try.underlying25 rfl T15_) rfl ?_
  exact ⟨rfl,below_set (below_set (HBL.out _) T44_) T44_⟩
 | true =>
  have h' := hH.out
  clear hH
  have ht := HT.out
  unfold impl_isBits.f at ht
  have h5 : 0 ≤ a1 ∧ a1 ≤ 5 := by
   by_cases hz : a1 ≥ 0
   ·rw [if_pos hz] at ht;exact ⟨hz,of_decide_eq_true (Option.some.inj ht)⟩
   ·rw [if_neg hz] at ht;cases ht
  clear ht
  unfold impl_TableOfMatrix.ok at h'
  have h' := of_decide_eq_false h'
  by_cases hk : a2 < 0
  ·have d1 : decide (a2 < 0) = true := decide_eq_true hk
   clear hk h5 h'
   go_quiet ((go_at_call 52;(with_reducible refine (impl_isBits.calls a1 true _ HT.out).mono ?_);rintro e w' ⟨rfl,⟨nd,rfl⟩⟩;(try first | exact ⟨rfl,_,World.drewN_drewN _ _ _⟩ | exact ⟨rfl,_,Eq.trans (World.drewN_drewN _ _ _) (congrArg (World.drewN _) (Nat.add_assoc _ _ _))⟩)))
   go_wp2
   refine bodyPost_ret (results_ct rfl _ _ (w.heap.size + 2) 25 #[.int .i64 0,.int .i64 0] (0,0) _ rfl T42_ Try.underlying25 rfl T15_) rfl ?_
   exact ⟨rfl,below_set (below_set (HBL.out _) T44_) T44_⟩
  ·by_cases hn : a1 < a2
   ·have d1 : decide (a2 < 0) = false := decide_eq_false hk
    have d2 : decide (a1 < a2) = true := decide_eq_true hn
    clear hk hn h5 h'
    go_quiet ((go_at_call 52;(with_reducible refine (impl_isBits.calls a1 true _ HT.out).mono ?_);rintro e w' ⟨rfl,⟨nd,rfl⟩⟩;(try first | exact ⟨rfl,_,World.drewN_drewN _ _ _⟩ | exact ⟨rfl,_,Eq.trans (World.drewN_drewN _ _ _) (congrArg (World.drewN _) (Nat.add_assoc _ _ _))⟩)))
    go_wp2
    refine bodyPost_ret (results_ct rfl _ _ (w.heap.size + 2) 25 #[.int .i64 0,.int .i64 0] (0,0) _ rfl T42_ Try.underlying25 rfl T15_) rfl ?_
    exact ⟨rfl,below_set (below_set (HBL.out _) T44_) T44_⟩
   ·obtain ⟨s,rfl⟩ := Int.eq_ofNat_of_zero_le (show 0 ≤ a2 by omega)
    have d2 : decide (a1 < (s : Int)) = false := decide_eq_false hn
    have hp := B.pow_le (n := s) T44_
    have hne : l0.length ≠ 2 ^ s := fun q => h' ⟨h5.1,h5.2,by omega,by omega,by rw [Int.toNat_natCast];exact q⟩
    have e1 : IntKind.i64.wrap (2 ^ s) = ((2 ^ s : Nat) : Int) := by rw [i64_w];exact B.wrap64_pow T44_
    have b2 : (s : Int) ≤ 64 := by omega
    generalize 2 ^ s = M at hne e1
    have d3 : (((l0.length : Nat) : Int) != (M : Int)) = true := bne_iff_ne.mpr (fun q => hne T44_)
    have d4 : decide (l0.length = M) = false := decide_eq_false hne
    clear hk hn h5 h' hne hp
    go_quiet ((go_at_call 52;(with_reducible refine (impl_isBits.calls a1 true _ HT.out).mono ?_);rintro e w' ⟨rfl,⟨nd,rfl⟩⟩;(try first | exact ⟨rfl,_,World.drewN_drewN _ _ _⟩ | exact ⟨rfl,_,Eq.trans (World.drewN_drewN _ _ _) (congrArg (World.drewN _) (Nat.add_assoc _ _ _))⟩)))
    go_wp2
    refine bodyPost_ret (results_ct rfl _ _ (w.heap.size + 2) 25 #[.int .i64 0,.int .i64 0] (0,0) _ rfl T42_ Try.underlying25 rfl T15_) rfl ?_
    exact ⟨rfl,below_set (below_set (HBL.out _) T44_) T44_⟩
set_option maxHeartbeats 400000 in
set_option maxRecDepth 100000 in
theorem impl_TableOfMatrix.yes (A0 : Option Addr) (c0 : Nat) (l0 : List Int) (n s m : Nat) (hn : n ≤ 5) (hnm : n = s + m) (hl : l0.length = 2 ^ s) (w : World) (hr0 : Kd.C (Kd.int .i64) w A0 l0.length l0) (R : Array Value)
  (hR : R = (if B.exN (fun i => impl_TableOfMatrix.bad m (rd l0 i)) l0.length = true then #[.agg #[.int .i64 0,.int .i64 0],.bool false] else #[.agg #[.int .i64 n,.int .i64 (B.tabN (impl_TableOfMatrix.bit l0 s) (2 ^ n) : Nat)],.bool true])) :
  Calls Try.prog 28 #[.slice A0 l0.length c0,.int .i64 n,.int .i64 s] w fun e w' => e = .returned (.tuple R) ∧ Below w.heap.size w w' := by
 have HRR := aZ_ hR
 clear hR
 have hu := Try.underlying25
 have HR := aZ_ hr0
 have HLL := aZ_ hl
 have HN := aZ_ hn
 have HNM := aZ_ hnm
 have k1 := blk_alloc (blk_alloc (blk_new w (.cells #[.slice A0 l0.length c0] 27 (0,0))) (.cells #[.int .i64 s] 3 (0,0))) (.cells #[.int .i64 0,.int .i64 0] 25 (0,0))
 have k2 : (((w.alloc (.cells #[.slice A0 l0.length c0] 27 (0,0))).alloc (.cells #[.int .i64 s] 3 (0,0))).alloc (.cells #[.int .i64 0,.int .i64 0] 25 (0,0))).heap[w.heap.size + 1]? = some (.cells #[.int .i64 s] 3 (0,0)) := blk_alloc (by simpa using blk_new (w.alloc (.cells #[.slice A0 l0.length c0] 27 (0,0))) (.cells #[.int .i64 s] 3 (0,0))) _
 have k3 : (((w.alloc (.cells #[.slice A0 l0.length c0] 27 (0,0))).alloc (.cells #[.int .i64 s] 3 (0,0))).alloc (.cells #[.int .i64 0,.int .i64 0] 25 (0,0))).heap[w.heap.size + 2]? = some (.cells #[.int .i64 0,.int .i64 0] 25 (0,0)) := by simpa using blk_new ((w.alloc (.cells #[.slice A0 l0.length c0] 27 (0,0))).alloc (.cells #[.int .i64 s] 3 (0,0))) (.cells #[.int .i64 0,.int .i64 0] 25 (0,0))
 have kb := below_alloc (below_alloc (below_alloc (Below.refl w.heap.size w) (.cells #[.slice A0 l0.length c0] 27 (0,0))) (.cells #[.int .i64 s] 3 (0,0))) (.cells #[.int .i64 0,.int .i64 0] 25 (0,0))
 have K1 := aZ_ k1
 have K2 := aZ_ k2
 have K3 := aZ_ k3
 have KB := aZ_ kb
 clear k1 k2 k3 kb hr0
 have HT : Aside0 (impl_isBits.f n = some true) := ⟨by unfold impl_isBits.f;rw [if_pos T44_,decide_eq_true T44_]⟩
 have hp := B.pow_le (n := s) T44_
 have hpm := B.pow_le (n := m) T44_
 have e1 : IntKind.i64.wrap (2 ^ s) = ((l0.length : Nat) : Int) := by rw [hl,i64_w];exact B.wrap64_pow T44_
 have hL32 : l0.length ≤ 32 := by omega
 have b2 : (s : Int) ≤ 64 := by omega
 have d1 : decide ((s : Int) < 0) = false := decide_eq_false T44_
 have d2 : decide (n < s) = false := decide_eq_false T44_
 have e5 : (n : Int) - (s : Int) = (m : Int) := by omega
 have e6 : IntKind.u64.wrap (2 ^ m) = ((2 ^ m : Nat) : Int) := by
  rw [show (2 : Int) ^ m = ((2 ^ m : Nat) : Int) by simp]
  generalize 2 ^ m = M at hpm
  exact B.wrapu_of T44_ T44_
 have bm : (m : Int) ≤ 64 := by omega
 obtain ⟨Q,hQ⟩ : ∃ Q : Nat,Q = 2 ^ m := ⟨_,rfl⟩
 rw [← hQ] at e6 hpm
 have HQ := aZ_ hQ
 have bq : (Q : Int) ≤ 64 := by omega
 have E5 := aZ_ e5
 have E6 := aZ_ e6
 clear hn hnm hp hpm hl hQ e5 e6
 go_enter Try.func28,Try.ntmps28
 go_wp2
 generalize ((w.alloc (.cells #[.slice A0 l0.length c0] 27 (0,0))).alloc (.cells #[.int .i64 s] 3 (0,0))).alloc (.cells #[.int .i64 0,.int .i64 0] 25 (0,0)) = W0 at K1 K2 K3 KB ⊢
 have hc0 : W0.cell? ⟨w.heap.size,0,none⟩ = some (.slice A0 l0.length c0) := (blk_cell K1.out 0).trans rfl
 have hc1 : W0.cell? ⟨w.heap.size + 1,0,none⟩ = some (.int .i64 s) := (blk_cell K2.out 0).trans rfl
 go_quiet ((go_at_call 52;(with_reducible refine (impl_isBits.calls n true _ HT.out).mono ?_);rintro e w' ⟨rfl,⟨nd,rfl⟩⟩;(try first | exact ⟨rfl,_,World.drewN_drewN _ _ _⟩ | exact ⟨rfl,_,Eq.trans (World.drewN_drewN _ _ _) (congrArg (World.drewN _) (Nat.add_assoc _ _ _))⟩)))
 clear e1
 go_wp2
 have e5 := E5.out
 have e6 := E6.out
 go_loopg [32] l0.length (fun gg v32 wr => ∃ x : Nat,x ≤ l0.length ∧ l0.length - x ≤ gg ∧ v32 = .int .i64 x ∧ Aside0 (B.exN (fun i => impl_TableOfMatrix.bad m (rd l0 i)) x = false) ∧ Aside0 (wr.heap[w.heap.size]? = some (.cells #[.slice A0 l0.length c0] 27 (0,0))) ∧ Aside0 (wr.heap[w.heap.size + 1]? = some (.cells #[.int .i64 s] 3 (0,0))) ∧ Aside0 (wr.heap[w.heap.size + 2]? = some (.cells #[.int .i64 0,.int .i64 0] 25 (0,0))) ∧ Aside0 (Below w.heap.size w wr))
 case atStart => exact ⟨0,Nat.zero_le _,by omega,rfl,⟨rfl⟩,⟨K1.out⟩,⟨K2.out⟩,⟨K3.out⟩,⟨pw_below_drewN KB.out _⟩⟩
 case round =>
  clear K1 K2 K3 KB hc0 hc1
  obtain ⟨x,hx,hg,rfl,HZ,K1,K2,K3,HB⟩ := hrel
  by_cases hlt : x < l0.length
  ·have hltz : (x : Int) < (l0.length : Int) := by omega
   have h0z : (0 : Int) ≤ (x : Int) := by omega
   obtain ⟨ad,rfl,hc⟩ := Kd.at_int HR.out (x : Int) h0z hltz
   have hc' := (HB.out.cell (World.block_lt_of_cell? w _ hc)).trans hc
   rw [Int.toNat_natCast] at hc'
   clear hc
   have hd0 : wr.cell? ⟨w.heap.size + 1,0,none⟩ = some (.int .i64 s) := (blk_cell K2.out 0).trans rfl
   have hx0 : wr.cell? ⟨w.heap.size + 2,0,none⟩ = some (.int .i64 0) := (blk_cell K3.out 0).trans rfl
   have hx1 : wr.cell? ⟨w.heap.size + 2,1,none⟩ = some (.int .i64 0) := (blk_cell K3.out 1).trans rfl
   have hf0 := blk_frozen K3.out 0
   have hf1 := blk_frozen K3.out 1
   by_cases hneg : rd l0 (x : Int) < 0
   ·have d3 : decide (rd l0 (x : Int) < 0) = true := decide_eq_true hneg
    have HX : Aside0 (B.exN (fun i => impl_TableOfMatrix.bad m (rd l0 i)) l0.length = true) := ⟨B.exN_hit hlt (by simp only [impl_TableOfMatrix.bad,d3,Bool.true_or])⟩
    go_wp2
    refine bodyPost_ret (results_ct rfl _ _ (w.heap.size + 2) 25 #[.int .i64 0,.int .i64 0] (0,0) _ rfl T42_ Try.underlying25 rfl T15_) rfl ?_
    exact ⟨by rw [HRR.out,if_pos HX.out];rfl,below_set (below_set HB.out T44_) T44_⟩
   ·have d3 : decide (rd l0 (x : Int) < 0) = false := decide_eq_false hneg
    obtain ⟨v,hv⟩ : ∃ v,rd l0 (x : Int) / 2 ^ Q = v := ⟨_,rfl⟩
    by_cases hq : v = 0
    ·subst hq
     have HX : Aside0 (impl_TableOfMatrix.bad m (rd l0 x) = false) := ⟨by unfold impl_TableOfMatrix.bad;rw [d3,← HQ.out,hv];rfl⟩
     go_wp2
     go_roundg (l0.length - (x + 1))
     case measure => omega
     case rel => exact ⟨x + 1,by omega,by omega,by go_num,⟨B.exN_skip HZ.out HX.out⟩,K1,K2,K3,HB⟩
    ·have HX : Aside0 (B.exN (fun i => impl_TableOfMatrix.bad m (rd l0 i)) l0.length = true) := ⟨B.exN_hit hlt (by simp only [impl_TableOfMatrix.bad];rw [← HQ.out,hv,d3,Bool.false_or];exact bne_iff_ne.mpr hq)⟩
     have d4 : (v != 0) = true := bne_iff_ne.mpr hq
     go_wp2
     refine bodyPost_ret (results_ct rfl _ _ (w.heap.size + 2) 25 #[.int .i64 0,.int .i64 0] (0,0) _ rfl T42_ Try.underlying25 rfl T15_) rfl ?_
     exact ⟨by rw [HRR.out,if_pos HX.out];rfl,below_set (below_set HB.out T44_) T44_⟩
  ·have hltz : ¬ (x : Int) < (l0.length : Int) := by omega
   obtain rfl : x = l0.length := by omega
   clear e5 e6
   have EG := aZ_ (enters_of Try.func71 T15_ rfl)
   go_wp2_with (go_at_call 56;refine (impl_makeTable.any n HN.out (impl_TableOfMatrix.bit l0 s) 71 #[.pointer (some ⟨w.heap.size,0,none⟩),.pointer (some ⟨w.heap.size + 1,0,none⟩)] EG.out _ (fun W x hx hb => impl_TableOfMatrix_1.any l0 s x A0 c0 (by have := HNM.out;have := HN.out;omega) (Nat.lt_of_lt_of_le hx (B.pow_le HN.out)) HLL.out _ _ W (Kd.Heap.C (Kd.heap_int .i64) (below_step HB.out hb).block HR.out) (blk_below K1.out hb) (blk_below K2.out hb))).mono ?_;rintro e w' ⟨rfl,hb⟩;have BK := aZ_ (blk_below K3.out hb);have HB' := aZ_ (below_step HB.out hb);clear hb;have hx0 : w'.cell? ⟨w.heap.size + 2,0,none⟩ = some (.int .i64 0) := (blk_cell BK.out 0).trans rfl;have hx1 : w'.cell? ⟨w.heap.size + 2,1,none⟩ = some (.int .i64 0) := (blk_cell BK.out 1).trans rfl;have hf0 : w'.frozen? ⟨w.heap.size + 2,0,none⟩ = false := blk_frozen BK.out 0;have hf1 : w'.frozen? ⟨w.heap.size + 2,1,none⟩ = false := blk_frozen BK.out 1)
   refine bodyPost_ret (results_ct rfl _ _ (w.heap.size + 2) 25 #[.int .i64 n,.int .i64 (B.tabN (impl_TableOfMatrix.bit l0 s) (2 ^ n) : Nat)] (0,0) _ rfl (by refine blk_put (cs := #[.int .i64 n,.int .i64 0]) ?_ 1 _ rfl;refine blk_put (cs := #[.int .i64 0,.int .i64 0]) ?_ 0 _ rfl;exact BK.out) Try.underlying25 rfl T15_) rfl ?_
   exact ⟨by rw [HRR.out,if_neg (by rw [HZ.out];decide)];rfl,below_set (below_set HB'.out T44_) T44_⟩
theorem impl_TableOfMatrix.calls (A0 : Option Addr) (c0 : Nat) (l0 : List Int) (a1 : Int) (a2 : Int) (r1 : Int) (r2 : Int) (r3 : Bool) (w : World) (hr0 : Kd.C (Kd.int .i64) w A0 l0.length l0) (hc0 : l0.length ≤ c0) (h : impl_TableOfMatrix.f l0 a1 a2 = some (r1,r2,r3)) :
  Calls Try.prog 28 #[.slice A0 l0.length c0,.int .i64 a1,.int .i64 a2] w fun e w' => e = .returned (.tuple #[.agg #[.int .i64 r1,.int .i64 r2],.bool r3]) ∧ Below w.heap.size w w' := by
 unfold impl_TableOfMatrix.f at h
 split at h
 next hL =>
  cases ho : impl_TableOfMatrix.ok a1 a2 l0.length with
  | false =>
   rw [ho,if_neg T48_] at h
   cases h
   exact impl_TableOfMatrix.no A0 c0 l0 a1 a2 w ho
  | true =>
   rw [ho,if_pos rfl] at h
   have ho := of_decide_eq_true ho
   obtain ⟨n,rfl⟩ := Int.eq_ofNat_of_zero_le ho.1
   obtain ⟨s,rfl⟩ := Int.eq_ofNat_of_zero_le ho.2.2.1
   obtain ⟨m,rfl⟩ : ∃ m,n = s + m := ⟨n - s,by omega⟩
   rw [show (((s + m : Nat) : Int) - (s : Int)).toNat = m by omega,Int.toNat_natCast,Int.toNat_natCast] at h
   refine (impl_TableOfMatrix.yes A0 c0 l0 (s + m) s m T44_ rfl (by simpa using ho.2.2.2.2) w hr0 _ rfl).mono fun e w' ⟨he,hb⟩ => ⟨?_,hb⟩
   rw [he]
   split at h
   next hx => rw [if_pos hx];cases h;rfl
   next hx => rw [if_neg hx];cases h;rfl
 next => cases h
set_option maxHeartbeats 400000 in
set_option maxRecDepth 100000 in
theorem slices_IndexFunc_int.any (A : Option Addr) (c : Nat) (l : List Int) (p : Int → Bool) (g : Nat) (lb : Array Value) (eg : ∀ args w,(callFunc g args).run Try.prog w = .ok (.enter g args) w) (w : World) (hr : Kd.C (Kd.int .i64) w A l.length l)
  (hp : ∀ (W : World) (x : Nat),x < l.length → Below w.heap.size w W → Gives Try.prog g lb #[.int .i64 (rd l x)] (.bool (p (rd l x))) W) (hl : l.length < 9223372036854775807) :
  Calls Try.prog 82 #[.slice A l.length c,.func (.func g) #[] lb] w fun e w' => ∃ r : Int,e = .returned (.int .i64 r) ∧ decide (0 ≤ r) = B.exN (fun x => p (rd l x)) l.length ∧ Below w.heap.size w w' := by
 have HP := aZ_ hp
 have HR := aZ_ hr
 have HL := aZ_ hl
 clear hp hr
 obtain ⟨M,hM⟩ : ∃ M : Nat,M = l.length := ⟨_,rfl⟩
 have HM := aZ_ hM
 go_enter Try.func82,Try.ntmps82
 go_wp2
 go_loopg [8] l.length (fun gg v8 wr => ∃ x : Nat,x ≤ l.length ∧ l.length - x ≤ gg ∧ v8 = .int .i64 x ∧ Aside0 (B.exN (fun x => p (rd l x)) x = false) ∧ Aside0 (Below w.heap.size w wr))
 case atStart => exact ⟨0,Nat.zero_le _,by omega,rfl,⟨rfl⟩,⟨Below.refl _ _⟩⟩
 case round =>
  obtain ⟨x,hx,hg,rfl,HZ,HB⟩ := hrel
  by_cases hlt : x < l.length
  ·have hltz : (x : Int) < (l.length : Int) := by omega
   have h0z : (0 : Int) ≤ (x : Int) := by omega
   have hcall := HP.out wr x hlt HB.out
   unfold Gives at hcall
   obtain ⟨ad,rfl,hc⟩ := Kd.at_int HR.out (x : Int) h0z hltz
   have hc' := (HB.out.cell (World.block_lt_of_cell? w _ hc)).trans hc
   rw [Int.toNat_natCast] at hc'
   cases hq : p (rd l x) with
   | true =>
    rw [hq] at hcall
    have HQ := aZ_ hq
    clear hq
    go_wp2_with (go_at_fn g;refine hcall.mono ?_;rintro e w' ⟨rfl,hb'⟩;have HB' := aZ_ (below_step HB.out hb');clear hb')
    go_ret
    refine ⟨_,rfl,?_,HB'.out⟩
    rw [B.exN_hit hlt HQ.out]
    exact decide_eq_true h0z
   | false =>
    rw [hq] at hcall
    have HQ := aZ_ hq
    clear hq
    go_wp2_with (go_at_fn g;refine hcall.mono ?_;rintro e w' ⟨rfl,hb'⟩;have HB' := aZ_ (below_step HB.out hb');clear hb')
    go_roundg (l.length - (x + 1))
    case measure => omega
    case rel => exact ⟨x + 1,by omega,by omega,by have := HL.out;go_num,⟨B.exN_skip HZ.out HQ.out⟩,HB'⟩
  ·have hltz : ¬ (x : Int) < (l.length : Int) := by omega
   obtain rfl : x = l.length := by omega
   go_wp2
   go_ret
   exact ⟨-1,rfl,by rw [HZ.out];decide,HB.out⟩
set_option maxHeartbeats 400000 in
set_option maxRecDepth 100000 in
theorem slices_ContainsFunc_int.any (A : Option Addr) (c : Nat) (l : List Int) (p : Int → Bool) (g : Nat) (lb : Array Value) (eg : ∀ args w,(callFunc g args).run Try.prog w = .ok (.enter g args) w) (w : World) (hr : Kd.C (Kd.int .i64) w A l.length l)
  (hp : ∀ (W : World) (x : Nat),x < l.length → Below w.heap.size w W → Gives Try.prog g lb #[.int .i64 (rd l x)] (.bool (p (rd l x))) W) (hl : l.length < 9223372036854775807) :
  Calls Try.prog 53 #[.slice A l.length c,.func (.func g) #[] lb] w fun e w' => e = .returned (.bool (B.exN (fun x => p (rd l x)) l.length)) ∧ Below w.heap.size w w' := by
 have HC := slices_IndexFunc_int.any A c l p g lb eg w hr hp hl
 clear hp hr
 go_enter Try.func53,Try.ntmps53
 go_wp2_with (go_at_call 82;refine HC.mono ?_;rintro e w' ⟨r,rfl,hd,hb⟩)
 go_ret
 exact ⟨by rw [← hd];rfl,hb⟩
def bits_Len64.j0 : Nat → Int → Int → Option (Int)
 | 0,_,_ => none
 | k + 1,x0,x2 => if x0 ≥ 65536 then (if (x0 / 65536) ≥ 256 then (if 0 ≤ (((x0 / 65536) / 256) % 256) then (if (((x0 / 65536) / 256) % 256) < 256 then (some (wrap64 ((wrap64 ((wrap64 (x2 + 16)) + 8)) + (wrap64 (bt (⟨#[0,1,2,2,3,3,3,3,4,4,4,4,4,4,4,4,5,5,5,5,5,5,5,5,5,5,5,5,5,5,5,5,6,6,6,6,6,6,6,6,6,6,6,6,6,6,6,6,6,6,6,6,6,6,6,6,6,6,6,6,6,6,6,6,7,7,7,7,7,7,7,7,7,7,7,7,7,7,7,7,7,7,7,7,7,7,7,7,7,7,7,7,7,7,7,7,7,7,7,7,7,7,7,7,7,7,7,7,7,7,7,7,7,7,7,7,7,7,7,7,7,7,7,7,7,7,7,7,8,8,8,8,8,8,8,8,8,8,8,8,8,8,8,8,8,8,8,8,8,8,8,8,8,8,8,8,8,8,8,8,8,8,8,8,8,8,8,8,8,8,8,8,8,8,8,8,8,8,8,8,8,8,8,8,8,8,8,8,8,8,8,8,8,8,8,8,8,8,8,8,8,8,8,8,8,8,8,8,8,8,8,8,8,8,8,8,8,8,8,8,8,8,8,8,8,8,8,8,8,8,8,8,8,8,8,8,8,8,8,8,8,8,8,8,8,8,8,8,8,8,8,8,8,8,8,8]⟩ : ByteArray) (((x0 / 65536) / 256) % 256)))))) else (none)) else (none)) else (if 0 ≤ ((x0 / 65536) % 256) then (if ((x0 / 65536) % 256) < 256 then (some (wrap64 ((wrap64 (x2 + 16)) + (wrap64 (bt (⟨#[0,1,2,2,3,3,3,3,4,4,4,4,4,4,4,4,5,5,5,5,5,5,5,5,5,5,5,5,5,5,5,5,6,6,6,6,6,6,6,6,6,6,6,6,6,6,6,6,6,6,6,6,6,6,6,6,6,6,6,6,6,6,6,6,7,7,7,7,7,7,7,7,7,7,7,7,7,7,7,7,7,7,7,7,7,7,7,7,7,7,7,7,7,7,7,7,7,7,7,7,7,7,7,7,7,7,7,7,7,7,7,7,7,7,7,7,7,7,7,7,7,7,7,7,7,7,7,7,8,8,8,8,8,8,8,8,8,8,8,8,8,8,8,8,8,8,8,8,8,8,8,8,8,8,8,8,8,8,8,8,8,8,8,8,8,8,8,8,8,8,8,8,8,8,8,8,8,8,8,8,8,8,8,8,8,8,8,8,8,8,8,8,8,8,8,8,8,8,8,8,8,8,8,8,8,8,8,8,8,8,8,8,8,8,8,8,8,8,8,8,8,8,8,8,8,8,8,8,8,8,8,8,8,8,8,8,8,8,8,8,8,8,8,8,8,8,8,8,8,8,8,8,8,8,8,8]⟩ : ByteArray) ((x0 / 65536) % 256)))))) else (none)) else (none))) else (if x0 ≥ 256 then (if 0 ≤ ((x0 / 256) % 256) then (if ((x0 / 256) % 256) < 256 then (some (wrap64 ((wrap64 (x2 + 8)) + (wrap64 (bt (⟨#[0,1,2,2,3,3,3,3,4,4,4,4,4,4,4,4,5,5,5,5,5,5,5,5,5,5,5,5,5,5,5,5,6,6,6,6,6,6,6,6,6,6,6,6,6,6,6,6,6,6,6,6,6,6,6,6,6,6,6,6,6,6,6,6,7,7,7,7,7,7,7,7,7,7,7,7,7,7,7,7,7,7,7,7,7,7,7,7,7,7,7,7,7,7,7,7,7,7,7,7,7,7,7,7,7,7,7,7,7,7,7,7,7,7,7,7,7,7,7,7,7,7,7,7,7,7,7,7,8,8,8,8,8,8,8,8,8,8,8,8,8,8,8,8,8,8,8,8,8,8,8,8,8,8,8,8,8,8,8,8,8,8,8,8,8,8,8,8,8,8,8,8,8,8,8,8,8,8,8,8,8,8,8,8,8,8,8,8,8,8,8,8,8,8,8,8,8,8,8,8,8,8,8,8,8,8,8,8,8,8,8,8,8,8,8,8,8,8,8,8,8,8,8,8,8,8,8,8,8,8,8,8,8,8,8,8,8,8,8,8,8,8,8,8,8,8,8,8,8,8,8,8,8,8,8,8]⟩ : ByteArray) ((x0 / 256) % 256)))))) else (none)) else (none)) else (if 0 ≤ ((x0) % 256) then (if ((x0) % 256) < 256 then (some (wrap64 (x2 + (wrap64 (bt (⟨#[0,1,2,2,3,3,3,3,4,4,4,4,4,4,4,4,5,5,5,5,5,5,5,5,5,5,5,5,5,5,5,5,6,6,6,6,6,6,6,6,6,6,6,6,6,6,6,6,6,6,6,6,6,6,6,6,6,6,6,6,6,6,6,6,7,7,7,7,7,7,7,7,7,7,7,7,7,7,7,7,7,7,7,7,7,7,7,7,7,7,7,7,7,7,7,7,7,7,7,7,7,7,7,7,7,7,7,7,7,7,7,7,7,7,7,7,7,7,7,7,7,7,7,7,7,7,7,7,8,8,8,8,8,8,8,8,8,8,8,8,8,8,8,8,8,8,8,8,8,8,8,8,8,8,8,8,8,8,8,8,8,8,8,8,8,8,8,8,8,8,8,8,8,8,8,8,8,8,8,8,8,8,8,8,8,8,8,8,8,8,8,8,8,8,8,8,8,8,8,8,8,8,8,8,8,8,8,8,8,8,8,8,8,8,8,8,8,8,8,8,8,8,8,8,8,8,8,8,8,8,8,8,8,8,8,8,8,8,8,8,8,8,8,8,8,8,8,8,8,8,8,8,8,8,8,8]⟩ : ByteArray) ((x0) % 256)))))) else (none)) else (none)))
def bits_Len64.f (k : Nat) (a0 : Int) : Option (Int) := if a0 ≥ 4294967296 then (bits_Len64.j0 k (a0 / 4294967296) 32) else (bits_Len64.j0 k a0 0)
set_option maxHeartbeats 8000000 in
set_option maxRecDepth 100000 in
theorem bits_Len64.calls (k : Nat) (a0 : Int) (r : Int) (w : World) (h : bits_Len64.f k a0 = some r) :
  Calls Try.prog 73 #[.int .u64 a0] w fun e w' => e = .returned (.int .i64 r) ∧ Drawn0 w w' := by
 have H : (if a0 ≥ 4294967296 then (bits_Len64.j0 k (a0 / 4294967296) 32) else (bits_Len64.j0 k a0 0)) = some r := h
 clear h
 have HC2 := aZ_ H
 clear H
 go_enter Try.func73,Try.ntmps73
 go_upto_if 4 with (fail)
 go_cut [0,2] (fun v0 v2 wc => ∃ (kq : Nat) (x0_1 : Int) (x2_1 : Int),v0 = .int .u64 x0_1 ∧ v2 = .int .i64 x2_1 ∧ Aside0 (bits_Len64.j0 kq x0_1 x2_1 = some r) ∧ Aside0 (kq ≤ k) ∧ Drawn0 w wc)
 case first =>
  have H := HC2.out
  clear HC2
  by_cases c3 : a0 ≥ 4294967296
  ·rw [if_pos c3] at H
   have c3b0 : decide (4294967296 ≤ a0) = true := decide_eq_true c3
   clear c3
   (first | rw [c3b0] | (simp only [i64_w,i32_w];rw [c3b0]) | skip)
   have H' := aZ_ H
   clear H
   go_wp2
   go_meet
   case rel => exact ⟨_,(a0 / 4294967296),(32),T10_,T10_,H',⟨by first | omega | exact Nat.le_refl _⟩,by repeat (first | exact Drawn0.refl _ | apply Drawn0.step)⟩
  ·rw [if_neg c3] at H
   have c3b0 : decide (4294967296 ≤ a0) = false := decide_eq_false c3
   clear c3
   (first | rw [c3b0] | (simp only [i64_w,i32_w];rw [c3b0]) | skip)
   have H' := aZ_ H
   clear H
   go_wp2
   go_meet
   case rel => exact ⟨_,(a0),(0),T10_,T10_,H',⟨by first | omega | exact Nat.le_refl _⟩,by repeat (first | exact Drawn0.refl _ | apply Drawn0.step)⟩
 case rest =>
  clear HC2
  try clear p2
  try clear c3
  try clear c3b0
  obtain ⟨kq,x0_1,x2_1,rfl,rfl,HA,HJ1,⟨mc1,rfl⟩⟩ := hcut
  cases kq with
  | zero => exact absurd HA.out (by simp [bits_Len64.j0])
  | succ kj1 =>
   have H := HA.out
   clear HA
   simp only [bits_Len64.j0] at H
   by_cases c4 : x0_1 ≥ 65536
   ·rw [if_pos c4] at H
    have c4b0 : decide (65536 ≤ x0_1) = true := decide_eq_true c4
    clear c4
    by_cases c5 : (x0_1 / 65536) ≥ 256
    ·rw [if_pos c5] at H
     have c5b0 : decide (256 ≤ (x0_1 / 65536)) = true := decide_eq_true c5
     clear c5
     obtain ⟨ji6,hji6⟩ : ∃ j_ : Int,(((x0_1 / 65536) / 256) % 256) = j_ := ⟨_,rfl⟩
     replace H : (if 0 ≤ (ji6) then (if (ji6) < 256 then (some (wrap64 ((wrap64 ((wrap64 (x2_1 + 16)) + 8)) + (wrap64 (bt (⟨#[0,1,2,2,3,3,3,3,4,4,4,4,4,4,4,4,5,5,5,5,5,5,5,5,5,5,5,5,5,5,5,5,6,6,6,6,6,6,6,6,6,6,6,6,6,6,6,6,6,6,6,6,6,6,6,6,6,6,6,6,6,6,6,6,7,7,7,7,7,7,7,7,7,7,7,7,7,7,7,7,7,7,7,7,7,7,7,7,7,7,7,7,7,7,7,7,7,7,7,7,7,7,7,7,7,7,7,7,7,7,7,7,7,7,7,7,7,7,7,7,7,7,7,7,7,7,7,7,8,8,8,8,8,8,8,8,8,8,8,8,8,8,8,8,8,8,8,8,8,8,8,8,8,8,8,8,8,8,8,8,8,8,8,8,8,8,8,8,8,8,8,8,8,8,8,8,8,8,8,8,8,8,8,8,8,8,8,8,8,8,8,8,8,8,8,8,8,8,8,8,8,8,8,8,8,8,8,8,8,8,8,8,8,8,8,8,8,8,8,8,8,8,8,8,8,8,8,8,8,8,8,8,8,8,8,8,8,8,8,8,8,8,8,8,8,8,8,8,8,8,8,8,8,8,8,8]⟩ : ByteArray) (ji6)))))) else (none)) else (none)) = some r := by first | (rw [hji6] at H;exact H) | (simp only [hji6] at H ⊢;exact H)
     by_cases c7 : 0 ≤ (ji6)
     ·rw [if_pos c7] at H
      have c7b0 : decide (0 ≤ (ji6)) = true := decide_eq_true c7
      clear c7
      by_cases c8 : (ji6) < 256
      ·rw [if_pos c8] at H
       have c8b0 : decide ((ji6) < 256) = true := decide_eq_true c8
       clear c8
       obtain rfl := Option.some.inj H
       have p9 : 0 ≤ ((ji6) : Int) := of_decide_eq_true T6_
       have q9 : (ji6) < (256 : Int) := of_decide_eq_true T6_
       have hx9 := bt_at (⟨#[0,1,2,2,3,3,3,3,4,4,4,4,4,4,4,4,5,5,5,5,5,5,5,5,5,5,5,5,5,5,5,5,6,6,6,6,6,6,6,6,6,6,6,6,6,6,6,6,6,6,6,6,6,6,6,6,6,6,6,6,6,6,6,6,7,7,7,7,7,7,7,7,7,7,7,7,7,7,7,7,7,7,7,7,7,7,7,7,7,7,7,7,7,7,7,7,7,7,7,7,7,7,7,7,7,7,7,7,7,7,7,7,7,7,7,7,7,7,7,7,7,7,7,7,7,7,7,7,8,8,8,8,8,8,8,8,8,8,8,8,8,8,8,8,8,8,8,8,8,8,8,8,8,8,8,8,8,8,8,8,8,8,8,8,8,8,8,8,8,8,8,8,8,8,8,8,8,8,8,8,8,8,8,8,8,8,8,8,8,8,8,8,8,8,8,8,8,8,8,8,8,8,8,8,8,8,8,8,8,8,8,8,8,8,8,8,8,8,8,8,8,8,8,8,8,8,8,8,8,8,8,8,8,8,8,8,8,8,8,8,8,8,8,8,8,8,8,8,8,8,8,8,8,8,8,8]⟩ : ByteArray) (ji6)
       replace p9 := eq_true p9
       replace q9 := eq_true q9
       go_wp2
       go_ret
       exact ⟨by first | rfl | (simp;done) | (simp only [← hji6] <;> (first | rfl | simp)) | (simp [*];done),by repeat (first | exact Drawn0.refl _ | apply Drawn0.step)⟩
      ·rw [if_neg c8] at H
       exact absurd H T49_
     ·rw [if_neg c7] at H
      exact absurd H T49_
    ·rw [if_neg c5] at H
     have c5b0 : decide (256 ≤ (x0_1 / 65536)) = false := decide_eq_false c5
     clear c5
     obtain ⟨ji10,hji10⟩ : ∃ j_ : Int,((x0_1 / 65536) % 256) = j_ := ⟨_,rfl⟩
     replace H : (if 0 ≤ (ji10) then (if (ji10) < 256 then (some (wrap64 ((wrap64 (x2_1 + 16)) + (wrap64 (bt (⟨#[0,1,2,2,3,3,3,3,4,4,4,4,4,4,4,4,5,5,5,5,5,5,5,5,5,5,5,5,5,5,5,5,6,6,6,6,6,6,6,6,6,6,6,6,6,6,6,6,6,6,6,6,6,6,6,6,6,6,6,6,6,6,6,6,7,7,7,7,7,7,7,7,7,7,7,7,7,7,7,7,7,7,7,7,7,7,7,7,7,7,7,7,7,7,7,7,7,7,7,7,7,7,7,7,7,7,7,7,7,7,7,7,7,7,7,7,7,7,7,7,7,7,7,7,7,7,7,7,8,8,8,8,8,8,8,8,8,8,8,8,8,8,8,8,8,8,8,8,8,8,8,8,8,8,8,8,8,8,8,8,8,8,8,8,8,8,8,8,8,8,8,8,8,8,8,8,8,8,8,8,8,8,8,8,8,8,8,8,8,8,8,8,8,8,8,8,8,8,8,8,8,8,8,8,8,8,8,8,8,8,8,8,8,8,8,8,8,8,8,8,8,8,8,8,8,8,8,8,8,8,8,8,8,8,8,8,8,8,8,8,8,8,8,8,8,8,8,8,8,8,8,8,8,8,8,8]⟩ : ByteArray) (ji10)))))) else (none)) else (none)) = some r := by first | (rw [hji10] at H;exact H) | (simp only [hji10] at H ⊢;exact H)
     by_cases c11 : 0 ≤ (ji10)
     ·rw [if_pos c11] at H
      have c11b0 : decide (0 ≤ (ji10)) = true := decide_eq_true c11
      clear c11
      by_cases c12 : (ji10) < 256
      ·rw [if_pos c12] at H
       have c12b0 : decide ((ji10) < 256) = true := decide_eq_true c12
       clear c12
       obtain rfl := Option.some.inj H
       have p13 : 0 ≤ ((ji10) : Int) := of_decide_eq_true T6_
       have q13 : (ji10) < (256 : Int) := of_decide_eq_true T6_
       have hx13 := bt_at (⟨#[0,1,2,2,3,3,3,3,4,4,4,4,4,4,4,4,5,5,5,5,5,5,5,5,5,5,5,5,5,5,5,5,6,6,6,6,6,6,6,6,6,6,6,6,6,6,6,6,6,6,6,6,6,6,6,6,6,6,6,6,6,6,6,6,7,7,7,7,7,7,7,7,7,7,7,7,7,7,7,7,7,7,7,7,7,7,7,7,7,7,7,7,7,7,7,7,7,7,7,7,7,7,7,7,7,7,7,7,7,7,7,7,7,7,7,7,7,7,7,7,7,7,7,7,7,7,7,7,8,8,8,8,8,8,8,8,8,8,8,8,8,8,8,8,8,8,8,8,8,8,8,8,8,8,8,8,8,8,8,8,8,8,8,8,8,8,8,8,8,8,8,8,8,8,8,8,8,8,8,8,8,8,8,8,8,8,8,8,8,8,8,8,8,8,8,8,8,8,8,8,8,8,8,8,8,8,8,8,8,8,8,8,8,8,8,8,8,8,8,8,8,8,8,8,8,8,8,8,8,8,8,8,8,8,8,8,8,8,8,8,8,8,8,8,8,8,8,8,8,8,8,8,8,8,8,8]⟩ : ByteArray) (ji10)
       replace p13 := eq_true p13
       replace q13 := eq_true q13
       go_wp2
       go_ret
       exact ⟨by first | rfl | (simp;done) | (simp only [← hji10] <;> (first | rfl | simp)) | (simp [*];done),by repeat (first | exact Drawn0.refl _ | apply Drawn0.step)⟩
      ·rw [if_neg c12] at H
       exact absurd H T49_
     ·rw [if_neg c11] at H
      exact absurd H T49_
   ·rw [if_neg c4] at H
    have c4b0 : decide (65536 ≤ x0_1) = false := decide_eq_false c4
    clear c4
    by_cases c14 : x0_1 ≥ 256
    ·rw [if_pos c14] at H
     have c14b0 : decide (256 ≤ x0_1) = true := decide_eq_true c14
     clear c14
     obtain ⟨ji15,hji15⟩ : ∃ j_ : Int,((x0_1 / 256) % 256) = j_ := ⟨_,rfl⟩
     replace H : (if 0 ≤ (ji15) then (if (ji15) < 256 then (some (wrap64 ((wrap64 (x2_1 + 8)) + (wrap64 (bt (⟨#[0,1,2,2,3,3,3,3,4,4,4,4,4,4,4,4,5,5,5,5,5,5,5,5,5,5,5,5,5,5,5,5,6,6,6,6,6,6,6,6,6,6,6,6,6,6,6,6,6,6,6,6,6,6,6,6,6,6,6,6,6,6,6,6,7,7,7,7,7,7,7,7,7,7,7,7,7,7,7,7,7,7,7,7,7,7,7,7,7,7,7,7,7,7,7,7,7,7,7,7,7,7,7,7,7,7,7,7,7,7,7,7,7,7,7,7,7,7,7,7,7,7,7,7,7,7,7,7,8,8,8,8,8,8,8,8,8,8,8,8,8,8,8,8,8,8,8,8,8,8,8,8,8,8,8,8,8,8,8,8,8,8,8,8,8,8,8,8,8,8,8,8,8,8,8,8,8,8,8,8,8,8,8,8,8,8,8,8,8,8,8,8,8,8,8,8,8,8,8,8,8,8,8,8,8,8,8,8,8,8,8,8,8,8,8,8,8,8,8,8,8,8,8,8,8,8,8,8,8,8,8,8,8,8,8,8,8,8,8,8,8,8,8,8,8,8,8,8,8,8,8,8,8,8,8,8]⟩ : ByteArray) (ji15)))))) else (none)) else (none)) = some r := by first | (rw [hji15] at H;exact H) | (simp only [hji15] at H ⊢;exact H)
     by_cases c16 : 0 ≤ (ji15)
     ·rw [if_pos c16] at H
      have c16b0 : decide (0 ≤ (ji15)) = true := decide_eq_true c16
      clear c16
      by_cases c17 : (ji15) < 256
      ·rw [if_pos c17] at H
       have c17b0 : decide ((ji15) < 256) = true := decide_eq_true c17
       clear c17
       obtain rfl := Option.some.inj H
       have p18 : 0 ≤ ((ji15) : Int) := of_decide_eq_true T6_
       have q18 : (ji15) < (256 : Int) := of_decide_eq_true T6_
       have hx18 := bt_at (⟨#[0,1,2,2,3,3,3,3,4,4,4,4,4,4,4,4,5,5,5,5,5,5,5,5,5,5,5,5,5,5,5,5,6,6,6,6,6,6,6,6,6,6,6,6,6,6,6,6,6,6,6,6,6,6,6,6,6,6,6,6,6,6,6,6,7,7,7,7,7,7,7,7,7,7,7,7,7,7,7,7,7,7,7,7,7,7,7,7,7,7,7,7,7,7,7,7,7,7,7,7,7,7,7,7,7,7,7,7,7,7,7,7,7,7,7,7,7,7,7,7,7,7,7,7,7,7,7,7,8,8,8,8,8,8,8,8,8,8,8,8,8,8,8,8,8,8,8,8,8,8,8,8,8,8,8,8,8,8,8,8,8,8,8,8,8,8,8,8,8,8,8,8,8,8,8,8,8,8,8,8,8,8,8,8,8,8,8,8,8,8,8,8,8,8,8,8,8,8,8,8,8,8,8,8,8,8,8,8,8,8,8,8,8,8,8,8,8,8,8,8,8,8,8,8,8,8,8,8,8,8,8,8,8,8,8,8,8,8,8,8,8,8,8,8,8,8,8,8,8,8,8,8,8,8,8,8]⟩ : ByteArray) (ji15)
       replace p18 := eq_true p18
       replace q18 := eq_true q18
       go_wp2
       go_ret
       exact ⟨by first | rfl | (simp;done) | (simp only [← hji15] <;> (first | rfl | simp)) | (simp [*];done),by repeat (first | exact Drawn0.refl _ | apply Drawn0.step)⟩
      ·rw [if_neg c17] at H
       exact absurd H T49_
     ·rw [if_neg c16] at H
      exact absurd H T49_
    ·rw [if_neg c14] at H
     have c14b0 : decide (256 ≤ x0_1) = false := decide_eq_false c14
     clear c14
     obtain ⟨ji19,hji19⟩ : ∃ j_ : Int,((x0_1) % 256) = j_ := ⟨_,rfl⟩
     replace H : (if 0 ≤ (ji19) then (if (ji19) < 256 then (some (wrap64 (x2_1 + (wrap64 (bt (⟨#[0,1,2,2,3,3,3,3,4,4,4,4,4,4,4,4,5,5,5,5,5,5,5,5,5,5,5,5,5,5,5,5,6,6,6,6,6,6,6,6,6,6,6,6,6,6,6,6,6,6,6,6,6,6,6,6,6,6,6,6,6,6,6,6,7,7,7,7,7,7,7,7,7,7,7,7,7,7,7,7,7,7,7,7,7,7,7,7,7,7,7,7,7,7,7,7,7,7,7,7,7,7,7,7,7,7,7,7,7,7,7,7,7,7,7,7,7,7,7,7,7,7,7,7,7,7,7,7,8,8,8,8,8,8,8,8,8,8,8,8,8,8,8,8,8,8,8,8,8,8,8,8,8,8,8,8,8,8,8,8,8,8,8,8,8,8,8,8,8,8,8,8,8,8,8,8,8,8,8,8,8,8,8,8,8,8,8,8,8,8,8,8,8,8,8,8,8,8,8,8,8,8,8,8,8,8,8,8,8,8,8,8,8,8,8,8,8,8,8,8,8,8,8,8,8,8,8,8,8,8,8,8,8,8,8,8,8,8,8,8,8,8,8,8,8,8,8,8,8,8,8,8,8,8,8,8]⟩ : ByteArray) (ji19)))))) else (none)) else (none)) = some r := by first | (rw [hji19] at H;exact H) | (simp only [hji19] at H ⊢;exact H)
     by_cases c20 : 0 ≤ (ji19)
     ·rw [if_pos c20] at H
      have c20b0 : decide (0 ≤ (ji19)) = true := decide_eq_true c20
      clear c20
      by_cases c21 : (ji19) < 256
      ·rw [if_pos c21] at H
       have c21b0 : decide ((ji19) < 256) = true := decide_eq_true c21
       clear c21
       obtain rfl := Option.some.inj H
       have p22 : 0 ≤ ((ji19) : Int) := of_decide_eq_true T6_
       have q22 : (ji19) < (256 : Int) := of_decide_eq_true T6_
       have hx22 := bt_at (⟨#[0,1,2,2,3,3,3,3,4,4,4,4,4,4,4,4,5,5,5,5,5,5,5,5,5,5,5,5,5,5,5,5,6,6,6,6,6,6,6,6,6,6,6,6,6,6,6,6,6,6,6,6,6,6,6,6,6,6,6,6,6,6,6,6,7,7,7,7,7,7,7,7,7,7,7,7,7,7,7,7,7,7,7,7,7,7,7,7,7,7,7,7,7,7,7,7,7,7,7,7,7,7,7,7,7,7,7,7,7,7,7,7,7,7,7,7,7,7,7,7,7,7,7,7,7,7,7,7,8,8,8,8,8,8,8,8,8,8,8,8,8,8,8,8,8,8,8,8,8,8,8,8,8,8,8,8,8,8,8,8,8,8,8,8,8,8,8,8,8,8,8,8,8,8,8,8,8,8,8,8,8,8,8,8,8,8,8,8,8,8,8,8,8,8,8,8,8,8,8,8,8,8,8,8,8,8,8,8,8,8,8,8,8,8,8,8,8,8,8,8,8,8,8,8,8,8,8,8,8,8,8,8,8,8,8,8,8,8,8,8,8,8,8,8,8,8,8,8,8,8,8,8,8,8,8,8]⟩ : ByteArray) (ji19)
       replace p22 := eq_true p22
       replace q22 := eq_true q22
       go_wp2
       go_ret
       exact ⟨by first | rfl | (simp;done) | (simp only [← hji19] <;> (first | rfl | simp)) | (simp [*];done),by repeat (first | exact Drawn0.refl _ | apply Drawn0.step)⟩
      ·rw [if_neg c21] at H
       exact absurd H T49_
     ·rw [if_neg c20] at H
      exact absurd H T49_
end Go.Proofs.Ythlajlhjofjmcaa.F
