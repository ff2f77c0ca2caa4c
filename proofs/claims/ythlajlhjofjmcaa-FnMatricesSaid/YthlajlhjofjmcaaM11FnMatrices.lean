/- Walks of Go functions and lemmas on what they compute, for the row of FnMatrices (a part of several): each call ends as the Lean function of its name tells; the conditions are those of each theorem. -/
import Derived.Test.YthlajlhjofjmcaaM1FnMatrices
import Derived.Test.YthlajlhjofjmcaaM2FnMatrices
import Derived.Test.YthlajlhjofjmcaaM3FnMatrices
import Derived.Test.YthlajlhjofjmcaaM4FnMatrices
import Derived.Test.YthlajlhjofjmcaaM6FnMatrices
import Derived.Test.YthlajlhjofjmcaaM8FnMatrices
import Derived.Test.YthlajlhjofjmcaaM10FnMatrices
namespace Go.Proofs.Ythlajlhjofjmcaa.F
open Go.RowKit Go.Proofs.YthlajlhjofjmcaaW.PrintWords Go.Proofs.YthlajlhjofjmcaaW.PrintLast Go.Proofs.YthlajlhjofjmcaaW.PrintMore
attribute [local go_sem] max2_int min2_int max_two min_two max_three min_three max_four min_four 
set_option linter.unusedVariables false
set_option linter.unusedSimpArgs false
mutual
def spec_l20Fooling.l0 : Nat → Int → Int → List Int → List Int → Int → Int → Int → Option (List Int)
 | 0,_,_,_,_,_,_,_ => none
 | k + 1,x1,x2,x3,x11,x12,x102000,x102001 => if 0 ≤ x102000 then (if x12 < (shl .i64 1 x102000) then ((some (([] : List Int) : List Int)).bind fun y102 => (if y102.length + x3.length < 17592186044416 then ((some (y102 ++ x3 : List Int)).bind fun y105 => (if y105.length < 17592186044416 then ((some (y105 ++ [x12] : List Int)).bind fun y108 => ((spec_IsFooling.f k x102000 x102001 x1 x2 y108).bind fun t111 => (if t111 = true then ((spec_l20Fooling.f k x102000 x102001 x1 x2 y108 (wrap64 (x12 + 1))).bind fun t112 => (if (t112.length : Int) > (x11.length : Int) then (spec_l20Fooling.l0 k x1 x2 x3 t112 (wrap64 (x12 + 1)) x102000 x102001) else (spec_l20Fooling.l0 k x1 x2 x3 x11 (wrap64 (x12 + 1)) x102000 x102001))) else (spec_l20Fooling.l0 k x1 x2 x3 x11 (wrap64 (x12 + 1)) x102000 x102001)))) else (none))) else (none))) else (some x11)) else (none)
def spec_l20Fooling.f : Nat → Int → Int → Int → Int → List Int → Int → Option (List Int)
 | 0,_,_,_,_,_,_ => none
 | k + 1,a0_0,a0_1,a1,a2,l3,a4 => spec_l20Fooling.l0 k a1 a2 l3 l3 a4 a0_0 a0_1
end
set_option maxHeartbeats 8000000 in
set_option maxRecDepth 100000 in
theorem spec_l20Fooling.calls (k : Nat) : ∀ (a0_0 : Int) (a0_1 : Int) (a1 : Int) (a2 : Int) (P3_ : Nat → Prop) (A3 : Option Addr) (c3 : Nat) (l3 : List Int) (a4 : Int) (r : List Int) (w : World) (hs3 : Kd.V (Kd.int .i64) 3 w w.heap.size (fun k_ => P3_ k_) (.slice A3 l3.length c3) l3) (h : spec_l20Fooling.f k a0_0 a0_1 a1 a2 l3 a4 = some r),
  Calls Try.prog 76 #[.agg #[.int .i64 a0_0,.int .i64 a0_1],.int .i64 a1,.int .i64 a2,.slice A3 l3.length c3,.int .i64 a4] w fun e w' => ∃ v0_ : Value,e = .returned (v0_) ∧ Kd.V (Kd.int .i64) 3 w' w.heap.size (fun k_ => (P3_ k_ ∨ w.heap.size ≤ k_)) v0_ r ∧ Below w.heap.size w w' := by
 induction k using Nat.strongRecOn with
 | _ k ih =>
 intro a0_0 a0_1 a1 a2 P3_ A3 c3 l3 a4 r w hs3 h
 cases k with
 | zero => exact absurd h (by simp [spec_l20Fooling.f])
 | succ k =>
 simp only [spec_l20Fooling.f] at h
 have hu25 := Try.underlying25
 have HO3 := aZ_ (show Kd.V (Kd.int .i64) 3 w w.heap.size (fun k_ => (P3_ k_ ∨ w.heap.size ≤ k_)) (.slice A3 l3.length c3) l3 from Kd.V_mono hs3 (fun k_ hk => .inl hk))
 have HB := aZ_ (Below.refl w.heap.size w)
 have H : (spec_l20Fooling.l0 k a1 a2 l3 l3 a4 a0_0 a0_1) = some r := h
 clear h
 have H' := aZ_ H
 clear H
 go_enter Try.func76,Try.ntmps76
 go_wp2_with (first | ((with_reducible refine gate_dst (N := 5) rfl ?_);refine box_event ?hg (N := 5) ?hd (cs := #[.int .i64 a0_0,.int .i64 a0_1]) (t := 25) ?hr ?_;(case hd => rfl);(case hg => rfl);(case hr => first | (go_simp;done) | (go_simp;rfl));intro gb101 hg w6 hbox hb;have n0_ := aZ_ (Kd.V_below (Kd.V_elderB (by (with_reducible repeat (first | apply Kd.V_alloc | apply Kd.V_drewN | apply Kd.V_drew));exact HO3.out) gb101 (Nat.le_of_eq hg.symm)) hb);have n1_ := aZ_ (below_step T5_ hb);have n2_ := aZ_ (hbox);have n3_ := aZ_ ((T2_ : w.heap.size ≤ gb101));have n4_ := aZ_ ((T2_ : w.heap.size ≤ gb101));clear HO3;clear HB;have HO3 := n0_;have HB := n1_;have BK101 := n2_;have GW101 := n3_;have GE101 := n4_;clear n0_ n1_ n2_ n3_ n4_;clear hb hbox hg))
 go_loopg [11,12] k (fun kq v11 v12 w' => ∃ (x11_1 : List Int) (x12_1 : Int),v12 = .int .i64 x12_1 ∧ Aside0 (spec_l20Fooling.l0 kq a1 a2 l3 x11_1 x12_1 a0_0 a0_1 = some r) ∧ Aside0 (kq ≤ k) ∧ Aside0 (Kd.V (Kd.int .i64) 3 w' w.heap.size (fun k_ => (P3_ k_ ∨ w.heap.size ≤ k_) ∧ k_ ≠ gb101) (.slice A3 l3.length c3) l3) ∧ Aside0 (Kd.V (Kd.int .i64) 3 w' w.heap.size (fun k_ => (P3_ k_ ∨ w.heap.size ≤ k_) ∧ k_ ≠ gb101) v11 x11_1) ∧ Aside0 (w'.heap[gb101]? = some (.cells #[.int .i64 a0_0,.int .i64 a0_1] 25 (0,0))) ∧ Aside0 (Below w.heap.size w w'))
 case atStart => exact ⟨(l3),(a4),T10_,H',⟨Nat.le_refl _⟩,⟨by (with_reducible repeat (first | apply Kd.V_alloc | apply Kd.V_drewN | apply Kd.V_drew));exact HO3.out⟩,⟨by (with_reducible repeat (first | apply Kd.V_alloc | apply Kd.V_drewN | apply Kd.V_drew));exact HO3.out⟩,⟨by (with_reducible repeat (first | refine blk_drewN ?_ _ | refine blk_drew ?_ | refine blk_alloc ?_ _));exact BK101.out⟩,⟨by repeat (first | (with_reducible first | exact HB.out | apply below_alloc | apply pw_below_drewN | apply below_drew1 | refine below_set ?_ GE101.out) | exact HB.out)⟩⟩
 case round =>
  clear H'
  try clear p2
  try clear c3
  obtain ⟨x11_1,x12_1,rfl,HA,HK1,HO_3,HO_11,BK101,HB⟩ := hrel
  cases gk with
  | zero => exact absurd HA.out (by simp [spec_l20Fooling.l0])
  | succ k1 =>
   have H := HA.out
   clear HA
   simp only [spec_l20Fooling.l0] at H
   by_cases c7 : 0 ≤ a0_0
   ·rw [if_pos c7] at H
    have c7b0 := eq_true c7
    have c7b1 : decide (0 ≤ a0_0) = true := decide_eq_true c7
    clear c7
    obtain ⟨ji8,hji8⟩ : ∃ j_ : Int,(shl .i64 1 a0_0) = j_ := ⟨_,rfl⟩
    replace H : (if x12_1 < (ji8) then ((some (([] : List Int) : List Int)).bind fun y102 => (if y102.length + l3.length < 17592186044416 then ((some (y102 ++ l3 : List Int)).bind fun y105 => (if y105.length < 17592186044416 then ((some (y105 ++ [x12_1] : List Int)).bind fun y108 => ((spec_IsFooling.f k1 a0_0 a0_1 a1 a2 y108).bind fun t111 => (if t111 = true then ((spec_l20Fooling.f k1 a0_0 a0_1 a1 a2 y108 (wrap64 (x12_1 + 1))).bind fun t112 => (if (t112.length : Int) > (x11_1.length : Int) then (spec_l20Fooling.l0 k1 a1 a2 l3 t112 (wrap64 (x12_1 + 1)) a0_0 a0_1) else (spec_l20Fooling.l0 k1 a1 a2 l3 x11_1 (wrap64 (x12_1 + 1)) a0_0 a0_1))) else (spec_l20Fooling.l0 k1 a1 a2 l3 x11_1 (wrap64 (x12_1 + 1)) a0_0 a0_1)))) else (none))) else (none))) else (some x11_1)) = some r := by first | (rw [hji8] at H;exact H) | (simp only [hji8] at H ⊢;exact H)
    have hji8_ : (IntKind.i64.wrap (1 * 2 ^ min a0_0.toNat 64)) = ji8 := hji8
    have hji8z : a0_0 ≤ 64 → (IntKind.i64.wrap (1 * 2 ^ a0_0.toNat)) = ji8 := shl_small hji8
    have hji8u : (IntKind.i64.wrap (2 ^ min a0_0.toNat 64)) = ji8 := by have h_ := hji8_;rw [Int.one_mul] at h_;exact h_
    have hji8v : a0_0 ≤ 64 → (IntKind.i64.wrap (2 ^ a0_0.toNat)) = ji8 := fun hle_ => by have h_ := hji8z hle_;rw [Int.one_mul] at h_;exact h_
    have hji8y : (wrap64 (1 * 2 ^ min a0_0.toNat 64)) = ji8 := (i64_w _).symm.trans hji8_
    have hji8x : a0_0 ≤ 64 → (wrap64 (1 * 2 ^ a0_0.toNat)) = ji8 := fun h_ => (i64_w _).symm.trans (hji8z h_)
    by_cases c9 : x12_1 < (ji8)
    ·rw [if_pos c9] at H
     have c9b0 : decide (x12_1 < (ji8)) = true := decide_eq_true c9
     clear c9
     obtain ⟨y102,hy102⟩ : ∃ y_ : List Int,y_ = (([] : List Int)) := ⟨_,rfl⟩
     replace H : (if y102.length + l3.length < 17592186044416 then ((some (y102 ++ l3 : List Int)).bind fun y105 => (if y105.length < 17592186044416 then ((some (y105 ++ [x12_1] : List Int)).bind fun y108 => ((spec_IsFooling.f k1 a0_0 a0_1 a1 a2 y108).bind fun t111 => (if t111 = true then ((spec_l20Fooling.f k1 a0_0 a0_1 a1 a2 y108 (wrap64 (x12_1 + 1))).bind fun t112 => (if (t112.length : Int) > (x11_1.length : Int) then (spec_l20Fooling.l0 k1 a1 a2 l3 t112 (wrap64 (x12_1 + 1)) a0_0 a0_1) else (spec_l20Fooling.l0 k1 a1 a2 l3 x11_1 (wrap64 (x12_1 + 1)) a0_0 a0_1))) else (spec_l20Fooling.l0 k1 a1 a2 l3 x11_1 (wrap64 (x12_1 + 1)) a0_0 a0_1)))) else (none))) else (none)) = some r := by first | (rw [hy102];with_reducible exact H) | (have H2_ := (Option.bind_some _ _).symm.trans H;rw [hy102];with_reducible exact H2_) | (have H2_ := (Option.bind_some _ _).symm.trans H;with_reducible exact H2_) | with_reducible exact H | (rw [hy102];exact H) | exact H
     have Ny102 := aZ_ hy102
     clear hy102
     by_cases c10 : y102.length + l3.length < 17592186044416
     ·rw [if_pos c10] at H
      have LMc10 := aZ_ c10
      clear c10
      obtain ⟨y105,hy105⟩ : ∃ y_ : List Int,y_ = (y102 ++ l3) := ⟨_,rfl⟩
      replace H : (if y105.length < 17592186044416 then ((some (y105 ++ [x12_1] : List Int)).bind fun y108 => ((spec_IsFooling.f k1 a0_0 a0_1 a1 a2 y108).bind fun t111 => (if t111 = true then ((spec_l20Fooling.f k1 a0_0 a0_1 a1 a2 y108 (wrap64 (x12_1 + 1))).bind fun t112 => (if (t112.length : Int) > (x11_1.length : Int) then (spec_l20Fooling.l0 k1 a1 a2 l3 t112 (wrap64 (x12_1 + 1)) a0_0 a0_1) else (spec_l20Fooling.l0 k1 a1 a2 l3 x11_1 (wrap64 (x12_1 + 1)) a0_0 a0_1))) else (spec_l20Fooling.l0 k1 a1 a2 l3 x11_1 (wrap64 (x12_1 + 1)) a0_0 a0_1)))) else (none)) = some r := by first | (rw [hy105];with_reducible exact H) | (have H2_ := (Option.bind_some _ _).symm.trans H;rw [hy105];with_reducible exact H2_) | (have H2_ := (Option.bind_some _ _).symm.trans H;with_reducible exact H2_) | with_reducible exact H | (rw [hy105];exact H) | exact H
      have Ny105 := aZ_ hy105
      clear hy105
      by_cases c11 : y105.length < 17592186044416
      ·rw [if_pos c11] at H
       have LMc11 := aZ_ c11
       clear c11
       obtain ⟨y108,hy108⟩ : ∃ y_ : List Int,y_ = (y105 ++ [x12_1]) := ⟨_,rfl⟩
       replace H : ((spec_IsFooling.f k1 a0_0 a0_1 a1 a2 y108).bind fun t111 => (if t111 = true then ((spec_l20Fooling.f k1 a0_0 a0_1 a1 a2 y108 (wrap64 (x12_1 + 1))).bind fun t112 => (if (t112.length : Int) > (x11_1.length : Int) then (spec_l20Fooling.l0 k1 a1 a2 l3 t112 (wrap64 (x12_1 + 1)) a0_0 a0_1) else (spec_l20Fooling.l0 k1 a1 a2 l3 x11_1 (wrap64 (x12_1 + 1)) a0_0 a0_1))) else (spec_l20Fooling.l0 k1 a1 a2 l3 x11_1 (wrap64 (x12_1 + 1)) a0_0 a0_1))) = some r := by first | (rw [hy108];with_reducible exact H) | (have H2_ := (Option.bind_some _ _).symm.trans H;rw [hy108];with_reducible exact H2_) | (have H2_ := (Option.bind_some _ _).symm.trans H;with_reducible exact H2_) | with_reducible exact H | (rw [hy108];exact H) | exact H
       have Ny108 := aZ_ hy108
       clear hy108
       replace H := Option.bind_eq_some_iff.mp H
       obtain ⟨t111,A120,H⟩ := H
       replace H : (if t111 = true then ((spec_l20Fooling.f k1 a0_0 a0_1 a1 a2 y108 (wrap64 (x12_1 + 1))).bind fun t112 => (if (t112.length : Int) > (x11_1.length : Int) then (spec_l20Fooling.l0 k1 a1 a2 l3 t112 (wrap64 (x12_1 + 1)) a0_0 a0_1) else (spec_l20Fooling.l0 k1 a1 a2 l3 x11_1 (wrap64 (x12_1 + 1)) a0_0 a0_1))) else (spec_l20Fooling.l0 k1 a1 a2 l3 x11_1 (wrap64 (x12_1 + 1)) a0_0 a0_1)) = some r := H
       have A12 := aZ_ A120
       clear A120
       by_cases c13 : t111 = true
       ·subst c13
        have H1 : ((spec_l20Fooling.f k1 a0_0 a0_1 a1 a2 y108 (wrap64 (x12_1 + 1))).bind fun t112 => (if (t112.length : Int) > (x11_1.length : Int) then (spec_l20Fooling.l0 k1 a1 a2 l3 t112 (wrap64 (x12_1 + 1)) a0_0 a0_1) else (spec_l20Fooling.l0 k1 a1 a2 l3 x11_1 (wrap64 (x12_1 + 1)) a0_0 a0_1))) = some r := by rw [if_pos rfl] at H;exact H
        clear H
        have H := H1
        clear H1
        replace H := Option.bind_eq_some_iff.mp H
        obtain ⟨t112,A140,H⟩ := H
        replace H : (if (t112.length : Int) > (x11_1.length : Int) then (spec_l20Fooling.l0 k1 a1 a2 l3 t112 (wrap64 (x12_1 + 1)) a0_0 a0_1) else (spec_l20Fooling.l0 k1 a1 a2 l3 x11_1 (wrap64 (x12_1 + 1)) a0_0 a0_1)) = some r := H
        have A14 := aZ_ A140
        clear A140
        by_cases c15 : (t112.length : Int) > (x11_1.length : Int)
        ·rw [if_pos c15] at H
         have c15b0 : decide ((x11_1.length : Int) < (t112.length : Int)) = true := decide_eq_true c15
         have c15b1 : decide (x11_1.length < t112.length) = true := decide_eq_true (Int.ofNat_lt.mp c15)
         clear c15
         have H' := aZ_ H
         clear H
         have hcz16_0 : wr.cell? ⟨gb101,0,none⟩ = some (.int .i64 a0_0) := (blk_cell BK101.out 0).trans rfl
         have hcz16_1 : wr.cell? ⟨gb101,1,none⟩ = some (.int .i64 a0_1) := (blk_cell BK101.out 1).trans rfl
         have hfz16_0 := blk_frozen BK101.out 0
         have hfz16_1 := blk_frozen BK101.out 1
         go_wp2_with (first | ((with_reducible refine gate_dst (N := 24) rfl ?_);refine Kd.R_lit (Kd.int .i64) _ 3 ?hg (N := 24) ?hd (xs := ([] : List Int)) (inner := []) (ok := fun _ => True) (okp := fun _ => True) ?hr ?hp (fun _ hk => hk) trivial (Below.refl _ _) (Nat.le_refl _) T49_ ?_;(case hd => rfl);(case hg => rfl);(case hr => first | (go_simp;done) | (go_simp;rfl));(case hp => exact (Reps.none _ _));intro v103 w17 ho18 hb hg_ hnew_;clear hg_ hnew_;(first | rw [← Ny102.out] at ho18 | (simp only [Int.reduceToNat] at ho18;rw [← Ny102.out] at ho18));have n0_ := aZ_ (Kd.V_elder' T31_ (Kd.R_base ho18) hb);have n1_ := aZ_ (Kd.V_elder' T30_ (Kd.R_base ho18) hb);have n2_ := aZ_ (Kd.R_lower (Kd.R_newM (M := fun k_ => (w.heap.size ≤ k_)) ho18 (below_size T1_) (fun k_ h_ => h_)) (below_size T1_));have n3_ := aZ_ (blk_below (g := gb101) (o := .cells #[.int .i64 a0_0,.int .i64 a0_1] 25 (0,0)) T3_ hb);have n4_ := aZ_ (below_step T1_ hb);clear HO_3;clear HO_11;clear BK101;clear HB;have HO_3 := n0_;have HO_11 := n1_;have HO104 := n2_;have BK101 := n3_;have HB := n4_;clear n0_ n1_ n2_ n3_ n4_;clear hb ho18) | ((with_reducible refine gate_builtin (b := .append) (xs := #[.tmp 24,.tmp 25]) rfl ?_);at_builtin;refine Kd.R_append_rows (Kd.int .i64) (w0 := w) w.heap.size rfl (.tmp 24) (.tmp 25) 27 3 (.int .i64 0) 8 rfl Try.underlying27 info3 rfl T48_ T44_ v103 y102 l3 _ _ _ (fun k_ => (w.heap.size ≤ k_)) (fun _ => False) rfl rfl ?aO ?aR (fun _ _ h => h) (fun _ h => h.elim) ?aF ?aB ?aS ?aL ?_;(case aR => repeat (first | exact (Kd.V_reads' HO_3.out).2.2 | (with_reducible refine Kd.C_alloc ?_ _) | (with_reducible refine Kd.C_drewN ?_ _) | (with_reducible refine Kd.C_drew ?_)));(case aB => exact T1_);(case aF => exact (fun k_ hk => (Nat.le_trans (below_size T1_) hk)));(case aO => exact T62_);(case aS => exact (below_size T1_));(case aL => have := LMc10.out;omega);intro v106 w19 ho hb hg hat;rw [← Ny105.out] at ho;have n0_ := aZ_ (Kd.V_afterv (ok := (fun k_ => (P3_ k_ ∨ w.heap.size ≤ k_) ∧ k_ ≠ gb101)) T31_ hg hat);have n1_ := aZ_ (Kd.V_afterv (ok := (fun k_ => (P3_ k_ ∨ w.heap.size ≤ k_) ∧ k_ ≠ gb101)) T30_ hg hat);have n2_ := aZ_ (blk_grown (g := gb101) (o := .cells #[.int .i64 a0_0,.int .i64 a0_1] 25 (0,0)) T3_ hg (Kd.R_ne HO104.out BK101.out T48_));have n3_ := aZ_ (hb);have n4_ := aZ_ (ho);clear HO_3;clear HO_11;clear BK101;clear HB;clear HO104;have HO_3 := n0_;have HO_11 := n1_;have BK101 := n2_;have HB := n3_;have HO107 := n4_;clear n0_ n1_ n2_ n3_ n4_;clear ho hb hg hat) | ((with_reducible refine gate_builtin (b := .append) (xs := #[.tmp 26,.tmp 28]) rfl ?_);at_builtin;refine Kd.R_append (Kd.int .i64) (w0 := w) w.heap.size rfl (.tmp 26) (.tmp 28) 27 3 (.int .i64 0) 8 rfl Try.underlying27 info3 rfl T48_ T44_ v106 y105 x12_1 [.int .i64 x12_1] (fun k_ => (w.heap.size ≤ k_)) (fun _ => False) rfl rfl ?aP (fun _ hk => hk.elim) ?aF ?aO ?aB ?aS ?aL ?_;(case aP => exact rfl);(case aB => exact T1_);(case aF => exact (fun k_ hk => (Nat.le_trans (below_size T1_) hk)));(case aO => exact T37_);(case aS => exact (below_size T1_));(case aL => have := LMc11.out;omega);intro v109 w20 ho hb hg hat;rw [← Ny108.out] at ho;have n0_ := aZ_ (Kd.V_afterv (ok := (fun k_ => (P3_ k_ ∨ w.heap.size ≤ k_) ∧ k_ ≠ gb101)) T31_ hg hat);have n1_ := aZ_ (Kd.V_afterv (ok := (fun k_ => (P3_ k_ ∨ w.heap.size ≤ k_) ∧ k_ ≠ gb101)) T30_ hg hat);have n2_ := aZ_ (blk_grown (g := gb101) (o := .cells #[.int .i64 a0_0,.int .i64 a0_1] 25 (0,0)) T3_ hg (Kd.R_ne HO107.out BK101.out T48_));have n3_ := aZ_ (hb);have n4_ := aZ_ (ho);clear HO_3;clear HO_11;clear BK101;clear HB;clear HO107;have HO_3 := n0_;have HO_11 := n1_;have BK101 := n2_;have HB := n3_;have HO110 := n4_;clear n0_ n1_ n2_ n3_ n4_;clear ho hb hg hat;have hcz21_0 : w20.cell? ⟨gb101,0,none⟩ = some (.int .i64 a0_0) := (blk_cell BK101.out 0).trans rfl;have hcz21_1 : w20.cell? ⟨gb101,1,none⟩ = some (.int .i64 a0_1) := (blk_cell BK101.out 1).trans rfl;have hfz21_0 := blk_frozen BK101.out 0;have hfz21_1 := blk_frozen BK101.out 1;obtain ⟨Ao22,co22,eo22⟩ := Kd.R_slice HO110.out;subst eo22) | ((with_reducible refine gate_callee (f := 45) rfl ?_);refine goesL_ (some 34) rfl rfl Try.func45 T15_ rfl #[.agg #[.int .i64 a0_0,.int .i64 a0_1],.int .i64 a1,.int .i64 a2,.slice Ao22 y108.length co22] rfl T4_ ?_;(with_reducible refine (spec_IsFooling.calls k1 a0_0 a0_1 a1 a2 _ _ y108 true _ ?side1 ?side2 A12.out).mono ?_);(case side1 => repeat (first | exact (Kd.R_reads' HO110.out).2.2 | (with_reducible refine Kd.C_alloc ?_ _) | (with_reducible refine Kd.C_drewN ?_ _) | (with_reducible refine Kd.C_drew ?_)));(case side2 => exact (Kd.R_reads' HO110.out).2.1);rintro e w23 ⟨rfl,hb⟩;refine ⟨_,rfl,?_⟩;have n0_ := aZ_ (Kd.V_below T31_ hb);have n1_ := aZ_ (Kd.V_below T30_ hb);have n2_ := aZ_ (Kd.R_below T52_ hb);have n3_ := aZ_ (blk_below (g := gb101) (o := .cells #[.int .i64 a0_0,.int .i64 a0_1] 25 (0,0)) T3_ hb);have n4_ := aZ_ (below_step T1_ hb);clear HO_3;clear HO_11;clear HO110;clear BK101;clear HB;have HO_3 := n0_;have HO_11 := n1_;have HO110 := n2_;have BK101 := n3_;have HB := n4_;clear n0_ n1_ n2_ n3_ n4_;(try clear hb);(try clear hb2);(try clear hk);(try clear hi);have hcz24_0 : w23.cell? ⟨gb101,0,none⟩ = some (.int .i64 a0_0) := (blk_cell BK101.out 0).trans rfl;have hcz24_1 : w23.cell? ⟨gb101,1,none⟩ = some (.int .i64 a0_1) := (blk_cell BK101.out 1).trans rfl;have hfz24_0 := blk_frozen BK101.out 0;have hfz24_1 := blk_frozen BK101.out 1) | ((with_reducible refine gate_callee (f := 76) rfl ?_);refine goesL_ (some 42) rfl rfl Try.func76 T15_ rfl #[.agg #[.int .i64 a0_0,.int .i64 a0_1],.int .i64 a1,.int .i64 a2,.slice Ao22 y108.length co22,.int .i64 (wrap64 (x12_1 + 1))] rfl T4_ ?_;(with_reducible refine (ih k1 (by have := HK1.out;omega) a0_0 a0_1 a1 a2 (fun k_ => some k_ = (.slice Ao22 y108.length co22 : Value).ownBlock) _ _ y108 (wrap64 (x12_1 + 1)) t112 _ ?side1 A14.out).mono ?_);(case side1 => exact Kd.R_V (Kd.R_tight rfl (Kd.R_types (HO110.out) BK101.out T48_)));rintro e w25 ⟨v113,rfl,ho0,hb⟩;refine ⟨_,rfl,?_⟩;have n0_ := aZ_ (Kd.V_below T31_ hb);have n1_ := aZ_ (Kd.V_below T30_ hb);have n2_ := aZ_ (Kd.R_below T52_ hb);have n3_ := aZ_ (Kd.V_lower (Kd.V_mono (ok' := fun k_ => (P3_ k_ ∨ w.heap.size ≤ k_) ∧ k_ ≠ gb101) ho0 (fun k_ hk_ => ⟨Or.elim hk_ (fun hs_ => (.inr (((Kd.R_types (HO110.out) BK101.out T48_).1 k_ hs_.symm).1))) (fun hn_ => (.inr (Nat.le_trans (below_size T1_) hn_))),Or.elim hk_ (fun hs_ => ((Kd.R_types (HO110.out) BK101.out T48_).1 k_ hs_.symm).2) (fun hn_ => (Kd.freshB (g := gb101) (o := .cells #[.int .i64 a0_0,.int .i64 a0_1] 25 (0,0)) T3_ k_ hn_))⟩)) (below_size T1_));have n4_ := aZ_ (blk_below (g := gb101) (o := .cells #[.int .i64 a0_0,.int .i64 a0_1] 25 (0,0)) T3_ hb);have n5_ := aZ_ (below_step T1_ hb);clear HO_3;clear HO_11;clear HO110;clear BK101;clear HB;have HO_3 := n0_;have HO_11 := n1_;have HO110 := n2_;have HO114 := n3_;have BK101 := n4_;have HB := n5_;clear n0_ n1_ n2_ n3_ n4_ n5_;(try clear hb);(try clear hb2);(try clear hk);(try clear hi);(try clear ho0);obtain ⟨Ao26,co26,eo26⟩ := Kd.V_slice HO114.out;subst eo26;obtain ⟨Ao27,co27,eo27⟩ := Kd.V_slice HO_11.out;subst eo27))
         go_roundg k1
         case measure => have := HK1.out;omega
         case rel => exact ⟨(t112),(wrap64 (x12_1 + 1)),T10_,H',⟨by have := HK1.out;omega⟩,⟨by (with_reducible repeat (first | apply Kd.V_alloc | apply Kd.V_drewN | apply Kd.V_drew));exact Kd.V_mono HO_3.out (fun _ hk => ⟨hk.1.1,hk.1.2⟩)⟩,⟨by (with_reducible repeat (first | apply Kd.V_alloc | apply Kd.V_drewN | apply Kd.V_drew));exact HO114.out⟩,⟨by (with_reducible repeat (first | refine blk_drewN ?_ _ | refine blk_drew ?_ | refine blk_alloc ?_ _));exact BK101.out⟩,⟨by repeat (first | (with_reducible first | exact HB.out | apply below_alloc | apply pw_below_drewN | apply below_drew1 | refine below_set ?_ GE101.out) | exact HB.out)⟩⟩
        ·rw [if_neg c15] at H
         have c15b0 : decide ((x11_1.length : Int) < (t112.length : Int)) = false := decide_eq_false c15
         have c15b1 : decide (x11_1.length < t112.length) = false := decide_eq_false (fun h => c15 (Int.ofNat_lt.mpr h))
         clear c15
         have H' := aZ_ H
         clear H
         have hcz28_0 : wr.cell? ⟨gb101,0,none⟩ = some (.int .i64 a0_0) := (blk_cell BK101.out 0).trans rfl
         have hcz28_1 : wr.cell? ⟨gb101,1,none⟩ = some (.int .i64 a0_1) := (blk_cell BK101.out 1).trans rfl
         have hfz28_0 := blk_frozen BK101.out 0
         have hfz28_1 := blk_frozen BK101.out 1
         go_wp2_with (first | ((with_reducible refine gate_dst (N := 24) rfl ?_);refine Kd.R_lit (Kd.int .i64) _ 3 ?hg (N := 24) ?hd (xs := ([] : List Int)) (inner := []) (ok := fun _ => True) (okp := fun _ => True) ?hr ?hp (fun _ hk => hk) trivial (Below.refl _ _) (Nat.le_refl _) T49_ ?_;(case hd => rfl);(case hg => rfl);(case hr => first | (go_simp;done) | (go_simp;rfl));(case hp => exact (Reps.none _ _));intro v103 w29 ho30 hb hg_ hnew_;clear hg_ hnew_;(first | rw [← Ny102.out] at ho30 | (simp only [Int.reduceToNat] at ho30;rw [← Ny102.out] at ho30));have n0_ := aZ_ (Kd.V_elder' T31_ (Kd.R_base ho30) hb);have n1_ := aZ_ (Kd.V_elder' T30_ (Kd.R_base ho30) hb);have n2_ := aZ_ (Kd.R_lower (Kd.R_newM (M := fun k_ => (w.heap.size ≤ k_)) ho30 (below_size T1_) (fun k_ h_ => h_)) (below_size T1_));have n3_ := aZ_ (blk_below (g := gb101) (o := .cells #[.int .i64 a0_0,.int .i64 a0_1] 25 (0,0)) T3_ hb);have n4_ := aZ_ (below_step T1_ hb);clear HO_3;clear HO_11;clear BK101;clear HB;have HO_3 := n0_;have HO_11 := n1_;have HO104 := n2_;have BK101 := n3_;have HB := n4_;clear n0_ n1_ n2_ n3_ n4_;clear hb ho30) | ((with_reducible refine gate_builtin (b := .append) (xs := #[.tmp 24,.tmp 25]) rfl ?_);at_builtin;refine Kd.R_append_rows (Kd.int .i64) (w0 := w) w.heap.size rfl (.tmp 24) (.tmp 25) 27 3 (.int .i64 0) 8 rfl Try.underlying27 info3 rfl T48_ T44_ v103 y102 l3 _ _ _ (fun k_ => (w.heap.size ≤ k_)) (fun _ => False) rfl rfl ?aO ?aR (fun _ _ h => h) (fun _ h => h.elim) ?aF ?aB ?aS ?aL ?_;(case aR => repeat (first | exact (Kd.V_reads' HO_3.out).2.2 | (with_reducible refine Kd.C_alloc ?_ _) | (with_reducible refine Kd.C_drewN ?_ _) | (with_reducible refine Kd.C_drew ?_)));(case aB => exact T1_);(case aF => exact (fun k_ hk => (Nat.le_trans (below_size T1_) hk)));(case aO => exact T62_);(case aS => exact (below_size T1_));(case aL => have := LMc10.out;omega);intro v106 w31 ho hb hg hat;rw [← Ny105.out] at ho;have n0_ := aZ_ (Kd.V_afterv (ok := (fun k_ => (P3_ k_ ∨ w.heap.size ≤ k_) ∧ k_ ≠ gb101)) T31_ hg hat);have n1_ := aZ_ (Kd.V_afterv (ok := (fun k_ => (P3_ k_ ∨ w.heap.size ≤ k_) ∧ k_ ≠ gb101)) T30_ hg hat);have n2_ := aZ_ (blk_grown (g := gb101) (o := .cells #[.int .i64 a0_0,.int .i64 a0_1] 25 (0,0)) T3_ hg (Kd.R_ne HO104.out BK101.out T48_));have n3_ := aZ_ (hb);have n4_ := aZ_ (ho);clear HO_3;clear HO_11;clear BK101;clear HB;clear HO104;have HO_3 := n0_;have HO_11 := n1_;have BK101 := n2_;have HB := n3_;have HO107 := n4_;clear n0_ n1_ n2_ n3_ n4_;clear ho hb hg hat) | ((with_reducible refine gate_builtin (b := .append) (xs := #[.tmp 26,.tmp 28]) rfl ?_);at_builtin;refine Kd.R_append (Kd.int .i64) (w0 := w) w.heap.size rfl (.tmp 26) (.tmp 28) 27 3 (.int .i64 0) 8 rfl Try.underlying27 info3 rfl T48_ T44_ v106 y105 x12_1 [.int .i64 x12_1] (fun k_ => (w.heap.size ≤ k_)) (fun _ => False) rfl rfl ?aP (fun _ hk => hk.elim) ?aF ?aO ?aB ?aS ?aL ?_;(case aP => exact rfl);(case aB => exact T1_);(case aF => exact (fun k_ hk => (Nat.le_trans (below_size T1_) hk)));(case aO => exact T37_);(case aS => exact (below_size T1_));(case aL => have := LMc11.out;omega);intro v109 w32 ho hb hg hat;rw [← Ny108.out] at ho;have n0_ := aZ_ (Kd.V_afterv (ok := (fun k_ => (P3_ k_ ∨ w.heap.size ≤ k_) ∧ k_ ≠ gb101)) T31_ hg hat);have n1_ := aZ_ (Kd.V_afterv (ok := (fun k_ => (P3_ k_ ∨ w.heap.size ≤ k_) ∧ k_ ≠ gb101)) T30_ hg hat);have n2_ := aZ_ (blk_grown (g := gb101) (o := .cells #[.int .i64 a0_0,.int .i64 a0_1] 25 (0,0)) T3_ hg (Kd.R_ne HO107.out BK101.out T48_));have n3_ := aZ_ (hb);have n4_ := aZ_ (ho);clear HO_3;clear HO_11;clear BK101;clear HB;clear HO107;have HO_3 := n0_;have HO_11 := n1_;have BK101 := n2_;have HB := n3_;have HO110 := n4_;clear n0_ n1_ n2_ n3_ n4_;clear ho hb hg hat;have hcz33_0 : w32.cell? ⟨gb101,0,none⟩ = some (.int .i64 a0_0) := (blk_cell BK101.out 0).trans rfl;have hcz33_1 : w32.cell? ⟨gb101,1,none⟩ = some (.int .i64 a0_1) := (blk_cell BK101.out 1).trans rfl;have hfz33_0 := blk_frozen BK101.out 0;have hfz33_1 := blk_frozen BK101.out 1;obtain ⟨Ao34,co34,eo34⟩ := Kd.R_slice HO110.out;subst eo34) | ((with_reducible refine gate_callee (f := 45) rfl ?_);refine goesL_ (some 34) rfl rfl Try.func45 T15_ rfl #[.agg #[.int .i64 a0_0,.int .i64 a0_1],.int .i64 a1,.int .i64 a2,.slice Ao34 y108.length co34] rfl T4_ ?_;(with_reducible refine (spec_IsFooling.calls k1 a0_0 a0_1 a1 a2 _ _ y108 true _ ?side1 ?side2 A12.out).mono ?_);(case side1 => repeat (first | exact (Kd.R_reads' HO110.out).2.2 | (with_reducible refine Kd.C_alloc ?_ _) | (with_reducible refine Kd.C_drewN ?_ _) | (with_reducible refine Kd.C_drew ?_)));(case side2 => exact (Kd.R_reads' HO110.out).2.1);rintro e w35 ⟨rfl,hb⟩;refine ⟨_,rfl,?_⟩;have n0_ := aZ_ (Kd.V_below T31_ hb);have n1_ := aZ_ (Kd.V_below T30_ hb);have n2_ := aZ_ (Kd.R_below T52_ hb);have n3_ := aZ_ (blk_below (g := gb101) (o := .cells #[.int .i64 a0_0,.int .i64 a0_1] 25 (0,0)) T3_ hb);have n4_ := aZ_ (below_step T1_ hb);clear HO_3;clear HO_11;clear HO110;clear BK101;clear HB;have HO_3 := n0_;have HO_11 := n1_;have HO110 := n2_;have BK101 := n3_;have HB := n4_;clear n0_ n1_ n2_ n3_ n4_;(try clear hb);(try clear hb2);(try clear hk);(try clear hi);have hcz36_0 : w35.cell? ⟨gb101,0,none⟩ = some (.int .i64 a0_0) := (blk_cell BK101.out 0).trans rfl;have hcz36_1 : w35.cell? ⟨gb101,1,none⟩ = some (.int .i64 a0_1) := (blk_cell BK101.out 1).trans rfl;have hfz36_0 := blk_frozen BK101.out 0;have hfz36_1 := blk_frozen BK101.out 1) | ((with_reducible refine gate_callee (f := 76) rfl ?_);refine goesL_ (some 42) rfl rfl Try.func76 T15_ rfl #[.agg #[.int .i64 a0_0,.int .i64 a0_1],.int .i64 a1,.int .i64 a2,.slice Ao34 y108.length co34,.int .i64 (wrap64 (x12_1 + 1))] rfl T4_ ?_;(with_reducible refine (ih k1 (by have := HK1.out;omega) a0_0 a0_1 a1 a2 (fun k_ => some k_ = (.slice Ao34 y108.length co34 : Value).ownBlock) _ _ y108 (wrap64 (x12_1 + 1)) t112 _ ?side1 A14.out).mono ?_);(case side1 => exact Kd.R_V (Kd.R_tight rfl (Kd.R_types (HO110.out) BK101.out T48_)));rintro e w37 ⟨v113,rfl,ho0,hb⟩;refine ⟨_,rfl,?_⟩;have n0_ := aZ_ (Kd.V_below T31_ hb);have n1_ := aZ_ (Kd.V_below T30_ hb);have n2_ := aZ_ (Kd.R_below T52_ hb);have n3_ := aZ_ (Kd.V_lower (Kd.V_mono (ok' := fun k_ => (P3_ k_ ∨ w.heap.size ≤ k_) ∧ k_ ≠ gb101) ho0 (fun k_ hk_ => ⟨Or.elim hk_ (fun hs_ => (.inr (((Kd.R_types (HO110.out) BK101.out T48_).1 k_ hs_.symm).1))) (fun hn_ => (.inr (Nat.le_trans (below_size T1_) hn_))),Or.elim hk_ (fun hs_ => ((Kd.R_types (HO110.out) BK101.out T48_).1 k_ hs_.symm).2) (fun hn_ => (Kd.freshB (g := gb101) (o := .cells #[.int .i64 a0_0,.int .i64 a0_1] 25 (0,0)) T3_ k_ hn_))⟩)) (below_size T1_));have n4_ := aZ_ (blk_below (g := gb101) (o := .cells #[.int .i64 a0_0,.int .i64 a0_1] 25 (0,0)) T3_ hb);have n5_ := aZ_ (below_step T1_ hb);clear HO_3;clear HO_11;clear HO110;clear BK101;clear HB;have HO_3 := n0_;have HO_11 := n1_;have HO110 := n2_;have HO114 := n3_;have BK101 := n4_;have HB := n5_;clear n0_ n1_ n2_ n3_ n4_ n5_;(try clear hb);(try clear hb2);(try clear hk);(try clear hi);(try clear ho0);obtain ⟨Ao38,co38,eo38⟩ := Kd.V_slice HO114.out;subst eo38;obtain ⟨Ao39,co39,eo39⟩ := Kd.V_slice HO_11.out;subst eo39))
         go_roundg k1
         case measure => have := HK1.out;omega
         case rel => exact ⟨(x11_1),(wrap64 (x12_1 + 1)),T10_,H',⟨by have := HK1.out;omega⟩,⟨by (with_reducible repeat (first | apply Kd.V_alloc | apply Kd.V_drewN | apply Kd.V_drew));exact Kd.V_mono HO_3.out (fun _ hk => ⟨hk.1.1,hk.1.2⟩)⟩,⟨by (with_reducible repeat (first | apply Kd.V_alloc | apply Kd.V_drewN | apply Kd.V_drew));exact Kd.V_mono HO_11.out (fun _ hk => ⟨hk.1.1,hk.1.2⟩)⟩,⟨by (with_reducible repeat (first | refine blk_drewN ?_ _ | refine blk_drew ?_ | refine blk_alloc ?_ _));exact BK101.out⟩,⟨by repeat (first | (with_reducible first | exact HB.out | apply below_alloc | apply pw_below_drewN | apply below_drew1 | refine below_set ?_ GE101.out) | exact HB.out)⟩⟩
       ·replace c13 := Bool.eq_false_iff.mpr c13
        subst c13
        have H1 : (spec_l20Fooling.l0 k1 a1 a2 l3 x11_1 (wrap64 (x12_1 + 1)) a0_0 a0_1) = some r := by rw [if_neg (show ¬ (false = true) by decide)] at H;exact H
        clear H
        have H := H1
        clear H1
        have H' := aZ_ H
        clear H
        have hcz40_0 : wr.cell? ⟨gb101,0,none⟩ = some (.int .i64 a0_0) := (blk_cell BK101.out 0).trans rfl
        have hcz40_1 : wr.cell? ⟨gb101,1,none⟩ = some (.int .i64 a0_1) := (blk_cell BK101.out 1).trans rfl
        have hfz40_0 := blk_frozen BK101.out 0
        have hfz40_1 := blk_frozen BK101.out 1
        go_wp2_with (first | ((with_reducible refine gate_dst (N := 24) rfl ?_);refine Kd.R_lit (Kd.int .i64) _ 3 ?hg (N := 24) ?hd (xs := ([] : List Int)) (inner := []) (ok := fun _ => True) (okp := fun _ => True) ?hr ?hp (fun _ hk => hk) trivial (Below.refl _ _) (Nat.le_refl _) T49_ ?_;(case hd => rfl);(case hg => rfl);(case hr => first | (go_simp;done) | (go_simp;rfl));(case hp => exact (Reps.none _ _));intro v103 w41 ho42 hb hg_ hnew_;clear hg_ hnew_;(first | rw [← Ny102.out] at ho42 | (simp only [Int.reduceToNat] at ho42;rw [← Ny102.out] at ho42));have n0_ := aZ_ (Kd.V_elder' T31_ (Kd.R_base ho42) hb);have n1_ := aZ_ (Kd.V_elder' T30_ (Kd.R_base ho42) hb);have n2_ := aZ_ (Kd.R_lower (Kd.R_newM (M := fun k_ => (w.heap.size ≤ k_)) ho42 (below_size T1_) (fun k_ h_ => h_)) (below_size T1_));have n3_ := aZ_ (blk_below (g := gb101) (o := .cells #[.int .i64 a0_0,.int .i64 a0_1] 25 (0,0)) T3_ hb);have n4_ := aZ_ (below_step T1_ hb);clear HO_3;clear HO_11;clear BK101;clear HB;have HO_3 := n0_;have HO_11 := n1_;have HO104 := n2_;have BK101 := n3_;have HB := n4_;clear n0_ n1_ n2_ n3_ n4_;clear hb ho42) | ((with_reducible refine gate_builtin (b := .append) (xs := #[.tmp 24,.tmp 25]) rfl ?_);at_builtin;refine Kd.R_append_rows (Kd.int .i64) (w0 := w) w.heap.size rfl (.tmp 24) (.tmp 25) 27 3 (.int .i64 0) 8 rfl Try.underlying27 info3 rfl T48_ T44_ v103 y102 l3 _ _ _ (fun k_ => (w.heap.size ≤ k_)) (fun _ => False) rfl rfl ?aO ?aR (fun _ _ h => h) (fun _ h => h.elim) ?aF ?aB ?aS ?aL ?_;(case aR => repeat (first | exact (Kd.V_reads' HO_3.out).2.2 | (with_reducible refine Kd.C_alloc ?_ _) | (with_reducible refine Kd.C_drewN ?_ _) | (with_reducible refine Kd.C_drew ?_)));(case aB => exact T1_);(case aF => exact (fun k_ hk => (Nat.le_trans (below_size T1_) hk)));(case aO => exact T62_);(case aS => exact (below_size T1_));(case aL => have := LMc10.out;omega);intro v106 w43 ho hb hg hat;rw [← Ny105.out] at ho;have n0_ := aZ_ (Kd.V_afterv (ok := (fun k_ => (P3_ k_ ∨ w.heap.size ≤ k_) ∧ k_ ≠ gb101)) T31_ hg hat);have n1_ := aZ_ (Kd.V_afterv (ok := (fun k_ => (P3_ k_ ∨ w.heap.size ≤ k_) ∧ k_ ≠ gb101)) T30_ hg hat);have n2_ := aZ_ (blk_grown (g := gb101) (o := .cells #[.int .i64 a0_0,.int .i64 a0_1] 25 (0,0)) T3_ hg (Kd.R_ne HO104.out BK101.out T48_));have n3_ := aZ_ (hb);have n4_ := aZ_ (ho);clear HO_3;clear HO_11;clear BK101;clear HB;clear HO104;have HO_3 := n0_;have HO_11 := n1_;have BK101 := n2_;have HB := n3_;have HO107 := n4_;clear n0_ n1_ n2_ n3_ n4_;clear ho hb hg hat) | ((with_reducible refine gate_builtin (b := .append) (xs := #[.tmp 26,.tmp 28]) rfl ?_);at_builtin;refine Kd.R_append (Kd.int .i64) (w0 := w) w.heap.size rfl (.tmp 26) (.tmp 28) 27 3 (.int .i64 0) 8 rfl Try.underlying27 info3 rfl T48_ T44_ v106 y105 x12_1 [.int .i64 x12_1] (fun k_ => (w.heap.size ≤ k_)) (fun _ => False) rfl rfl ?aP (fun _ hk => hk.elim) ?aF ?aO ?aB ?aS ?aL ?_;(case aP => exact rfl);(case aB => exact T1_);(case aF => exact (fun k_ hk => (Nat.le_trans (below_size T1_) hk)));(case aO => exact T37_);(case aS => exact (below_size T1_));(case aL => have := LMc11.out;omega);intro v109 w44 ho hb hg hat;rw [← Ny108.out] at ho;have n0_ := aZ_ (Kd.V_afterv (ok := (fun k_ => (P3_ k_ ∨ w.heap.size ≤ k_) ∧ k_ ≠ gb101)) T31_ hg hat);have n1_ := aZ_ (Kd.V_afterv (ok := (fun k_ => (P3_ k_ ∨ w.heap.size ≤ k_) ∧ k_ ≠ gb101)) T30_ hg hat);have n2_ := aZ_ (blk_grown (g := gb101) (o := .cells #[.int .i64 a0_0,.int .i64 a0_1] 25 (0,0)) T3_ hg (Kd.R_ne HO107.out BK101.out T48_));have n3_ := aZ_ (hb);have n4_ := aZ_ (ho);clear HO_3;clear HO_11;clear BK101;clear HB;clear HO107;have HO_3 := n0_;have HO_11 := n1_;have BK101 := n2_;have HB := n3_;have HO110 := n4_;clear n0_ n1_ n2_ n3_ n4_;clear ho hb hg hat;have hcz45_0 : w44.cell? ⟨gb101,0,none⟩ = some (.int .i64 a0_0) := (blk_cell BK101.out 0).trans rfl;have hcz45_1 : w44.cell? ⟨gb101,1,none⟩ = some (.int .i64 a0_1) := (blk_cell BK101.out 1).trans rfl;have hfz45_0 := blk_frozen BK101.out 0;have hfz45_1 := blk_frozen BK101.out 1;obtain ⟨Ao46,co46,eo46⟩ := Kd.R_slice HO110.out;subst eo46) | ((with_reducible refine gate_callee (f := 45) rfl ?_);refine goesL_ (some 34) rfl rfl Try.func45 T15_ rfl #[.agg #[.int .i64 a0_0,.int .i64 a0_1],.int .i64 a1,.int .i64 a2,.slice Ao46 y108.length co46] rfl T4_ ?_;(with_reducible refine (spec_IsFooling.calls k1 a0_0 a0_1 a1 a2 _ _ y108 false _ ?side1 ?side2 A12.out).mono ?_);(case side1 => repeat (first | exact (Kd.R_reads' HO110.out).2.2 | (with_reducible refine Kd.C_alloc ?_ _) | (with_reducible refine Kd.C_drewN ?_ _) | (with_reducible refine Kd.C_drew ?_)));(case side2 => exact (Kd.R_reads' HO110.out).2.1);rintro e w47 ⟨rfl,hb⟩;refine ⟨_,rfl,?_⟩;have n0_ := aZ_ (Kd.V_below T31_ hb);have n1_ := aZ_ (Kd.V_below T30_ hb);have n2_ := aZ_ (Kd.R_below T52_ hb);have n3_ := aZ_ (blk_below (g := gb101) (o := .cells #[.int .i64 a0_0,.int .i64 a0_1] 25 (0,0)) T3_ hb);have n4_ := aZ_ (below_step T1_ hb);clear HO_3;clear HO_11;clear HO110;clear BK101;clear HB;have HO_3 := n0_;have HO_11 := n1_;have HO110 := n2_;have BK101 := n3_;have HB := n4_;clear n0_ n1_ n2_ n3_ n4_;(try clear hb);(try clear hb2);(try clear hk);(try clear hi)))
        go_roundg k1
        case measure => have := HK1.out;omega
        case rel => exact ⟨(x11_1),(wrap64 (x12_1 + 1)),T10_,H',⟨by have := HK1.out;omega⟩,⟨by (with_reducible repeat (first | apply Kd.V_alloc | apply Kd.V_drewN | apply Kd.V_drew));exact Kd.V_mono HO_3.out (fun _ hk => ⟨hk.1.1,hk.1.2⟩)⟩,⟨by (with_reducible repeat (first | apply Kd.V_alloc | apply Kd.V_drewN | apply Kd.V_drew));exact Kd.V_mono HO_11.out (fun _ hk => ⟨hk.1.1,hk.1.2⟩)⟩,⟨by (with_reducible repeat (first | refine blk_drewN ?_ _ | refine blk_drew ?_ | refine blk_alloc ?_ _));exact BK101.out⟩,⟨by repeat (first | (with_reducible first | exact HB.out | apply below_alloc | apply pw_below_drewN | apply below_drew1 | refine below_set ?_ GE101.out) | exact HB.out)⟩⟩
      ·rw [if_neg c11] at H
       exact absurd H T49_
     ·rw [if_neg c10] at H
      exact absurd H T49_
    ·rw [if_neg c9] at H
     have c9b0 : decide (x12_1 < (ji8)) = false := decide_eq_false c9
     clear c9
     obtain rfl := Option.some.inj H
     have hcz48_0 : wr.cell? ⟨gb101,0,none⟩ = some (.int .i64 a0_0) := (blk_cell BK101.out 0).trans rfl
     have hcz48_1 : wr.cell? ⟨gb101,1,none⟩ = some (.int .i64 a0_1) := (blk_cell BK101.out 1).trans rfl
     have hfz48_0 := blk_frozen BK101.out 0
     have hfz48_1 := blk_frozen BK101.out 1
     go_wp2
     go_ret
     exact ⟨_,by first | rfl | (simp [errW_none,errW_some] <;> rfl) | (simp only [← hji8];first | rfl | (simp [errW_none,errW_some] <;> rfl)) | (simp [*,errW_none,errW_some] <;> rfl),by (with_reducible repeat (first | apply Kd.V_alloc | apply Kd.V_drewN | apply Kd.V_drew));exact Kd.V_mono HO_11.out (fun _ hk => hk.1),by repeat (first | (with_reducible first | exact HB.out | apply below_alloc | apply pw_below_drewN | apply below_drew1 | refine below_set ?_ GE101.out) | exact HB.out)⟩
   ·rw [if_neg c7] at H
    exact absurd H T49_
def spec_LargestFooling.f (k : Nat) (a0_0 : Int) (a0_1 : Int) (a1 : Int) (a2 : Int) : Option (List Int × Bool) := (spec_IsTable.f a0_0 a0_1).bind fun t102 => (if t102 = true then (if a0_0 > 4 then (some ((([] : List Int)),false)) else ((spec_l1In.f a1 0 a0_0).bind fun t106 => (if t106 = true then ((spec_l1In.f a2 0 1).bind fun t107 => (if t107 = true then ((spec_l20Fooling.f k a0_0 a0_1 a1 a2 (([] : List Int)) 0).bind fun t111 => (some (t111,true))) else (some ((([] : List Int)),false)))) else (some ((([] : List Int)),false))))) else (some ((([] : List Int)),false)))
set_option maxHeartbeats 8000000 in
set_option maxRecDepth 100000 in
theorem spec_LargestFooling.calls (k : Nat) (a0_0 : Int) (a0_1 : Int) (a1 : Int) (a2 : Int) (r1 : List Int) (r2 : Bool) (w : World) (h : spec_LargestFooling.f k a0_0 a0_1 a1 a2 = some (r1,r2)) :
  Calls Try.prog 33 #[.agg #[.int .i64 a0_0,.int .i64 a0_1],.int .i64 a1,.int .i64 a2] w fun e w' => ∃ v0_ : Value,e = .returned (.tuple #[v0_,.bool r2]) ∧ Kd.V (Kd.int .i64) 3 w' w.heap.size (fun k_ => (w.heap.size ≤ k_)) v0_ r1 ∧ Below w.heap.size w w' := by
 have hu25 := Try.underlying25
 have HB := aZ_ (Below.refl w.heap.size w)
 have H : ((spec_IsTable.f a0_0 a0_1).bind fun t102 => (if t102 = true then (if a0_0 > 4 then (some ((([] : List Int)),false)) else ((spec_l1In.f a1 0 a0_0).bind fun t106 => (if t106 = true then ((spec_l1In.f a2 0 1).bind fun t107 => (if t107 = true then ((spec_l20Fooling.f k a0_0 a0_1 a1 a2 (([] : List Int)) 0).bind fun t111 => (some (t111,true))) else (some ((([] : List Int)),false)))) else (some ((([] : List Int)),false))))) else (some ((([] : List Int)),false)))) = some (r1,r2) := h
 clear h
 replace H := Option.bind_eq_some_iff.mp H
 obtain ⟨t102,A40,H⟩ := H
 replace H : (if t102 = true then (if a0_0 > 4 then (some ((([] : List Int)),false)) else ((spec_l1In.f a1 0 a0_0).bind fun t106 => (if t106 = true then ((spec_l1In.f a2 0 1).bind fun t107 => (if t107 = true then ((spec_l20Fooling.f k a0_0 a0_1 a1 a2 (([] : List Int)) 0).bind fun t111 => (some (t111,true))) else (some ((([] : List Int)),false)))) else (some ((([] : List Int)),false))))) else (some ((([] : List Int)),false))) = some (r1,r2) := H
 have A4 := aZ_ A40
 clear A40
 by_cases c5 : t102 = true
 ·subst c5
  have H1 : (if a0_0 > 4 then (some ((([] : List Int)),false)) else ((spec_l1In.f a1 0 a0_0).bind fun t106 => (if t106 = true then ((spec_l1In.f a2 0 1).bind fun t107 => (if t107 = true then ((spec_l20Fooling.f k a0_0 a0_1 a1 a2 (([] : List Int)) 0).bind fun t111 => (some (t111,true))) else (some ((([] : List Int)),false)))) else (some ((([] : List Int)),false))))) = some (r1,r2) := by rw [if_pos rfl] at H;exact H
  clear H
  have H := H1
  clear H1
  by_cases c6 : a0_0 > 4
  ·rw [if_pos c6] at H
   have c6b0 : decide (4 < a0_0) = true := decide_eq_true c6
   clear c6
   obtain ⟨y103,hy103⟩ : ∃ y_ : List Int,y_ = (([] : List Int)) := ⟨_,rfl⟩
   replace H : (some (y103,false)) = some (r1,r2) := by first | (rw [hy103];with_reducible exact H) | (have H2_ := (Option.bind_some _ _).symm.trans H;rw [hy103];with_reducible exact H2_) | (have H2_ := (Option.bind_some _ _).symm.trans H;with_reducible exact H2_) | with_reducible exact H | (rw [hy103];exact H) | exact H
   have Ny103 := aZ_ hy103
   clear hy103
   simp only [Option.some.injEq,Prod.mk.injEq] at H
   obtain ⟨rfl,rfl⟩ := H
   go_enter Try.func33,Try.ntmps33
   go_wp2_with (first | ((with_reducible refine gate_dst (N := 3) rfl ?_);refine box_event ?hg (N := 3) ?hd (cs := #[.int .i64 a0_0,.int .i64 a0_1]) (t := 25) ?hr ?_;(case hd => rfl);(case hg => rfl);(case hr => first | (go_simp;done) | (go_simp;rfl));intro gb101 hg w7 hbox hb;have n0_ := aZ_ (below_step T5_ hb);have n1_ := aZ_ (hbox);have n2_ := aZ_ ((T2_ : w.heap.size ≤ gb101));have n3_ := aZ_ ((T2_ : w.heap.size ≤ gb101));clear HB;have HB := n0_;have BK101 := n1_;have GW101 := n2_;have GE101 := n3_;clear n0_ n1_ n2_ n3_;clear hb hbox hg;have hcz8_0 : w7.cell? ⟨gb101,0,none⟩ = some (.int .i64 a0_0) := (blk_cell BK101.out 0).trans rfl;have hcz8_1 : w7.cell? ⟨gb101,1,none⟩ = some (.int .i64 a0_1) := (blk_cell BK101.out 1).trans rfl;have hfz8_0 := blk_frozen BK101.out 0;have hfz8_1 := blk_frozen BK101.out 1) | ((with_reducible refine gate_callee (f := 17) rfl ?_);refine goesL_ (some 9) rfl rfl Try.func17 T15_ rfl #[.agg #[.int .i64 a0_0,.int .i64 a0_1]] rfl T4_ ?_;(with_reducible refine (spec_IsTable.calls a0_0 a0_1 true _ A4.out).mono ?_);rintro e w9 ⟨rfl,hb⟩;refine ⟨_,rfl,?_⟩;have n0_ := aZ_ (blk_below (g := gb101) (o := .cells #[.int .i64 a0_0,.int .i64 a0_1] 25 (0,0)) T3_ hb);have n1_ := aZ_ (below_step T1_ hb);clear BK101;clear HB;have BK101 := n0_;have HB := n1_;clear n0_ n1_;(try clear hb);(try clear hb2);(try clear hk);(try clear hi);have hcz10_0 : w9.cell? ⟨gb101,0,none⟩ = some (.int .i64 a0_0) := (blk_cell BK101.out 0).trans rfl;have hcz10_1 : w9.cell? ⟨gb101,1,none⟩ = some (.int .i64 a0_1) := (blk_cell BK101.out 1).trans rfl;have hfz10_0 := blk_frozen BK101.out 0;have hfz10_1 := blk_frozen BK101.out 1) | ((with_reducible refine gate_dst (N := 28) rfl ?_);refine Kd.R_lit (Kd.int .i64) _ 3 ?hg (N := 28) ?hd (xs := ([] : List Int)) (inner := []) (ok := fun _ => True) (okp := fun _ => True) ?hr ?hp (fun _ hk => hk) trivial (Below.refl _ _) (Nat.le_refl _) T49_ ?_;(case hd => rfl);(case hg => rfl);(case hr => first | (go_simp;done) | (go_simp;rfl));(case hp => exact (Reps.none _ _));intro v104 w11 ho12 hb hg_ hnew_;clear hg_ hnew_;(first | rw [← Ny103.out] at ho12 | (simp only [Int.reduceToNat] at ho12;rw [← Ny103.out] at ho12));have n0_ := aZ_ (Kd.R_lower (Kd.R_newM (M := fun k_ => (w.heap.size ≤ k_)) ho12 (below_size T1_) (fun k_ h_ => h_)) (below_size T1_));have n1_ := aZ_ (blk_below (g := gb101) (o := .cells #[.int .i64 a0_0,.int .i64 a0_1] 25 (0,0)) T3_ hb);have n2_ := aZ_ (below_step T1_ hb);clear BK101;clear HB;have HO105 := n0_;have BK101 := n1_;have HB := n2_;clear n0_ n1_ n2_;clear hb ho12))
   go_ret2
   exact ⟨_,by first | rfl | (simp [errW_none,errW_some] <;> rfl) | (simp [*,errW_none,errW_some] <;> rfl),Kd.R_V (by (with_reducible repeat (first | apply Kd.R_alloc | apply Kd.R_drewN | apply Kd.R_drew));exact Kd.R_mono HO105.out (fun _ hk => hk.1)),by repeat (first | (with_reducible first | exact HB.out | apply below_alloc | apply pw_below_drewN | apply below_drew1 | refine below_set ?_ GE101.out) | exact HB.out)⟩
  ·rw [if_neg c6] at H
   have c6b0 : decide (4 < a0_0) = false := decide_eq_false c6
   clear c6
   replace H := Option.bind_eq_some_iff.mp H
   obtain ⟨t106,A130,H⟩ := H
   replace H : (if t106 = true then ((spec_l1In.f a2 0 1).bind fun t107 => (if t107 = true then ((spec_l20Fooling.f k a0_0 a0_1 a1 a2 (([] : List Int)) 0).bind fun t111 => (some (t111,true))) else (some ((([] : List Int)),false)))) else (some ((([] : List Int)),false))) = some (r1,r2) := H
   have A13 := aZ_ A130
   clear A130
   by_cases c14 : t106 = true
   ·subst c14
    have H1 : ((spec_l1In.f a2 0 1).bind fun t107 => (if t107 = true then ((spec_l20Fooling.f k a0_0 a0_1 a1 a2 (([] : List Int)) 0).bind fun t111 => (some (t111,true))) else (some ((([] : List Int)),false)))) = some (r1,r2) := by rw [if_pos rfl] at H;exact H
    clear H
    have H := H1
    clear H1
    replace H := Option.bind_eq_some_iff.mp H
    obtain ⟨t107,A150,H⟩ := H
    replace H : (if t107 = true then ((spec_l20Fooling.f k a0_0 a0_1 a1 a2 (([] : List Int)) 0).bind fun t111 => (some (t111,true))) else (some ((([] : List Int)),false))) = some (r1,r2) := H
    have A15 := aZ_ A150
    clear A150
    by_cases c16 : t107 = true
    ·subst c16
     have H1 : ((spec_l20Fooling.f k a0_0 a0_1 a1 a2 (([] : List Int)) 0).bind fun t111 => (some (t111,true))) = some (r1,r2) := by rw [if_pos rfl] at H;exact H
     clear H
     have H := H1
     clear H1
     obtain ⟨y108,hy108⟩ : ∃ y_ : List Int,y_ = (([] : List Int)) := ⟨_,rfl⟩
     replace H : ((spec_l20Fooling.f k a0_0 a0_1 a1 a2 y108 0).bind fun t111 => (some (t111,true))) = some (r1,r2) := by first | (rw [hy108];with_reducible exact H) | (have H2_ := (Option.bind_some _ _).symm.trans H;rw [hy108];with_reducible exact H2_) | (have H2_ := (Option.bind_some _ _).symm.trans H;with_reducible exact H2_) | with_reducible exact H | (rw [hy108];exact H) | exact H
     have Ny108 := aZ_ hy108
     clear hy108
     replace H := Option.bind_eq_some_iff.mp H
     obtain ⟨t111,A170,H⟩ := H
     replace H : (some (t111,true)) = some (r1,r2) := H
     have A17 := aZ_ A170
     clear A170
     simp only [Option.some.injEq,Prod.mk.injEq] at H
     obtain ⟨rfl,rfl⟩ := H
     go_enter Try.func33,Try.ntmps33
     go_wp2_with (first | ((with_reducible refine gate_dst (N := 3) rfl ?_);refine box_event ?hg (N := 3) ?hd (cs := #[.int .i64 a0_0,.int .i64 a0_1]) (t := 25) ?hr ?_;(case hd => rfl);(case hg => rfl);(case hr => first | (go_simp;done) | (go_simp;rfl));intro gb101 hg w18 hbox hb;have n0_ := aZ_ (below_step T5_ hb);have n1_ := aZ_ (hbox);have n2_ := aZ_ ((T2_ : w.heap.size ≤ gb101));have n3_ := aZ_ ((T2_ : w.heap.size ≤ gb101));clear HB;have HB := n0_;have BK101 := n1_;have GW101 := n2_;have GE101 := n3_;clear n0_ n1_ n2_ n3_;clear hb hbox hg;have hcz19_0 : w18.cell? ⟨gb101,0,none⟩ = some (.int .i64 a0_0) := (blk_cell BK101.out 0).trans rfl;have hcz19_1 : w18.cell? ⟨gb101,1,none⟩ = some (.int .i64 a0_1) := (blk_cell BK101.out 1).trans rfl;have hfz19_0 := blk_frozen BK101.out 0;have hfz19_1 := blk_frozen BK101.out 1) | ((with_reducible refine gate_callee (f := 17) rfl ?_);refine goesL_ (some 9) rfl rfl Try.func17 T15_ rfl #[.agg #[.int .i64 a0_0,.int .i64 a0_1]] rfl T4_ ?_;(with_reducible refine (spec_IsTable.calls a0_0 a0_1 true _ A4.out).mono ?_);rintro e w20 ⟨rfl,hb⟩;refine ⟨_,rfl,?_⟩;have n0_ := aZ_ (blk_below (g := gb101) (o := .cells #[.int .i64 a0_0,.int .i64 a0_1] 25 (0,0)) T3_ hb);have n1_ := aZ_ (below_step T1_ hb);clear BK101;clear HB;have BK101 := n0_;have HB := n1_;clear n0_ n1_;(try clear hb);(try clear hb2);(try clear hk);(try clear hi);have hcz21_0 : w20.cell? ⟨gb101,0,none⟩ = some (.int .i64 a0_0) := (blk_cell BK101.out 0).trans rfl;have hcz21_1 : w20.cell? ⟨gb101,1,none⟩ = some (.int .i64 a0_1) := (blk_cell BK101.out 1).trans rfl;have hfz21_0 := blk_frozen BK101.out 0;have hfz21_1 := blk_frozen BK101.out 1) | (go_at_call 61;(with_reducible refine (spec_l1In.calls a1 0 a0_0 true _ A13.out).mono ?_);rintro e w' ⟨rfl,⟨nd,rfl⟩⟩) | (go_at_call 61;(with_reducible refine (spec_l1In.calls a2 0 1 true _ A15.out).mono ?_);rintro e w' ⟨rfl,⟨nd,rfl⟩⟩) | ((with_reducible refine gate_dst (N := 32) rfl ?_);refine Kd.R_lit (Kd.int .i64) _ 3 ?hg (N := 32) ?hd (xs := ([] : List Int)) (inner := []) (ok := fun _ => True) (okp := fun _ => True) ?hr ?hp (fun _ hk => hk) trivial (Below.refl _ _) (Nat.le_refl _) T49_ ?_;(case hd => rfl);(case hg => rfl);(case hr => first | (go_simp;done) | (go_simp;rfl));(case hp => exact (Reps.none _ _));intro v109 w22 ho23 hb hg_ hnew_;clear hg_ hnew_;(first | rw [← Ny108.out] at ho23 | (simp only [Int.reduceToNat] at ho23;rw [← Ny108.out] at ho23));have n0_ := aZ_ (Kd.R_lower (Kd.R_newM (M := fun k_ => (w.heap.size ≤ k_)) ho23 (below_size T1_) (fun k_ h_ => h_)) (below_size T1_));have n1_ := aZ_ (blk_below (g := gb101) (o := .cells #[.int .i64 a0_0,.int .i64 a0_1] 25 (0,0)) T3_ hb);have n2_ := aZ_ (below_step T1_ hb);clear BK101;clear HB;have HO110 := n0_;have BK101 := n1_;have HB := n2_;clear n0_ n1_ n2_;clear hb ho23;obtain ⟨Ao24,co24,eo24⟩ := Kd.R_slice HO110.out;subst eo24) | ((with_reducible refine gate_callee (f := 76) rfl ?_);refine goesL_ (some 33) rfl rfl Try.func76 T15_ rfl #[.agg #[.int .i64 a0_0,.int .i64 a0_1],.int .i64 a1,.int .i64 a2,.slice Ao24 y108.length co24,.int .i64 0] rfl T4_ ?_;(with_reducible refine (spec_l20Fooling.calls k a0_0 a0_1 a1 a2 (fun k_ => some k_ = (.slice Ao24 y108.length co24 : Value).ownBlock) _ _ y108 0 t111 _ ?side1 A17.out).mono ?_);(case side1 => exact Kd.R_V (Kd.R_tight rfl (Kd.R_types (HO110.out) BK101.out T48_)));rintro e w25 ⟨v112,rfl,ho0,hb⟩;refine ⟨_,rfl,?_⟩;have n0_ := aZ_ (Kd.R_below T52_ hb);have n1_ := aZ_ (Kd.V_lower (Kd.V_mono (ok' := fun k_ => (w.heap.size ≤ k_) ∧ k_ ≠ gb101) ho0 (fun k_ hk_ => ⟨Or.elim hk_ (fun hs_ => ((Kd.R_types (HO110.out) BK101.out T48_).1 k_ hs_.symm).1.1) (fun hn_ => (Nat.le_trans (below_size T1_) hn_)),Or.elim hk_ (fun hs_ => ((Kd.R_types (HO110.out) BK101.out T48_).1 k_ hs_.symm).2) (fun hn_ => (Kd.freshB (g := gb101) (o := .cells #[.int .i64 a0_0,.int .i64 a0_1] 25 (0,0)) T3_ k_ hn_))⟩)) (below_size T1_));have n2_ := aZ_ (blk_below (g := gb101) (o := .cells #[.int .i64 a0_0,.int .i64 a0_1] 25 (0,0)) T3_ hb);have n3_ := aZ_ (below_step T1_ hb);clear HO110;clear BK101;clear HB;have HO110 := n0_;have HO113 := n1_;have BK101 := n2_;have HB := n3_;clear n0_ n1_ n2_ n3_;(try clear hb);(try clear hb2);(try clear hk);(try clear hi);(try clear ho0)))
     go_ret2
     exact ⟨_,by first | rfl | (simp [errW_none,errW_some] <;> rfl) | (simp [*,errW_none,errW_some] <;> rfl),by (with_reducible repeat (first | apply Kd.V_alloc | apply Kd.V_drewN | apply Kd.V_drew));exact Kd.V_mono HO113.out (fun _ hk => hk.1),by repeat (first | (with_reducible first | exact HB.out | apply below_alloc | apply pw_below_drewN | apply below_drew1 | refine below_set ?_ GE101.out) | exact HB.out)⟩
    ·replace c16 := Bool.eq_false_iff.mpr c16
     subst c16
     have H1 : (some ((([] : List Int)),false)) = some (r1,r2) := by rw [if_neg (show ¬ (false = true) by decide)] at H;exact H
     clear H
     have H := H1
     clear H1
     obtain ⟨y114,hy114⟩ : ∃ y_ : List Int,y_ = (([] : List Int)) := ⟨_,rfl⟩
     replace H : (some (y114,false)) = some (r1,r2) := by first | (rw [hy114];with_reducible exact H) | (have H2_ := (Option.bind_some _ _).symm.trans H;rw [hy114];with_reducible exact H2_) | (have H2_ := (Option.bind_some _ _).symm.trans H;with_reducible exact H2_) | with_reducible exact H | (rw [hy114];exact H) | exact H
     have Ny114 := aZ_ hy114
     clear hy114
     simp only [Option.some.injEq,Prod.mk.injEq] at H
     obtain ⟨rfl,rfl⟩ := H
     go_enter Try.func33,Try.ntmps33
     go_wp2_with (first | ((with_reducible refine gate_dst (N := 3) rfl ?_);refine box_event ?hg (N := 3) ?hd (cs := #[.int .i64 a0_0,.int .i64 a0_1]) (t := 25) ?hr ?_;(case hd => rfl);(case hg => rfl);(case hr => first | (go_simp;done) | (go_simp;rfl));intro gb101 hg w26 hbox hb;have n0_ := aZ_ (below_step T5_ hb);have n1_ := aZ_ (hbox);have n2_ := aZ_ ((T2_ : w.heap.size ≤ gb101));have n3_ := aZ_ ((T2_ : w.heap.size ≤ gb101));clear HB;have HB := n0_;have BK101 := n1_;have GW101 := n2_;have GE101 := n3_;clear n0_ n1_ n2_ n3_;clear hb hbox hg;have hcz27_0 : w26.cell? ⟨gb101,0,none⟩ = some (.int .i64 a0_0) := (blk_cell BK101.out 0).trans rfl;have hcz27_1 : w26.cell? ⟨gb101,1,none⟩ = some (.int .i64 a0_1) := (blk_cell BK101.out 1).trans rfl;have hfz27_0 := blk_frozen BK101.out 0;have hfz27_1 := blk_frozen BK101.out 1) | ((with_reducible refine gate_callee (f := 17) rfl ?_);refine goesL_ (some 9) rfl rfl Try.func17 T15_ rfl #[.agg #[.int .i64 a0_0,.int .i64 a0_1]] rfl T4_ ?_;(with_reducible refine (spec_IsTable.calls a0_0 a0_1 true _ A4.out).mono ?_);rintro e w28 ⟨rfl,hb⟩;refine ⟨_,rfl,?_⟩;have n0_ := aZ_ (blk_below (g := gb101) (o := .cells #[.int .i64 a0_0,.int .i64 a0_1] 25 (0,0)) T3_ hb);have n1_ := aZ_ (below_step T1_ hb);clear BK101;clear HB;have BK101 := n0_;have HB := n1_;clear n0_ n1_;(try clear hb);(try clear hb2);(try clear hk);(try clear hi);have hcz29_0 : w28.cell? ⟨gb101,0,none⟩ = some (.int .i64 a0_0) := (blk_cell BK101.out 0).trans rfl;have hcz29_1 : w28.cell? ⟨gb101,1,none⟩ = some (.int .i64 a0_1) := (blk_cell BK101.out 1).trans rfl;have hfz29_0 := blk_frozen BK101.out 0;have hfz29_1 := blk_frozen BK101.out 1) | (go_at_call 61;(with_reducible refine (spec_l1In.calls a1 0 a0_0 true _ A13.out).mono ?_);rintro e w' ⟨rfl,⟨nd,rfl⟩⟩) | (go_at_call 61;(with_reducible refine (spec_l1In.calls a2 0 1 false _ A15.out).mono ?_);rintro e w' ⟨rfl,⟨nd,rfl⟩⟩) | ((with_reducible refine gate_dst (N := 28) rfl ?_);refine Kd.R_lit (Kd.int .i64) _ 3 ?hg (N := 28) ?hd (xs := ([] : List Int)) (inner := []) (ok := fun _ => True) (okp := fun _ => True) ?hr ?hp (fun _ hk => hk) trivial (Below.refl _ _) (Nat.le_refl _) T49_ ?_;(case hd => rfl);(case hg => rfl);(case hr => first | (go_simp;done) | (go_simp;rfl));(case hp => exact (Reps.none _ _));intro v115 w30 ho31 hb hg_ hnew_;clear hg_ hnew_;(first | rw [← Ny114.out] at ho31 | (simp only [Int.reduceToNat] at ho31;rw [← Ny114.out] at ho31));have n0_ := aZ_ (Kd.R_lower (Kd.R_newM (M := fun k_ => (w.heap.size ≤ k_)) ho31 (below_size T1_) (fun k_ h_ => h_)) (below_size T1_));have n1_ := aZ_ (blk_below (g := gb101) (o := .cells #[.int .i64 a0_0,.int .i64 a0_1] 25 (0,0)) T3_ hb);have n2_ := aZ_ (below_step T1_ hb);clear BK101;clear HB;have HO116 := n0_;have BK101 := n1_;have HB := n2_;clear n0_ n1_ n2_;clear hb ho31))
     go_ret2
     exact ⟨_,by first | rfl | (simp [errW_none,errW_some] <;> rfl) | (simp [*,errW_none,errW_some] <;> rfl),Kd.R_V (by (with_reducible repeat (first | apply Kd.R_alloc | apply Kd.R_drewN | apply Kd.R_drew));exact Kd.R_mono HO116.out (fun _ hk => hk.1)),by repeat (first | (with_reducible first | exact HB.out | apply below_alloc | apply pw_below_drewN | apply below_drew1 | refine below_set ?_ GE101.out) | exact HB.out)⟩
   ·replace c14 := Bool.eq_false_iff.mpr c14
    subst c14
    have H1 : (some ((([] : List Int)),false)) = some (r1,r2) := by rw [if_neg (show ¬ (false = true) by decide)] at H;exact H
    clear H
    have H := H1
    clear H1
    obtain ⟨y117,hy117⟩ : ∃ y_ : List Int,y_ = (([] : List Int)) := ⟨_,rfl⟩
    replace H : (some (y117,false)) = some (r1,r2) := by first | (rw [hy117];with_reducible exact H) | (have H2_ := (Option.bind_some _ _).symm.trans H;rw [hy117];with_reducible exact H2_) | (have H2_ := (Option.bind_some _ _).symm.trans H;with_reducible exact H2_) | with_reducible exact H | (rw [hy117];exact H) | exact H
    have Ny117 := aZ_ hy117
    clear hy117
    simp only [Option.some.injEq,Prod.mk.injEq] at H
    obtain ⟨rfl,rfl⟩ := H
    go_enter Try.func33,Try.ntmps33
    go_wp2_with (first | ((with_reducible refine gate_dst (N := 3) rfl ?_);refine box_event ?hg (N := 3) ?hd (cs := #[.int .i64 a0_0,.int .i64 a0_1]) (t := 25) ?hr ?_;(case hd => rfl);(case hg => rfl);(case hr => first | (go_simp;done) | (go_simp;rfl));intro gb101 hg w32 hbox hb;have n0_ := aZ_ (below_step T5_ hb);have n1_ := aZ_ (hbox);have n2_ := aZ_ ((T2_ : w.heap.size ≤ gb101));have n3_ := aZ_ ((T2_ : w.heap.size ≤ gb101));clear HB;have HB := n0_;have BK101 := n1_;have GW101 := n2_;have GE101 := n3_;clear n0_ n1_ n2_ n3_;clear hb hbox hg;have hcz33_0 : w32.cell? ⟨gb101,0,none⟩ = some (.int .i64 a0_0) := (blk_cell BK101.out 0).trans rfl;have hcz33_1 : w32.cell? ⟨gb101,1,none⟩ = some (.int .i64 a0_1) := (blk_cell BK101.out 1).trans rfl;have hfz33_0 := blk_frozen BK101.out 0;have hfz33_1 := blk_frozen BK101.out 1) | ((with_reducible refine gate_callee (f := 17) rfl ?_);refine goesL_ (some 9) rfl rfl Try.func17 T15_ rfl #[.agg #[.int .i64 a0_0,.int .i64 a0_1]] rfl T4_ ?_;(with_reducible refine (spec_IsTable.calls a0_0 a0_1 true _ A4.out).mono ?_);rintro e w34 ⟨rfl,hb⟩;refine ⟨_,rfl,?_⟩;have n0_ := aZ_ (blk_below (g := gb101) (o := .cells #[.int .i64 a0_0,.int .i64 a0_1] 25 (0,0)) T3_ hb);have n1_ := aZ_ (below_step T1_ hb);clear BK101;clear HB;have BK101 := n0_;have HB := n1_;clear n0_ n1_;(try clear hb);(try clear hb2);(try clear hk);(try clear hi);have hcz35_0 : w34.cell? ⟨gb101,0,none⟩ = some (.int .i64 a0_0) := (blk_cell BK101.out 0).trans rfl;have hcz35_1 : w34.cell? ⟨gb101,1,none⟩ = some (.int .i64 a0_1) := (blk_cell BK101.out 1).trans rfl;have hfz35_0 := blk_frozen BK101.out 0;have hfz35_1 := blk_frozen BK101.out 1) | (go_at_call 61;(with_reducible refine (spec_l1In.calls a1 0 a0_0 false _ A13.out).mono ?_);rintro e w' ⟨rfl,⟨nd,rfl⟩⟩) | ((with_reducible refine gate_dst (N := 28) rfl ?_);refine Kd.R_lit (Kd.int .i64) _ 3 ?hg (N := 28) ?hd (xs := ([] : List Int)) (inner := []) (ok := fun _ => True) (okp := fun _ => True) ?hr ?hp (fun _ hk => hk) trivial (Below.refl _ _) (Nat.le_refl _) T49_ ?_;(case hd => rfl);(case hg => rfl);(case hr => first | (go_simp;done) | (go_simp;rfl));(case hp => exact (Reps.none _ _));intro v118 w36 ho37 hb hg_ hnew_;clear hg_ hnew_;(first | rw [← Ny117.out] at ho37 | (simp only [Int.reduceToNat] at ho37;rw [← Ny117.out] at ho37));have n0_ := aZ_ (Kd.R_lower (Kd.R_newM (M := fun k_ => (w.heap.size ≤ k_)) ho37 (below_size T1_) (fun k_ h_ => h_)) (below_size T1_));have n1_ := aZ_ (blk_below (g := gb101) (o := .cells #[.int .i64 a0_0,.int .i64 a0_1] 25 (0,0)) T3_ hb);have n2_ := aZ_ (below_step T1_ hb);clear BK101;clear HB;have HO119 := n0_;have BK101 := n1_;have HB := n2_;clear n0_ n1_ n2_;clear hb ho37))
    go_ret2
    exact ⟨_,by first | rfl | (simp [errW_none,errW_some] <;> rfl) | (simp [*,errW_none,errW_some] <;> rfl),Kd.R_V (by (with_reducible repeat (first | apply Kd.R_alloc | apply Kd.R_drewN | apply Kd.R_drew));exact Kd.R_mono HO119.out (fun _ hk => hk.1)),by repeat (first | (with_reducible first | exact HB.out | apply below_alloc | apply pw_below_drewN | apply below_drew1 | refine below_set ?_ GE101.out) | exact HB.out)⟩
 ·replace c5 := Bool.eq_false_iff.mpr c5
  subst c5
  have H1 : (some ((([] : List Int)),false)) = some (r1,r2) := by rw [if_neg (show ¬ (false = true) by decide)] at H;exact H
  clear H
  have H := H1
  clear H1
  obtain ⟨y120,hy120⟩ : ∃ y_ : List Int,y_ = (([] : List Int)) := ⟨_,rfl⟩
  replace H : (some (y120,false)) = some (r1,r2) := by first | (rw [hy120];with_reducible exact H) | (have H2_ := (Option.bind_some _ _).symm.trans H;rw [hy120];with_reducible exact H2_) | (have H2_ := (Option.bind_some _ _).symm.trans H;with_reducible exact H2_) | with_reducible exact H | (rw [hy120];exact H) | exact H
  have Ny120 := aZ_ hy120
  clear hy120
  simp only [Option.some.injEq,Prod.mk.injEq] at H
  obtain ⟨rfl,rfl⟩ := H
  go_enter Try.func33,Try.ntmps33
  go_wp2_with (first | ((with_reducible refine gate_dst (N := 3) rfl ?_);refine box_event ?hg (N := 3) ?hd (cs := #[.int .i64 a0_0,.int .i64 a0_1]) (t := 25) ?hr ?_;(case hd => rfl);(case hg => rfl);(case hr => first | (go_simp;done) | (go_simp;rfl));intro gb101 hg w38 hbox hb;have n0_ := aZ_ (below_step T5_ hb);have n1_ := aZ_ (hbox);have n2_ := aZ_ ((T2_ : w.heap.size ≤ gb101));have n3_ := aZ_ ((T2_ : w.heap.size ≤ gb101));clear HB;have HB := n0_;have BK101 := n1_;have GW101 := n2_;have GE101 := n3_;clear n0_ n1_ n2_ n3_;clear hb hbox hg;have hcz39_0 : w38.cell? ⟨gb101,0,none⟩ = some (.int .i64 a0_0) := (blk_cell BK101.out 0).trans rfl;have hcz39_1 : w38.cell? ⟨gb101,1,none⟩ = some (.int .i64 a0_1) := (blk_cell BK101.out 1).trans rfl;have hfz39_0 := blk_frozen BK101.out 0;have hfz39_1 := blk_frozen BK101.out 1) | ((with_reducible refine gate_callee (f := 17) rfl ?_);refine goesL_ (some 9) rfl rfl Try.func17 T15_ rfl #[.agg #[.int .i64 a0_0,.int .i64 a0_1]] rfl T4_ ?_;(with_reducible refine (spec_IsTable.calls a0_0 a0_1 false _ A4.out).mono ?_);rintro e w40 ⟨rfl,hb⟩;refine ⟨_,rfl,?_⟩;have n0_ := aZ_ (blk_below (g := gb101) (o := .cells #[.int .i64 a0_0,.int .i64 a0_1] 25 (0,0)) T3_ hb);have n1_ := aZ_ (below_step T1_ hb);clear BK101;clear HB;have BK101 := n0_;have HB := n1_;clear n0_ n1_;(try clear hb);(try clear hb2);(try clear hk);(try clear hi)) | ((with_reducible refine gate_dst (N := 28) rfl ?_);refine Kd.R_lit (Kd.int .i64) _ 3 ?hg (N := 28) ?hd (xs := ([] : List Int)) (inner := []) (ok := fun _ => True) (okp := fun _ => True) ?hr ?hp (fun _ hk => hk) trivial (Below.refl _ _) (Nat.le_refl _) T49_ ?_;(case hd => rfl);(case hg => rfl);(case hr => first | (go_simp;done) | (go_simp;rfl));(case hp => exact (Reps.none _ _));intro v121 w41 ho42 hb hg_ hnew_;clear hg_ hnew_;(first | rw [← Ny120.out] at ho42 | (simp only [Int.reduceToNat] at ho42;rw [← Ny120.out] at ho42));have n0_ := aZ_ (Kd.R_lower (Kd.R_newM (M := fun k_ => (w.heap.size ≤ k_)) ho42 (below_size T1_) (fun k_ h_ => h_)) (below_size T1_));have n1_ := aZ_ (blk_below (g := gb101) (o := .cells #[.int .i64 a0_0,.int .i64 a0_1] 25 (0,0)) T3_ hb);have n2_ := aZ_ (below_step T1_ hb);clear BK101;clear HB;have HO122 := n0_;have BK101 := n1_;have HB := n2_;clear n0_ n1_ n2_;clear hb ho42))
  go_ret2
  exact ⟨_,by first | rfl | (simp [errW_none,errW_some] <;> rfl) | (simp [*,errW_none,errW_some] <;> rfl),Kd.R_V (by (with_reducible repeat (first | apply Kd.R_alloc | apply Kd.R_drewN | apply Kd.R_drew));exact Kd.R_mono HO122.out (fun _ hk => hk.1)),by repeat (first | (with_reducible first | exact HB.out | apply below_alloc | apply pw_below_drewN | apply below_drew1 | refine below_set ?_ GE101.out) | exact HB.out)⟩
mutual
def impl_IsFooling.j0 : Nat → Int → Int → List Int → Bool → Int → Int → Option (Bool)
 | 0,_,_,_,_,_,_ => none
 | k + 1,x1,x2,x3,x21,x102000,x102001 => if x21 = true then (some false) else (impl_IsFooling.l0 k x1 x2 x3 x3 (x3.length : Int) 0 x102000 x102001)
def impl_IsFooling.l0 : Nat → Int → Int → List Int → List Int → Int → Int → Int → Int → Option (Bool)
 | 0,_,_,_,_,_,_,_,_ => none
 | k + 1,x1,x2,x3,x22,x23,x24,x102000,x102001 => if x24 < x23 then (if 0 ≤ x24 then (if x24 < (x22.length : Int) then ((impl_isInput.f x102000 (rd x22 x24)).bind fun t105 => (if t105 = true then ((impl_Table_at.f x102000 x102001 (rd x22 x24)).bind fun t106 => (if t106 = x2 then (if x24 > 0 then (if 0 ≤ (wrap64 (x24 - 1)) then (if (wrap64 (x24 - 1)) < (x3.length : Int) then (impl_IsFooling.j2 k x1 x2 x3 x24 (rd x22 x24) x22 x23 x24 (decide ((rd x3 (wrap64 (x24 - 1))) ≥ (rd x22 x24))) x102000 x102001) else (none)) else (none)) else (impl_IsFooling.j2 k x1 x2 x3 x24 (rd x22 x24) x22 x23 x24 false x102000 x102001)) else (impl_IsFooling.j2 k x1 x2 x3 x24 (rd x22 x24) x22 x23 x24 true x102000 x102001))) else (impl_IsFooling.j2 k x1 x2 x3 x24 (rd x22 x24) x22 x23 x24 true x102000 x102001))) else (none)) else (none)) else (some true)
def impl_IsFooling.j2 : Nat → Int → Int → List Int → Int → Int → List Int → Int → Int → Bool → Int → Int → Option (Bool)
 | 0,_,_,_,_,_,_,_,_,_,_,_ => none
 | k + 1,x1,x2,x3,x9,x10,x22,x23,x24,x53,x102000,x102001 => if x53 = true then (some false) else (if 0 ≤ x9 then (if x9 ≤ (x3.length : Int) then (impl_IsFooling.l1 k x1 x2 x3 x10 x22 x23 x24 (x3.take (x9 : Int).toNat) ((x3.take (x9 : Int).toNat).length : Int) 0 x102000 x102001) else (none)) else (none))
def impl_IsFooling.l1 : Nat → Int → Int → List Int → Int → List Int → Int → Int → List Int → Int → Int → Int → Int → Option (Bool)
 | 0,_,_,_,_,_,_,_,_,_,_,_,_ => none
 | k + 1,x1,x2,x3,x10,x22,x23,x24,x56,x57,x58,x102000,x102001 => if x58 < x57 then (if 0 ≤ x58 then (if x58 < (x56.length : Int) then ((impl_Table_apartBy.f x102000 x102001 x1 x2 (rd x56 x58) x10).bind fun t110 => (if t110 = true then (impl_IsFooling.l1 k x1 x2 x3 x10 x22 x23 x24 x56 x57 (wrap64 (x58 + 1)) x102000 x102001) else (some false))) else (none)) else (none)) else (impl_IsFooling.l0 k x1 x2 x3 x22 x23 (wrap64 (x24 + 1)) x102000 x102001)
end
def impl_IsFooling.f (k : Nat) (a0_0 : Int) (a0_1 : Int) (a1 : Int) (a2 : Int) (l3 : List Int) : Option (Bool) := (impl_isSplit.f a0_0 a0_1 a1).bind fun t102 => (if t102 = true then ((impl_isBit.f a2).bind fun t103 => (impl_IsFooling.j0 k a1 a2 l3 (!t103) a0_0 a0_1)) else (impl_IsFooling.j0 k a1 a2 l3 true a0_0 a0_1))
set_option maxHeartbeats 8000000 in
set_option maxRecDepth 100000 in
theorem impl_IsFooling.calls (k : Nat) (a0_0 : Int) (a0_1 : Int) (a1 : Int) (a2 : Int) (A3 : Option Addr) (c3 : Nat) (l3 : List Int) (r : Bool) (w : World) (hr3 : Kd.C (Kd.int .i64) w A3 l3.length l3) (hc3 : l3.length ≤ c3) (h : impl_IsFooling.f k a0_0 a0_1 a1 a2 l3 = some r) :
  Calls Try.prog 34 #[.agg #[.int .i64 a0_0,.int .i64 a0_1],.int .i64 a1,.int .i64 a2,.slice A3 l3.length c3] w fun e w' => e = .returned (.bool r) ∧ Below w.heap.size w w' := by
 have hu25 := Try.underlying25
 have HR3 := aZ_ hr3
 have HC3 := aZ_ hc3
 clear hr3 hc3
 have HB := aZ_ (Below.refl w.heap.size w)
 have H : ((impl_isSplit.f a0_0 a0_1 a1).bind fun t102 => (if t102 = true then ((impl_isBit.f a2).bind fun t103 => (impl_IsFooling.j0 k a1 a2 l3 (!t103) a0_0 a0_1)) else (impl_IsFooling.j0 k a1 a2 l3 true a0_0 a0_1))) = some r := h
 clear h
 have HC5 := aZ_ H
 clear H
 go_enter Try.func34,Try.ntmps34
 go_upto_region 1 with (first | ((with_reducible refine gate_dst (N := 4) rfl ?_);refine box_event ?hg (N := 4) ?hd (cs := #[.int .i64 a0_0,.int .i64 a0_1]) (t := 25) ?hr ?_;(case hd => rfl);(case hg => rfl);(case hr => first | (go_simp;done) | (go_simp;rfl));intro gb101 hg w6 hbox hb;have n0_ := aZ_ (below_step T5_ hb);have n1_ := aZ_ (hbox);have n2_ := aZ_ ((T2_ : w.heap.size ≤ gb101));have n3_ := aZ_ ((T2_ : w.heap.size ≤ gb101));clear HB;have HB := n0_;have BK101 := n1_;have GW101 := n2_;have GE101 := n3_;clear n0_ n1_ n2_ n3_;clear hb hbox hg))
 (try simp only [Act.put,List.setIfInBounds_toArray,List.set_cons_zero,List.set_cons_succ])
 go_cut [21] (fun v21 wc => ∃ (kq : Nat) (x21_4 : Bool),v21 = .bool x21_4 ∧ Aside0 (impl_IsFooling.j0 kq a1 a2 l3 x21_4 a0_0 a0_1 = some r) ∧ Aside0 (kq ≤ k) ∧ Aside0 (wc.heap[gb101]? = some (.cells #[.int .i64 a0_0,.int .i64 a0_1] 25 (0,0))) ∧ Aside0 (Below w.heap.size w wc))
 case first =>
  have H := HC5.out
  clear HC5
  replace H := Option.bind_eq_some_iff.mp H
  obtain ⟨t102,A70,H⟩ := H
  replace H : (if t102 = true then ((impl_isBit.f a2).bind fun t103 => (impl_IsFooling.j0 k a1 a2 l3 (!t103) a0_0 a0_1)) else (impl_IsFooling.j0 k a1 a2 l3 true a0_0 a0_1)) = some r := H
  have A7 := aZ_ A70
  clear A70
  by_cases c8 : t102 = true
  ·subst c8
   have H1 : ((impl_isBit.f a2).bind fun t103 => (impl_IsFooling.j0 k a1 a2 l3 (!t103) a0_0 a0_1)) = some r := by rw [if_pos rfl] at H;exact H
   clear H
   have H := H1
   clear H1
   replace H := Option.bind_eq_some_iff.mp H
   obtain ⟨t103,A90,H⟩ := H
   replace H : (impl_IsFooling.j0 k a1 a2 l3 (!t103) a0_0 a0_1) = some r := H
   have A9 := aZ_ A90
   clear A90
   have H' := aZ_ H
   clear H
   have hcz10_0 : w6.cell? ⟨gb101,0,none⟩ = some (.int .i64 a0_0) := (blk_cell BK101.out 0).trans rfl
   have hcz10_1 : w6.cell? ⟨gb101,1,none⟩ = some (.int .i64 a0_1) := (blk_cell BK101.out 1).trans rfl
   have hfz10_0 := blk_frozen BK101.out 0
   have hfz10_1 := blk_frozen BK101.out 1
   go_wp2_with (first | ((with_reducible refine gate_callee (f := 69) rfl ?_);refine goesL_ (some 15) rfl rfl Try.func69 T15_ rfl #[.agg #[.int .i64 a0_0,.int .i64 a0_1],.int .i64 a1] rfl T4_ ?_;(with_reducible refine (impl_isSplit.calls a0_0 a0_1 a1 true _ A7.out).mono ?_);rintro e w11 ⟨rfl,hb⟩;refine ⟨_,rfl,?_⟩;have n0_ := aZ_ (blk_below (g := gb101) (o := .cells #[.int .i64 a0_0,.int .i64 a0_1] 25 (0,0)) T3_ hb);have n1_ := aZ_ (below_step T1_ hb);clear BK101;clear HB;have BK101 := n0_;have HB := n1_;clear n0_ n1_;(try clear hb);(try clear hb2);(try clear hk);(try clear hi)) | (go_at_call 55;(with_reducible refine (impl_isBit.calls a2 t103 _ A9.out).mono ?_);rintro e w' ⟨rfl,⟨nd,rfl⟩⟩))
   go_meet
   case rel => exact ⟨_,(!t103),T10_,H',⟨by first | omega | exact Nat.le_refl _⟩,⟨by (with_reducible repeat (first | refine blk_drewN ?_ _ | refine blk_drew ?_ | refine blk_alloc ?_ _));exact BK101.out⟩,⟨by repeat (first | (with_reducible first | exact HB.out | apply below_alloc | apply pw_below_drewN | apply below_drew1 | refine below_set ?_ GE101.out) | exact HB.out)⟩⟩
  ·replace c8 := Bool.eq_false_iff.mpr c8
   subst c8
   have H1 : (impl_IsFooling.j0 k a1 a2 l3 true a0_0 a0_1) = some r := by rw [if_neg (show ¬ (false = true) by decide)] at H;exact H
   clear H
   have H := H1
   clear H1
   have H' := aZ_ H
   clear H
   have hcz12_0 : w6.cell? ⟨gb101,0,none⟩ = some (.int .i64 a0_0) := (blk_cell BK101.out 0).trans rfl
   have hcz12_1 : w6.cell? ⟨gb101,1,none⟩ = some (.int .i64 a0_1) := (blk_cell BK101.out 1).trans rfl
   have hfz12_0 := blk_frozen BK101.out 0
   have hfz12_1 := blk_frozen BK101.out 1
   go_wp2_with (first | ((with_reducible refine gate_callee (f := 69) rfl ?_);refine goesL_ (some 15) rfl rfl Try.func69 T15_ rfl #[.agg #[.int .i64 a0_0,.int .i64 a0_1],.int .i64 a1] rfl T4_ ?_;(with_reducible refine (impl_isSplit.calls a0_0 a0_1 a1 false _ A7.out).mono ?_);rintro e w13 ⟨rfl,hb⟩;refine ⟨_,rfl,?_⟩;have n0_ := aZ_ (blk_below (g := gb101) (o := .cells #[.int .i64 a0_0,.int .i64 a0_1] 25 (0,0)) T3_ hb);have n1_ := aZ_ (below_step T1_ hb);clear BK101;clear HB;have BK101 := n0_;have HB := n1_;clear n0_ n1_;(try clear hb);(try clear hb2);(try clear hk);(try clear hi)))
   go_meet
   case rel => exact ⟨_,(true),T10_,H',⟨by first | omega | exact Nat.le_refl _⟩,⟨by (with_reducible repeat (first | refine blk_drewN ?_ _ | refine blk_drew ?_ | refine blk_alloc ?_ _));exact BK101.out⟩,⟨by repeat (first | (with_reducible first | exact HB.out | apply below_alloc | apply pw_below_drewN | apply below_drew1 | refine below_set ?_ GE101.out) | exact HB.out)⟩⟩
 case rest =>
  clear HC5
  try clear p2
  try clear c3
  try clear c6
  try clear c8
  try clear hcz10_0
  try clear hcz10_1
  try clear hcz12_0
  try clear hcz12_1
  try clear hfz10_0
  try clear hfz10_1
  try clear hfz12_0
  try clear hfz12_1
  obtain ⟨kq,x21_4,rfl,HA,HJ4,BK101,HB⟩ := hcut
  cases kq with
  | zero => exact absurd HA.out (by simp [impl_IsFooling.j0])
  | succ kj4 =>
   have H := HA.out
   clear HA
   simp only [impl_IsFooling.j0] at H
   by_cases c14 : x21_4 = true
   ·subst c14
    have H1 : (some false) = some r := by rw [if_pos rfl] at H;exact H
    clear H
    have H := H1
    clear H1
    obtain rfl := Option.some.inj H
    go_wp2
    go_ret
    exact ⟨by first | rfl | (simp [errW_none,errW_some] <;> rfl) | (simp [*,errW_none,errW_some] <;> rfl),by repeat (first | (with_reducible first | exact HB.out | apply below_alloc | apply pw_below_drewN | apply below_drew1 | refine below_set ?_ GE101.out) | exact HB.out)⟩
   ·replace c14 := Bool.eq_false_iff.mpr c14
    subst c14
    have H1 : (impl_IsFooling.l0 kj4 a1 a2 l3 l3 (l3.length : Int) 0 a0_0 a0_1) = some r := by rw [if_neg (show ¬ (false = true) by decide)] at H;exact H
    clear H
    have H := H1
    clear H1
    have H' := aZ_ H
    clear H
    go_wp2
    go_loopg [24] kj4 (fun kq v24 w' => ∃ (x24_2 : Int),v24 = .int .i64 x24_2 ∧ Aside0 (impl_IsFooling.l0 kq a1 a2 l3 l3 (l3.length : Int) x24_2 a0_0 a0_1 = some r) ∧ Aside0 (kq ≤ kj4) ∧ Aside0 (w'.heap[gb101]? = some (.cells #[.int .i64 a0_0,.int .i64 a0_1] 25 (0,0))) ∧ Aside0 (Below w.heap.size w w'))
    case atStart => exact ⟨(0),T10_,H',⟨Nat.le_refl _⟩,⟨by (with_reducible repeat (first | refine blk_drewN ?_ _ | refine blk_drew ?_ | refine blk_alloc ?_ _));exact BK101.out⟩,⟨by repeat (first | (with_reducible first | exact HB.out | apply below_alloc | apply pw_below_drewN | apply below_drew1 | refine below_set ?_ GE101.out) | exact HB.out)⟩⟩
    case round =>
     clear H'
     try clear c1
     try clear p2
     try clear c3
     try clear c6
     try clear c8
     try clear c14
     try clear hcz10_0
     try clear hcz10_1
     try clear hcz12_0
     try clear hcz12_1
     try clear hfz10_0
     try clear hfz10_1
     try clear hfz12_0
     try clear hfz12_1
     try clear p2
     obtain ⟨x24_2,rfl,HA,HK2,BK101,HB⟩ := hrel
     cases gk with
     | zero => exact absurd HA.out (by simp [impl_IsFooling.l0])
     | succ k2 =>
      have H := HA.out
      clear HA
      simp only [impl_IsFooling.l0] at H
      by_cases c15 : x24_2 < (l3.length : Int)
      ·rw [if_pos c15] at H
       have c15b0 : decide (x24_2 < (l3.length : Int)) = true := decide_eq_true c15
       clear c15
       by_cases c16 : 0 ≤ x24_2
       ·rw [if_pos c16] at H
        have c16b0 : decide (0 ≤ x24_2) = true := decide_eq_true c16
        clear c16
        by_cases c17 : x24_2 < (l3.length : Int)
        ·rw [if_pos c17] at H
         have c17b0 : decide (x24_2 < (l3.length : Int)) = true := decide_eq_true c17
         clear c17
         have HC18 := aZ_ H
         clear H
         have p104 : 0 ≤ (x24_2 : Int) := of_decide_eq_true T6_
         have q104 : x24_2 < (l3.length : Int) := of_decide_eq_true T6_
         obtain ⟨ad104,e104,hx104_0⟩ := Kd.at_int HR3.out x24_2 p104 q104
         cases e104
         replace hx104_0 := (HB.out.cell (World.block_lt_of_cell? w _ hx104_0)).trans hx104_0
         replace p104 := eq_true p104
         replace q104 := eq_true q104
         go_upto_region 6 with (fail)
         go_cut [53] (fun v53 wc => ∃ (kq : Nat) (x53_17 : Bool),v53 = .bool x53_17 ∧ Aside0 (impl_IsFooling.j2 kq a1 a2 l3 x24_2 (rd l3 x24_2) l3 (l3.length : Int) x24_2 x53_17 a0_0 a0_1 = some r) ∧ Aside0 (kq ≤ k2) ∧ Aside0 (wc.heap[gb101]? = some (.cells #[.int .i64 a0_0,.int .i64 a0_1] 25 (0,0))) ∧ Aside0 (Below w.heap.size w wc))
         case first =>
          have H := HC18.out
          clear HC18
          replace H := Option.bind_eq_some_iff.mp H
          obtain ⟨t105,A190,H⟩ := H
          replace H : (if t105 = true then ((impl_Table_at.f a0_0 a0_1 (rd l3 x24_2)).bind fun t106 => (if t106 = a2 then (if x24_2 > 0 then (if 0 ≤ (wrap64 (x24_2 - 1)) then (if (wrap64 (x24_2 - 1)) < (l3.length : Int) then (impl_IsFooling.j2 k2 a1 a2 l3 x24_2 (rd l3 x24_2) l3 (l3.length : Int) x24_2 (decide ((rd l3 (wrap64 (x24_2 - 1))) ≥ (rd l3 x24_2))) a0_0 a0_1) else (none)) else (none)) else (impl_IsFooling.j2 k2 a1 a2 l3 x24_2 (rd l3 x24_2) l3 (l3.length : Int) x24_2 false a0_0 a0_1)) else (impl_IsFooling.j2 k2 a1 a2 l3 x24_2 (rd l3 x24_2) l3 (l3.length : Int) x24_2 true a0_0 a0_1))) else (impl_IsFooling.j2 k2 a1 a2 l3 x24_2 (rd l3 x24_2) l3 (l3.length : Int) x24_2 true a0_0 a0_1)) = some r := H
          have A19 := aZ_ A190
          clear A190
          by_cases c20 : t105 = true
          ·subst c20
           have H1 : ((impl_Table_at.f a0_0 a0_1 (rd l3 x24_2)).bind fun t106 => (if t106 = a2 then (if x24_2 > 0 then (if 0 ≤ (wrap64 (x24_2 - 1)) then (if (wrap64 (x24_2 - 1)) < (l3.length : Int) then (impl_IsFooling.j2 k2 a1 a2 l3 x24_2 (rd l3 x24_2) l3 (l3.length : Int) x24_2 (decide ((rd l3 (wrap64 (x24_2 - 1))) ≥ (rd l3 x24_2))) a0_0 a0_1) else (none)) else (none)) else (impl_IsFooling.j2 k2 a1 a2 l3 x24_2 (rd l3 x24_2) l3 (l3.length : Int) x24_2 false a0_0 a0_1)) else (impl_IsFooling.j2 k2 a1 a2 l3 x24_2 (rd l3 x24_2) l3 (l3.length : Int) x24_2 true a0_0 a0_1))) = some r := by rw [if_pos rfl] at H;exact H
           clear H
           have H := H1
           clear H1
           replace H := Option.bind_eq_some_iff.mp H
           obtain ⟨t106,A210,H⟩ := H
           replace H : (if t106 = a2 then (if x24_2 > 0 then (if 0 ≤ (wrap64 (x24_2 - 1)) then (if (wrap64 (x24_2 - 1)) < (l3.length : Int) then (impl_IsFooling.j2 k2 a1 a2 l3 x24_2 (rd l3 x24_2) l3 (l3.length : Int) x24_2 (decide ((rd l3 (wrap64 (x24_2 - 1))) ≥ (rd l3 x24_2))) a0_0 a0_1) else (none)) else (none)) else (impl_IsFooling.j2 k2 a1 a2 l3 x24_2 (rd l3 x24_2) l3 (l3.length : Int) x24_2 false a0_0 a0_1)) else (impl_IsFooling.j2 k2 a1 a2 l3 x24_2 (rd l3 x24_2) l3 (l3.length : Int) x24_2 true a0_0 a0_1)) = some r := H
           have A21 := aZ_ A210
           clear A210
           by_cases c22 : t106 = a2
           ·rw [if_pos c22] at H
            have c22b0 : (t106 == a2) = true := beq_iff_eq.mpr c22
            have c22b1 : (t106 != a2) = false := bne_eq_false_iff_eq.mpr c22
            clear c22
            (first | rw [c22b0] | (simp only [i64_w,i32_w];rw [c22b0]) | skip)
            by_cases c23 : x24_2 > 0
            ·rw [if_pos c23] at H
             have c23b0 : decide (0 < x24_2) = true := decide_eq_true c23
             clear c23
             obtain ⟨ji24,hji24⟩ : ∃ j_ : Int,(wrap64 (x24_2 - 1)) = j_ := ⟨_,rfl⟩
             replace H : (if 0 ≤ (ji24) then (if (ji24) < (l3.length : Int) then (impl_IsFooling.j2 k2 a1 a2 l3 x24_2 (rd l3 x24_2) l3 (l3.length : Int) x24_2 (decide ((rd l3 (ji24)) ≥ (rd l3 x24_2))) a0_0 a0_1) else (none)) else (none)) = some r := by first | (rw [hji24] at H;exact H) | (simp only [hji24] at H ⊢;exact H)
             (try rw [hji24] at A19)
             (try rw [hji24] at A21)
             have hji24w : (IntKind.i64.wrap (x24_2 - 1)) = ji24 := (i64_w _).trans hji24
             by_cases c25 : 0 ≤ (ji24)
             ·rw [if_pos c25] at H
              have c25b0 : decide (0 ≤ (ji24)) = true := decide_eq_true c25
              clear c25
              by_cases c26 : (ji24) < (l3.length : Int)
              ·rw [if_pos c26] at H
               have c26b0 : decide ((ji24) < (l3.length : Int)) = true := decide_eq_true c26
               clear c26
               have H' := aZ_ H
               clear H
               have hcz27_0 : wr.cell? ⟨gb101,0,none⟩ = some (.int .i64 a0_0) := (blk_cell BK101.out 0).trans rfl
               have hcz27_1 : wr.cell? ⟨gb101,1,none⟩ = some (.int .i64 a0_1) := (blk_cell BK101.out 1).trans rfl
               have hfz27_0 := blk_frozen BK101.out 0
               have hfz27_1 := blk_frozen BK101.out 1
               go_wp2_with (first | ((with_reducible refine gate_callee (f := 77) rfl ?_);refine goesL_ (some 32) rfl rfl Try.func77 T15_ rfl #[.int .i64 a0_0,.int .i64 (rd l3 x24_2)] rfl T4_ ?_;(with_reducible refine (impl_isInput.calls a0_0 (rd l3 x24_2) true _ A19.out).mono ?_);rintro e w' ⟨rfl,⟨nd,rfl⟩⟩;refine ⟨_,rfl,?_⟩) | (go_at_call 78;(with_reducible refine (impl_Table_at.calls a0_0 a0_1 (rd l3 x24_2) t106 _ A21.out).mono ?_);rintro e w28 ⟨rfl,hb⟩;have n0_ := aZ_ (blk_below (g := gb101) (o := .cells #[.int .i64 a0_0,.int .i64 a0_1] 25 (0,0)) T3_ hb);have n1_ := aZ_ (below_step T1_ hb);clear BK101;clear HB;have BK101 := n0_;have HB := n1_;clear n0_ n1_;(try clear hb);(try clear hb2);(try clear hk);(try clear hi);have p107 : 0 ≤ ((ji24) : Int) := of_decide_eq_true T6_;have q107 : (ji24) < (l3.length : Int) := of_decide_eq_true T6_;obtain ⟨ad107,e107,hx107_0⟩ := Kd.at_int HR3.out (ji24) p107 q107;obtain rfl : ad104 = ad107 := (by injection e107);replace hx107_0 := (HB.out.cell (World.block_lt_of_cell? w _ hx107_0)).trans hx107_0;replace p107 := eq_true p107;replace q107 := eq_true q107))
               go_meet
               case rel => exact ⟨_,(decide ((rd l3 (ji24)) ≥ (rd l3 x24_2))),(by first | rfl | (simp;done) | (simp only [← hji24] <;> (first | rfl | simp)) | (simp [*];done)),H',⟨by have := HJ4.out;have := HK2.out;first | omega | exact Nat.le_refl _⟩,⟨by (with_reducible repeat (first | refine blk_drewN ?_ _ | refine blk_drew ?_ | refine blk_alloc ?_ _));exact BK101.out⟩,⟨by repeat (first | (with_reducible first | exact HB.out | apply below_alloc | apply pw_below_drewN | apply below_drew1 | refine below_set ?_ GE101.out) | exact HB.out)⟩⟩
              ·rw [if_neg c26] at H
               exact absurd H T49_
             ·rw [if_neg c25] at H
              exact absurd H T49_
            ·rw [if_neg c23] at H
             have c23b0 : decide (0 < x24_2) = false := decide_eq_false c23
             clear c23
             have H' := aZ_ H
             clear H
             have hcz29_0 : wr.cell? ⟨gb101,0,none⟩ = some (.int .i64 a0_0) := (blk_cell BK101.out 0).trans rfl
             have hcz29_1 : wr.cell? ⟨gb101,1,none⟩ = some (.int .i64 a0_1) := (blk_cell BK101.out 1).trans rfl
             have hfz29_0 := blk_frozen BK101.out 0
             have hfz29_1 := blk_frozen BK101.out 1
             go_wp2_with (first | ((with_reducible refine gate_callee (f := 77) rfl ?_);refine goesL_ (some 32) rfl rfl Try.func77 T15_ rfl #[.int .i64 a0_0,.int .i64 (rd l3 x24_2)] rfl T4_ ?_;(with_reducible refine (impl_isInput.calls a0_0 (rd l3 x24_2) true _ A19.out).mono ?_);rintro e w' ⟨rfl,⟨nd,rfl⟩⟩;refine ⟨_,rfl,?_⟩) | (go_at_call 78;(with_reducible refine (impl_Table_at.calls a0_0 a0_1 (rd l3 x24_2) t106 _ A21.out).mono ?_);rintro e w30 ⟨rfl,hb⟩;have n0_ := aZ_ (blk_below (g := gb101) (o := .cells #[.int .i64 a0_0,.int .i64 a0_1] 25 (0,0)) T3_ hb);have n1_ := aZ_ (below_step T1_ hb);clear BK101;clear HB;have BK101 := n0_;have HB := n1_;clear n0_ n1_;(try clear hb);(try clear hb2);(try clear hk);(try clear hi)))
             go_meet
             case rel => exact ⟨_,(false),T10_,H',⟨by have := HJ4.out;have := HK2.out;first | omega | exact Nat.le_refl _⟩,⟨by (with_reducible repeat (first | refine blk_drewN ?_ _ | refine blk_drew ?_ | refine blk_alloc ?_ _));exact BK101.out⟩,⟨by repeat (first | (with_reducible first | exact HB.out | apply below_alloc | apply pw_below_drewN | apply below_drew1 | refine below_set ?_ GE101.out) | exact HB.out)⟩⟩
           ·rw [if_neg c22] at H
            have c22b0 : (t106 == a2) = false := beq_eq_false_iff_ne.mpr c22
            have c22b1 : (t106 != a2) = true := bne_iff_ne.mpr c22
            (first | rw [c22b0] | (simp only [i64_w,i32_w];rw [c22b0]) | skip)
            have H' := aZ_ H
            clear H
            have hcz31_0 : wr.cell? ⟨gb101,0,none⟩ = some (.int .i64 a0_0) := (blk_cell BK101.out 0).trans rfl
            have hcz31_1 : wr.cell? ⟨gb101,1,none⟩ = some (.int .i64 a0_1) := (blk_cell BK101.out 1).trans rfl
            have hfz31_0 := blk_frozen BK101.out 0
            have hfz31_1 := blk_frozen BK101.out 1
            go_wp2_with (first | ((with_reducible refine gate_callee (f := 77) rfl ?_);refine goesL_ (some 32) rfl rfl Try.func77 T15_ rfl #[.int .i64 a0_0,.int .i64 (rd l3 x24_2)] rfl T4_ ?_;(with_reducible refine (impl_isInput.calls a0_0 (rd l3 x24_2) true _ A19.out).mono ?_);rintro e w' ⟨rfl,⟨nd,rfl⟩⟩;refine ⟨_,rfl,?_⟩) | (go_at_call 78;(with_reducible refine (impl_Table_at.calls a0_0 a0_1 (rd l3 x24_2) t106 _ A21.out).mono ?_);rintro e w32 ⟨rfl,hb⟩;have n0_ := aZ_ (blk_below (g := gb101) (o := .cells #[.int .i64 a0_0,.int .i64 a0_1] 25 (0,0)) T3_ hb);have n1_ := aZ_ (below_step T1_ hb);clear BK101;clear HB;have BK101 := n0_;have HB := n1_;clear n0_ n1_;(try clear hb);(try clear hb2);(try clear hk);(try clear hi)))
            go_meet
            case rel => exact ⟨_,(true),T10_,H',⟨by have := HJ4.out;have := HK2.out;first | omega | exact Nat.le_refl _⟩,⟨by (with_reducible repeat (first | refine blk_drewN ?_ _ | refine blk_drew ?_ | refine blk_alloc ?_ _));exact BK101.out⟩,⟨by repeat (first | (with_reducible first | exact HB.out | apply below_alloc | apply pw_below_drewN | apply below_drew1 | refine below_set ?_ GE101.out) | exact HB.out)⟩⟩
          ·replace c20 := Bool.eq_false_iff.mpr c20
           subst c20
           have H1 : (impl_IsFooling.j2 k2 a1 a2 l3 x24_2 (rd l3 x24_2) l3 (l3.length : Int) x24_2 true a0_0 a0_1) = some r := by rw [if_neg (show ¬ (false = true) by decide)] at H;exact H
           clear H
           have H := H1
           clear H1
           have H' := aZ_ H
           clear H
           have hcz33_0 : wr.cell? ⟨gb101,0,none⟩ = some (.int .i64 a0_0) := (blk_cell BK101.out 0).trans rfl
           have hcz33_1 : wr.cell? ⟨gb101,1,none⟩ = some (.int .i64 a0_1) := (blk_cell BK101.out 1).trans rfl
           have hfz33_0 := blk_frozen BK101.out 0
           have hfz33_1 := blk_frozen BK101.out 1
           go_wp2_with (first | ((with_reducible refine gate_callee (f := 77) rfl ?_);refine goesL_ (some 32) rfl rfl Try.func77 T15_ rfl #[.int .i64 a0_0,.int .i64 (rd l3 x24_2)] rfl T4_ ?_;(with_reducible refine (impl_isInput.calls a0_0 (rd l3 x24_2) false _ A19.out).mono ?_);rintro e w' ⟨rfl,⟨nd,rfl⟩⟩;refine ⟨_,rfl,?_⟩))
           go_meet
           case rel => exact ⟨_,(true),T10_,H',⟨by have := HJ4.out;have := HK2.out;first | omega | exact Nat.le_refl _⟩,⟨by (with_reducible repeat (first | refine blk_drewN ?_ _ | refine blk_drew ?_ | refine blk_alloc ?_ _));exact BK101.out⟩,⟨by repeat (first | (with_reducible first | exact HB.out | apply below_alloc | apply pw_below_drewN | apply below_drew1 | refine below_set ?_ GE101.out) | exact HB.out)⟩⟩
         case rest =>
          clear HC18
          try clear c1
          try clear p1
          try clear q1
          try clear hx1
          try clear c2
          try clear p2
          try clear c3
          try clear c6
          try clear p6
          try clear c7
          try clear c8
          try clear p10
          try clear q10
          try clear hx10
          try clear c14
          try clear c15
          try clear c15b0
          try clear c16
          try clear c16b0
          try clear c17
          try clear c17b0
          try clear c20
          try clear c22
          try clear c22b0
          try clear c22b1
          try clear c23
          try clear c23b0
          try clear c25
          try clear c25b0
          try clear c26
          try clear c26b0
          try clear hcz10_0
          try clear hcz10_1
          try clear hcz12_0
          try clear hcz12_1
          try clear hcz27_0
          try clear hcz27_1
          try clear hcz29_0
          try clear hcz29_1
          try clear hcz31_0
          try clear hcz31_1
          try clear hcz33_0
          try clear hcz33_1
          try clear hfz10_0
          try clear hfz10_1
          try clear hfz12_0
          try clear hfz12_1
          try clear hfz27_0
          try clear hfz27_1
          try clear hfz29_0
          try clear hfz29_1
          try clear hfz31_0
          try clear hfz31_1
          try clear hfz33_0
          try clear hfz33_1
          try clear hx104_0
          try clear hx107_0
          try clear p104
          try clear p107
          try clear p2
          try clear q104
          try clear q107
          obtain ⟨kq,x53_17,rfl,HA,HJ17,BK101,HB⟩ := hcut
          cases kq with
          | zero => exact absurd HA.out (by simp [impl_IsFooling.j2])
          | succ kj17 =>
           have H := HA.out
           clear HA
           simp only [impl_IsFooling.j2] at H
           by_cases c34 : x53_17 = true
           ·subst c34
            have H1 : (some false) = some r := by rw [if_pos rfl] at H;exact H
            clear H
            have H := H1
            clear H1
            obtain rfl := Option.some.inj H
            go_wp2
            go_ret
            exact ⟨by first | rfl | (simp [errW_none,errW_some] <;> rfl) | (simp [*,errW_none,errW_some] <;> rfl),by repeat (first | (with_reducible first | exact HB.out | apply below_alloc | apply pw_below_drewN | apply below_drew1 | refine below_set ?_ GE101.out) | exact HB.out)⟩
           ·replace c34 := Bool.eq_false_iff.mpr c34
            subst c34
            have H1 : (if 0 ≤ x24_2 then (if x24_2 ≤ (l3.length : Int) then (impl_IsFooling.l1 kj17 a1 a2 l3 (rd l3 x24_2) l3 (l3.length : Int) x24_2 (l3.take (x24_2 : Int).toNat) ((l3.take (x24_2 : Int).toNat).length : Int) 0 a0_0 a0_1) else (none)) else (none)) = some r := by rw [if_neg (show ¬ (false = true) by decide)] at H;exact H
            clear H
            have H := H1
            clear H1
            by_cases c35 : 0 ≤ x24_2
            ·rw [if_pos c35] at H
             have c35b0 := eq_true c35
             have c35b1 : decide (0 ≤ x24_2) = true := decide_eq_true c35
             clear c35
             by_cases c36 : x24_2 ≤ (l3.length : Int)
             ·rw [if_pos c36] at H
              have c36b0 := eq_true c36
              have c36b1 : decide (x24_2 ≤ (l3.length : Int)) = true := decide_eq_true c36
              clear c36
              have H' := aZ_ H
              clear H
              obtain ⟨i037,hi037,_,hsz37,_⟩ := info_parts info3
              obtain ⟨hcut37,hA37,hC37⟩ := print_take_of (P := Try.prog) (Value.int .i64) 0 27 3 .i64 Try.underlying27 hi037 hsz37 (some ad104) c3 l3 x24_2 (of_decide_eq_true T6_) (of_decide_eq_true T6_) HC3.out
              have HR108 := aZ_ (Kd.C_of_reads (h1 := fun _ => rfl) (hA37 _ (Kd.reads_of_C HR3.out)))
              have HC108 := aZ_ hC37
              clear hA37 hC37 hi037 hsz37
              go_wp2
              go_loopg [58] kj17 (fun kq v58 w' => ∃ (x58_4 : Int),v58 = .int .i64 x58_4 ∧ Aside0 (impl_IsFooling.l1 kq a1 a2 l3 (rd l3 x24_2) l3 (l3.length : Int) x24_2 (l3.take (x24_2 : Int).toNat) ((l3.take (x24_2 : Int).toNat).length : Int) x58_4 a0_0 a0_1 = some r) ∧ Aside0 (kq ≤ kj17) ∧ Aside0 (w'.heap[gb101]? = some (.cells #[.int .i64 a0_0,.int .i64 a0_1] 25 (0,0))) ∧ Aside0 (Below w.heap.size w w'))
              case atStart => exact ⟨(0),T10_,H',⟨Nat.le_refl _⟩,⟨by (with_reducible repeat (first | refine blk_drewN ?_ _ | refine blk_drew ?_ | refine blk_alloc ?_ _));exact BK101.out⟩,⟨by repeat (first | (with_reducible first | exact HB.out | apply below_alloc | apply pw_below_drewN | apply below_drew1 | refine below_set ?_ GE101.out) | exact HB.out)⟩⟩
              case round =>
               clear H'
               try clear c1
               try clear p1
               try clear q1
               try clear hx1
               try clear c2
               try clear p2
               try clear c3
               try clear c6
               try clear p6
               try clear c7
               try clear c8
               try clear p10
               try clear q10
               try clear hx10
               try clear c14
               try clear c15
               try clear c15b0
               try clear c16
               try clear c16b0
               try clear c17
               try clear c17b0
               try clear c20
               try clear c22
               try clear c22b0
               try clear c22b1
               try clear c23
               try clear c23b0
               try clear c25
               try clear c25b0
               try clear c26
               try clear c26b0
               try clear c34
               try clear c35
               try clear c35b0
               try clear c35b1
               try clear c36
               try clear c36b0
               try clear hcz10_0
               try clear hcz10_1
               try clear hcz12_0
               try clear hcz12_1
               try clear hcz27_0
               try clear hcz27_1
               try clear hcz29_0
               try clear hcz29_1
               try clear hcz31_0
               try clear hcz31_1
               try clear hcz33_0
               try clear hcz33_1
               try clear hfz10_0
               try clear hfz10_1
               try clear hfz12_0
               try clear hfz12_1
               try clear hfz27_0
               try clear hfz27_1
               try clear hfz29_0
               try clear hfz29_1
               try clear hfz31_0
               try clear hfz31_1
               try clear hfz33_0
               try clear hfz33_1
               try clear hx104_0
               try clear hx107_0
               try clear p1
               try clear p10
               try clear p104
               try clear p107
               try clear p2
               try clear p6
               try clear q1
               try clear q10
               try clear q104
               try clear q107
               obtain ⟨x58_4,rfl,HA,HK4,BK101,HB⟩ := hrel
               cases gk with
               | zero => exact absurd HA.out (by simp [impl_IsFooling.l1])
               | succ k4 =>
                have H := HA.out
                clear HA
                simp only [impl_IsFooling.l1] at H
                by_cases c38 : x58_4 < ((l3.take (x24_2 : Int).toNat).length : Int)
                ·rw [if_pos c38] at H
                 have c38t : x58_4 < max x24_2 0 := by
                  have h_ := c38
                  rw [List.length_take] at h_
                  have z_ : x24_2 ≤ (l3.length : Int) := of_decide_eq_true T6_
                  omega
                 have c38b0 : decide (x58_4 < ((l3.take (x24_2 : Int).toNat).length : Int)) = true := decide_eq_true c38
                 clear c38
                 by_cases c39 : 0 ≤ x58_4
                 ·rw [if_pos c39] at H
                  have c39b0 : decide (0 ≤ x58_4) = true := decide_eq_true c39
                  clear c39
                  by_cases c40 : x58_4 < ((l3.take (x24_2 : Int).toNat).length : Int)
                  ·rw [if_pos c40] at H
                   have c40t : x58_4 < max x24_2 0 := by
                    have h_ := c40
                    rw [List.length_take] at h_
                    have z_ : x24_2 ≤ (l3.length : Int) := of_decide_eq_true T6_
                    omega
                   have c40b0 : decide (x58_4 < ((l3.take (x24_2 : Int).toNat).length : Int)) = true := decide_eq_true c40
                   clear c40
                   replace H := Option.bind_eq_some_iff.mp H
                   obtain ⟨t110,A410,H⟩ := H
                   replace H : (if t110 = true then (impl_IsFooling.l1 k4 a1 a2 l3 (rd l3 x24_2) l3 (l3.length : Int) x24_2 (l3.take (x24_2 : Int).toNat) ((l3.take (x24_2 : Int).toNat).length : Int) (wrap64 (x58_4 + 1)) a0_0 a0_1) else (some false)) = some r := H
                   have A41 := aZ_ A410
                   clear A410
                   by_cases c42 : t110 = true
                   ·subst c42
                    have H1 : (impl_IsFooling.l1 k4 a1 a2 l3 (rd l3 x24_2) l3 (l3.length : Int) x24_2 (l3.take (x24_2 : Int).toNat) ((l3.take (x24_2 : Int).toNat).length : Int) (wrap64 (x58_4 + 1)) a0_0 a0_1) = some r := by rw [if_pos rfl] at H;exact H
                    clear H
                    have H := H1
                    clear H1
                    have H' := aZ_ H
                    clear H
                    have p109 : 0 ≤ (x58_4 : Int) := of_decide_eq_true T6_
                    have q109 : x58_4 < ((l3.take (x24_2 : Int).toNat).length : Int) := of_decide_eq_true T6_
                    obtain ⟨ad109,e109,hx109_0⟩ := Kd.at_int HR108.out x58_4 p109 q109
                    obtain rfl : ad104 = ad109 := (by injection e109)
                    replace hx109_0 := (HB.out.cell (World.block_lt_of_cell? w _ hx109_0)).trans hx109_0
                    replace p109 := eq_true p109
                    replace q109 := eq_true q109
                    have hcz43_0 : wr.cell? ⟨gb101,0,none⟩ = some (.int .i64 a0_0) := (blk_cell BK101.out 0).trans rfl
                    have hcz43_1 : wr.cell? ⟨gb101,1,none⟩ = some (.int .i64 a0_1) := (blk_cell BK101.out 1).trans rfl
                    have hfz43_0 := blk_frozen BK101.out 0
                    have hfz43_1 := blk_frozen BK101.out 1
                    go_wp2_with (first | ((with_reducible refine gate_callee (f := 79) rfl ?_);refine goesL_ (some 67) rfl rfl Try.func79 T15_ rfl #[.agg #[.int .i64 a0_0,.int .i64 a0_1],.int .i64 a1,.int .i64 a2,.int .i64 (rd (l3.take (x24_2 : Int).toNat) x58_4),.int .i64 (rd l3 x24_2)] rfl T4_ ?_;(with_reducible refine (impl_Table_apartBy.calls a0_0 a0_1 a1 a2 (rd (l3.take (x24_2 : Int).toNat) x58_4) (rd l3 x24_2) true _ A41.out).mono ?_);rintro e w44 ⟨rfl,hb⟩;refine ⟨_,rfl,?_⟩;have n0_ := aZ_ (blk_below (g := gb101) (o := .cells #[.int .i64 a0_0,.int .i64 a0_1] 25 (0,0)) T3_ hb);have n1_ := aZ_ (below_step T1_ hb);clear BK101;clear HB;have BK101 := n0_;have HB := n1_;clear n0_ n1_;(try clear hb);(try clear hb2);(try clear hk);(try clear hi)))
                    go_roundg k4
                    case measure => have := HJ4.out;have := HK2.out;have := HJ17.out;have := HK4.out;omega
                    case rel => exact ⟨(wrap64 (x58_4 + 1)),T10_,H',⟨by have := HJ4.out;have := HK2.out;have := HJ17.out;have := HK4.out;omega⟩,⟨by (with_reducible repeat (first | refine blk_drewN ?_ _ | refine blk_drew ?_ | refine blk_alloc ?_ _));exact BK101.out⟩,⟨by repeat (first | (with_reducible first | exact HB.out | apply below_alloc | apply pw_below_drewN | apply below_drew1 | refine below_set ?_ GE101.out) | exact HB.out)⟩⟩
                   ·replace c42 := Bool.eq_false_iff.mpr c42
                    subst c42
                    have H1 : (some false) = some r := by rw [if_neg (show ¬ (false = true) by decide)] at H;exact H
                    clear H
                    have H := H1
                    clear H1
                    obtain rfl := Option.some.inj H
                    have p109 : 0 ≤ (x58_4 : Int) := of_decide_eq_true T6_
                    have q109 : x58_4 < ((l3.take (x24_2 : Int).toNat).length : Int) := of_decide_eq_true T6_
                    obtain ⟨ad109,e109,hx109_0⟩ := Kd.at_int HR108.out x58_4 p109 q109
                    obtain rfl : ad104 = ad109 := (by injection e109)
                    replace hx109_0 := (HB.out.cell (World.block_lt_of_cell? w _ hx109_0)).trans hx109_0
                    replace p109 := eq_true p109
                    replace q109 := eq_true q109
                    have hcz45_0 : wr.cell? ⟨gb101,0,none⟩ = some (.int .i64 a0_0) := (blk_cell BK101.out 0).trans rfl
                    have hcz45_1 : wr.cell? ⟨gb101,1,none⟩ = some (.int .i64 a0_1) := (blk_cell BK101.out 1).trans rfl
                    have hfz45_0 := blk_frozen BK101.out 0
                    have hfz45_1 := blk_frozen BK101.out 1
                    go_wp2_with (first | ((with_reducible refine gate_callee (f := 79) rfl ?_);refine goesL_ (some 67) rfl rfl Try.func79 T15_ rfl #[.agg #[.int .i64 a0_0,.int .i64 a0_1],.int .i64 a1,.int .i64 a2,.int .i64 (rd (l3.take (x24_2 : Int).toNat) x58_4),.int .i64 (rd l3 x24_2)] rfl T4_ ?_;(with_reducible refine (impl_Table_apartBy.calls a0_0 a0_1 a1 a2 (rd (l3.take (x24_2 : Int).toNat) x58_4) (rd l3 x24_2) false _ A41.out).mono ?_);rintro e w46 ⟨rfl,hb⟩;refine ⟨_,rfl,?_⟩;have n0_ := aZ_ (blk_below (g := gb101) (o := .cells #[.int .i64 a0_0,.int .i64 a0_1] 25 (0,0)) T3_ hb);have n1_ := aZ_ (below_step T1_ hb);clear BK101;clear HB;have BK101 := n0_;have HB := n1_;clear n0_ n1_;(try clear hb);(try clear hb2);(try clear hk);(try clear hi)))
                    go_ret
                    exact ⟨by first | rfl | (simp [errW_none,errW_some] <;> rfl) | (simp [*,errW_none,errW_some] <;> rfl),by repeat (first | (with_reducible first | exact HB.out | apply below_alloc | apply pw_below_drewN | apply below_drew1 | refine below_set ?_ GE101.out) | exact HB.out)⟩
                  ·rw [if_neg c40] at H
                   exact absurd H T49_
                 ·rw [if_neg c39] at H
                  exact absurd H T49_
                ·rw [if_neg c38] at H
                 have c38t : ¬ (x58_4 < max x24_2 0) := by
                  have h_ := c38
                  rw [List.length_take] at h_
                  have z_ : x24_2 ≤ (l3.length : Int) := of_decide_eq_true T6_
                  omega
                 have c38b0 : decide (x58_4 < ((l3.take (x24_2 : Int).toNat).length : Int)) = false := decide_eq_false c38
                 clear c38
                 have H' := aZ_ H
                 clear H
                 go_wp2
                 go_roundg k4
                 case measure => have := HJ4.out;have := HK2.out;have := HJ17.out;have := HK4.out;omega
                 case rel => exact ⟨(wrap64 (x24_2 + 1)),T10_,H',⟨by have := HJ4.out;have := HK2.out;have := HJ17.out;have := HK4.out;omega⟩,⟨by (with_reducible repeat (first | refine blk_drewN ?_ _ | refine blk_drew ?_ | refine blk_alloc ?_ _));exact BK101.out⟩,⟨by repeat (first | (with_reducible first | exact HB.out | apply below_alloc | apply pw_below_drewN | apply below_drew1 | refine below_set ?_ GE101.out) | exact HB.out)⟩⟩
             ·rw [if_neg c36] at H
              exact absurd H T49_
            ·rw [if_neg c35] at H
             exact absurd H T49_
        ·rw [if_neg c17] at H
         exact absurd H T49_
       ·rw [if_neg c16] at H
        exact absurd H T49_
      ·rw [if_neg c15] at H
       have c15b0 : decide (x24_2 < (l3.length : Int)) = false := decide_eq_false c15
       clear c15
       obtain rfl := Option.some.inj H
       go_wp2
       go_ret
       exact ⟨by first | rfl | (simp [errW_none,errW_some] <;> rfl) | (simp [*,errW_none,errW_some] <;> rfl),by repeat (first | (with_reducible first | exact HB.out | apply below_alloc | apply pw_below_drewN | apply below_drew1 | refine below_set ?_ GE101.out) | exact HB.out)⟩
end Go.Proofs.Ythlajlhjofjmcaa.F
