/- Walks of Go functions and lemmas on what they compute, for the row of FnSpectra (a part of several): each call ends as the Lean function of its name tells; the conditions are those of each theorem. -/
import Derived.Test.YtflacbjpeecjcaaM1FnSpectra
import Derived.Test.YtflacbjpeecjcaaM2FnSpectra
import Derived.Test.YtflacbjpeecjcaaM3FnSpectra
import Derived.Test.YtflacbjpeecjcaaM4FnSpectra
import Derived.Test.YtflacbjpeecjcaaM6FnSpectra
namespace Go.Proofs.Ytflacbjpeecjcaa.F
open Go.RowKit Go.Proofs.YtflacbjpeecjcaaW.PrintWords Go.Proofs.YtflacbjpeecjcaaW.PrintLast Go.Proofs.YtflacbjpeecjcaaW.PrintMore
attribute [local go_sem] max2_int min2_int max_two min_two max_three min_three max_four min_four 
set_option linter.unusedVariables false
set_option linter.unusedSimpArgs false
def impl_size1.f (a0 : Int) : Option (Int) := some (mx a0 (wrap64 (-a0)))
set_option maxHeartbeats 8000000 in
set_option maxRecDepth 100000 in
theorem impl_size1.calls (a0 : Int) (r : Int) (w : World) (h : impl_size1.f a0 = some r) :
  Calls Try.prog 55 #[.int .i64 a0] w fun e w' => e = .returned (.int .i64 r) ∧ Below w.heap.size w w' := by
 have HB := aZ_ (Below.refl w.heap.size w)
 have H : (some (mx a0 (wrap64 (-a0)))) = some r := h
 clear h
 obtain ⟨ji2,hji2⟩ : ∃ j_ : Int,(mx a0 (wrap64 (-a0))) = j_ := ⟨_,rfl⟩
 replace H : (some ji2) = some r := by first | (rw [hji2] at H;exact H) | (simp only [hji2] at H ⊢;exact H)
 have hji2_ : (if a0 < (wrap64 (-a0)) then (wrap64 (-a0)) else a0) = ji2 := hji2
 obtain rfl := Option.some.inj H
 go_enter Try.func55,Try.ntmps55
 go_wp2
 go_ret
 exact ⟨by first | rfl | (simp [errW_none,errW_some] <;> rfl) | (simp only [← hji2];first | rfl | (simp [errW_none,errW_some] <;> rfl)) | (simp [*,errW_none,errW_some] <;> rfl),by repeat (first | (with_reducible first | exact HB.out | apply below_alloc | apply pw_below_drewN | apply below_drew1) | exact HB.out)⟩
def impl_peak.l0 : Nat → Int → List Int → Int → Int → Option (Int)
 | 0,_,_,_,_ => none
 | k + 1,x3,x6,x7,x8 => if x8 < x7 then (if 0 ≤ x8 then (if x8 < (x6.length : Int) then ((impl_size1.f (rd x6 x8)).bind fun t102 => (impl_peak.l0 k (mx x3 t102) x6 x7 (wrap64 (x8 + 1)))) else (none)) else (none)) else (some x3)
def impl_peak.f (k : Nat) (l0 : List Int) : Option (Int) := impl_peak.l0 k 0 l0 (l0.length : Int) 0
set_option maxHeartbeats 8000000 in
set_option maxRecDepth 100000 in
theorem impl_peak.calls (k : Nat) (A0 : Option Addr) (c0 : Nat) (l0 : List Int) (r : Int) (w : World) (hr0 : Kd.C (Kd.int .i64) w A0 l0.length l0) (hc0 : l0.length ≤ c0) (h : impl_peak.f k l0 = some r) :
  Calls Try.prog 37 #[.slice A0 l0.length c0] w fun e w' => e = .returned (.int .i64 r) ∧ Below w.heap.size w w' := by
 have HR0 := aZ_ hr0
 have HC0 := aZ_ hc0
 clear hr0 hc0
 have HB := aZ_ (Below.refl w.heap.size w)
 have H : (impl_peak.l0 k 0 l0 (l0.length : Int) 0) = some r := h
 clear h
 have H' := aZ_ H
 clear H
 go_enter Try.func37,Try.ntmps37
 go_wp2
 go_loopg [3,8] k (fun kq v3 v8 w' => ∃ (x3_1 : Int) (x8_1 : Int),v3 = .int .i64 x3_1 ∧ v8 = .int .i64 x8_1 ∧ Aside0 (impl_peak.l0 kq x3_1 l0 (l0.length : Int) x8_1 = some r) ∧ Aside0 (kq ≤ k) ∧ Aside0 (Below w.heap.size w w'))
 case atStart => exact ⟨(0),(0),T6_,T6_,H',⟨Nat.le_refl _⟩,⟨by repeat (first | (with_reducible first | exact HB.out | apply below_alloc | apply pw_below_drewN | apply below_drew1) | exact HB.out)⟩⟩
 case round =>
  clear H'
  obtain ⟨x3_1,x8_1,rfl,rfl,HA,HK1,HB⟩ := hrel
  cases gk with
  | zero => exact absurd HA.out (by simp [impl_peak.l0])
  | succ k1 =>
   have H := HA.out
   clear HA
   simp only [impl_peak.l0] at H
   by_cases c2 : x8_1 < (l0.length : Int)
   ·rw [if_pos c2] at H
    have c2b0 : decide (x8_1 < (l0.length : Int)) = true := decide_eq_true c2
    clear c2
    by_cases c3 : 0 ≤ x8_1
    ·rw [if_pos c3] at H
     have c3b0 : decide (0 ≤ x8_1) = true := decide_eq_true c3
     clear c3
     by_cases c4 : x8_1 < (l0.length : Int)
     ·rw [if_pos c4] at H
      have c4b0 : decide (x8_1 < (l0.length : Int)) = true := decide_eq_true c4
      clear c4
      replace H := Option.bind_eq_some_iff.mp H
      obtain ⟨t102,A50,H⟩ := H
      replace H : (impl_peak.l0 k1 (mx x3_1 t102) l0 (l0.length : Int) (wrap64 (x8_1 + 1))) = some r := H
      have A5 := aZ_ A50
      clear A50
      obtain ⟨ji6,hji6⟩ : ∃ j_ : Int,(mx x3_1 t102) = j_ := ⟨_,rfl⟩
      replace H : (impl_peak.l0 k1 ji6 l0 (l0.length : Int) (wrap64 (x8_1 + 1))) = some r := by first | (rw [hji6] at H;exact H) | (simp only [hji6] at H ⊢;exact H)
      (try rw [hji6] at A5)
      have hji6_ : (if x3_1 < t102 then t102 else x3_1) = ji6 := hji6
      have H' := aZ_ H
      clear H
      have p101 : 0 ≤ (x8_1 : Int) := of_decide_eq_true T10_
      have q101 : x8_1 < (l0.length : Int) := of_decide_eq_true T10_
      obtain ⟨ad101,e101,hx101_0⟩ := Kd.at_int HR0.out x8_1 p101 q101
      cases e101
      replace hx101_0 := (HB.out.cell (World.block_lt_of_cell? w _ hx101_0)).trans hx101_0
      replace p101 := eq_true p101
      replace q101 := eq_true q101
      go_wp2_with (first | ((with_reducible refine gate_callee (f := 55) rfl ?_);refine goesL_ (some 14) rfl rfl Try.func55 T16_ rfl #[.int .i64 (rd l0 x8_1)] rfl T3_ ?_;(with_reducible refine (impl_size1.calls (rd l0 x8_1) t102 _ A5.out).mono ?_);rintro e w7 ⟨rfl,hb⟩;refine ⟨_,rfl,?_⟩;have n0_ := aZ_ (below_step T7_ hb);clear HB;have HB := n0_;clear n0_;(try clear hb);(try clear hb2);(try clear hk);(try clear hi)))
      go_roundg k1
      case measure => have := HK1.out;omega
      case rel => exact ⟨(ji6),(wrap64 (x8_1 + 1)),(by first | rfl | (simp;done) | (simp only [← hji6] <;> (first | rfl | simp)) | (simp [*];done)),T6_,H',⟨by have := HK1.out;omega⟩,⟨by repeat (first | (with_reducible first | exact HB.out | apply below_alloc | apply pw_below_drewN | apply below_drew1) | exact HB.out)⟩⟩
     ·rw [if_neg c4] at H
      exact absurd H T42_
    ·rw [if_neg c3] at H
     exact absurd H T42_
   ·rw [if_neg c2] at H
    have c2b0 : decide (x8_1 < (l0.length : Int)) = false := decide_eq_false c2
    clear c2
    obtain rfl := Option.some.inj H
    go_wp2
    go_ret
    exact ⟨by first | rfl | (simp [errW_none,errW_some] <;> rfl) | (simp [*,errW_none,errW_some] <;> rfl),by repeat (first | (with_reducible first | exact HB.out | apply below_alloc | apply pw_below_drewN | apply below_drew1) | exact HB.out)⟩
def impl_Nonlinearity.f (k : Nat) (a0_0 : Int) (a0_1 : Int) : Option (Int) := (impl_IsTable.f a0_0 a0_1).bind fun t102 => (if t102 = true then ((impl_Table_size.f a0_0 a0_1).bind fun t103 => ((impl_Table_spectrum.f k a0_0 a0_1).bind fun t104 => ((impl_peak.f k t104).bind fun t107 => (some (wrap64 (Int.tdiv (wrap64 (t103 - t107)) 2)))))) else (some (-1)))
def impl_Nonlinearity.T3 : Bool × List (List Nat × List Nat) := (true,[([],[]),([0],[0]),([],[]),([2,1],[2]),([3,3],[3]),([1,4],[1,4]),([5],[5]),([6,4,0,1,2,3,4,5,6],[6])])
def impl_Nonlinearity.B3 : List Nat := [0,1,0,7,15,31,63,127]
theorem impl_Nonlinearity.tab3 : rtab .any (opsOf Try.f9 3) = impl_Nonlinearity.T3 := by kernel_rfl
theorem impl_Nonlinearity.bits3 : waitsOk impl_Nonlinearity.T3.2 impl_Nonlinearity.B3 = true := by kernel_rfl
set_option maxHeartbeats 8000000 in
set_option maxRecDepth 100000 in
theorem impl_Nonlinearity.calls (k : Nat) (a0_0 : Int) (a0_1 : Int) (r : Int) (w : World) (h : impl_Nonlinearity.f k a0_0 a0_1 = some r) :
  Calls Try.prog 9 #[.agg #[.int .i64 a0_0,.int .i64 a0_1]] w fun e w' => e = .returned (.int .i64 r) ∧ Below w.heap.size w w' := by
 have hu25 := Try.underlying25
 have HB := aZ_ (Below.refl w.heap.size w)
 have H : ((impl_IsTable.f a0_0 a0_1).bind fun t102 => (if t102 = true then ((impl_Table_size.f a0_0 a0_1).bind fun t103 => ((impl_Table_spectrum.f k a0_0 a0_1).bind fun t104 => ((impl_peak.f k t104).bind fun t107 => (some (wrap64 (Int.tdiv (wrap64 (t103 - t107)) 2)))))) else (some (-1)))) = some r := h
 clear h
 replace H := Option.bind_eq_some_iff.mp H
 obtain ⟨t102,A20,H⟩ := H
 replace H : (if t102 = true then ((impl_Table_size.f a0_0 a0_1).bind fun t103 => ((impl_Table_spectrum.f k a0_0 a0_1).bind fun t104 => ((impl_peak.f k t104).bind fun t107 => (some (wrap64 (Int.tdiv (wrap64 (t103 - t107)) 2)))))) else (some (-1))) = some r := H
 have A2 := aZ_ A20
 clear A20
 by_cases c3 : t102 = true
 ·subst c3
  have H1 : ((impl_Table_size.f a0_0 a0_1).bind fun t103 => ((impl_Table_spectrum.f k a0_0 a0_1).bind fun t104 => ((impl_peak.f k t104).bind fun t107 => (some (wrap64 (Int.tdiv (wrap64 (t103 - t107)) 2)))))) = some r := by rw [if_pos rfl] at H;exact H
  clear H
  have H := H1
  clear H1
  replace H := Option.bind_eq_some_iff.mp H
  obtain ⟨t103,A40,H⟩ := H
  replace H : ((impl_Table_spectrum.f k a0_0 a0_1).bind fun t104 => ((impl_peak.f k t104).bind fun t107 => (some (wrap64 (Int.tdiv (wrap64 (t103 - t107)) 2))))) = some r := H
  have A4 := aZ_ A40
  clear A40
  replace H := Option.bind_eq_some_iff.mp H
  obtain ⟨t104,A50,H⟩ := H
  replace H : ((impl_peak.f k t104).bind fun t107 => (some (wrap64 (Int.tdiv (wrap64 (t103 - t107)) 2)))) = some r := H
  have A5 := aZ_ A50
  clear A50
  replace H := Option.bind_eq_some_iff.mp H
  obtain ⟨t107,A60,H⟩ := H
  replace H : (some (wrap64 (Int.tdiv (wrap64 (t103 - t107)) 2))) = some r := H
  have A6 := aZ_ A60
  clear A60
  obtain rfl := Option.some.inj H
  go_enter Try.func9,Try.ntmps9
  try go_wp2_with (first | ((with_reducible refine gate_dst (N := 1) rfl ?_);refine box_event ?hg (N := 1) ?hd (cs := #[.int .i64 a0_0,.int .i64 a0_1]) (t := 25) ?hr ?_;(case hd => rfl);(case hg => rfl);(case hr => first | (go_simp;done) | (go_simp;rfl));intro gb101 hg w7 hbox hb;have n0_ := aZ_ (below_step T7_ hb);have n1_ := aZ_ (hbox);have n2_ := aZ_ ((T4_ : w.heap.size ≤ gb101));have n3_ := aZ_ ((T4_ : w.heap.size ≤ gb101));clear HB;have HB := n0_;have BK101 := n1_;have GW101 := n2_;have GE101 := n3_;clear n0_ n1_ n2_ n3_;clear hb hbox hg;have hcz8_0 : w7.cell? ⟨gb101,0,none⟩ = some (.int .i64 a0_0) := (blk_cell BK101.out 0).trans rfl;have hcz8_1 : w7.cell? ⟨gb101,1,none⟩ = some (.int .i64 a0_1) := (blk_cell BK101.out 1).trans rfl;have hfz8_0 := blk_frozen BK101.out 0;have hfz8_1 := blk_frozen BK101.out 1) | ((with_reducible refine gate_callee (f := 32) rfl ?_);refine goesL_ (some 4) rfl rfl Try.func32 T16_ rfl #[.agg #[.int .i64 a0_0,.int .i64 a0_1]] rfl T3_ ?_;(with_reducible refine (impl_IsTable.calls a0_0 a0_1 true _ A2.out).mono ?_);rintro e w9 ⟨rfl,hb⟩;refine ⟨_,rfl,?_⟩;have n0_ := aZ_ (blk_below (g := gb101) (o := .cells #[.int .i64 a0_0,.int .i64 a0_1] 25 (0,0)) T2_ hb);have n1_ := aZ_ (below_step T1_ hb);clear BK101;clear HB;have BK101 := n0_;have HB := n1_;clear n0_ n1_;(try clear hb);(try clear hb2);(try clear hk);(try clear hi)))
  have n0_ := aZ_ (blk_drew BK101.out)
  have n1_ := aZ_ (below_drew1 HB.out)
  clear BK101
  clear HB
  have BK101 := n0_
  have HB := n1_
  clear n0_ n1_
  refine start_ (n := 8) (S := fun w' => w'.cell? ⟨gb101,0,none⟩ = some (.int .i64 a0_0) ∧ w'.cell? ⟨gb101,1,none⟩ = some (.int .i64 a0_1)) (ds := []) #[false,false,false,false,false,false,false,false] T16_ rfl rfl ⟨(blk_cell BK101.out 0).trans rfl,(blk_cell BK101.out 1).trans rfl⟩ (fun hHeld => ?_);refine with_tabW impl_Nonlinearity.tab3 impl_Nonlinearity.bits3 (fun HT_ HW_ => ?_)
  generalize w9.drew = w10 at BK101 HB hHeld ⊢
  refine tZ2_ 0 (some 6) #[true,false,false,false,false,false,false,false] hHeld ?_
  refine tZ2_ 2 (some 8) #[true,false,true,false,false,false,false,false] hHeld ?_
  refine one_ (i := 1) (N := some 7) #[true,true,true,false,false,false,false,false] rfl rfl (one_of HT_.out T16_) T43_ (fun K hK => ?_)
  refine gZ_ Try.func36 #[.agg #[.int .i64 a0_0,.int .i64 a0_1]] ?_
  with_reducible refine (impl_Table_size.calls a0_0 a0_1 t103 _ A4.out).mono ?_
  rintro e w11 ⟨rfl,hb⟩
  refine ⟨_,rfl,?_⟩
  have n0_ := aZ_ (blk_below (g := gb101) (o := .cells #[.int .i64 a0_0,.int .i64 a0_1] 25 (0,0)) T2_ hb)
  have n1_ := aZ_ (below_step T1_ hb)
  clear BK101
  clear HB
  have BK101 := n0_
  have HB := n1_
  clear n0_ n1_
  (try clear hb)
  (try clear hb2)
  (try clear hk)
  (try clear hi)
  refine hK.out _ _ ⟨(blk_cell BK101.out 0).trans rfl,(blk_cell BK101.out 1).trans rfl⟩ (fun hHeld => ?_)
  clear hK K
  refine norm_ (a' := ?_) ?_ ?_
  rotate_left
  ·show Act.put _ (some 7) _ = _
   simp only [Act.put,List.setIfInBounds_toArray,List.set_cons_zero,List.set_cons_succ,i64_w,i32_w]
   rfl
  refine one_ (i := 3) (N := some 9) #[true,true,true,true,false,false,false,false] rfl rfl (one_of HT_.out T16_) T43_ (fun K hK => ?_)
  refine gZ_ Try.func33 #[.agg #[.int .i64 a0_0,.int .i64 a0_1]] ?_
  with_reducible refine (impl_Table_spectrum.calls k a0_0 a0_1 t104 _ A5.out).mono ?_
  rintro e w12 ⟨v105,rfl,ho0,hb⟩
  refine ⟨_,rfl,?_⟩
  have n0_ := aZ_ (Kd.R_lower ho0 (below_size T1_))
  have n1_ := aZ_ (blk_below (g := gb101) (o := .cells #[.int .i64 a0_0,.int .i64 a0_1] 25 (0,0)) T2_ hb)
  have n2_ := aZ_ (below_step T1_ hb)
  clear BK101
  clear HB
  have HO106 := n0_
  have BK101 := n1_
  have HB := n2_
  clear n0_ n1_ n2_
  (try clear hb)
  (try clear hb2)
  (try clear hk)
  (try clear hi)
  (try clear ho0)
  obtain ⟨Ao13,co13,eo13⟩ := Kd.R_slice HO106.out
  (first | subst eo13 | (injection eo13 with f1_ f2_ f3_;have f4_ := f1_.symm;have f5_ := f3_.symm;clear f1_ f2_ f3_;subst f4_;subst f5_))
  refine hK.out _ _ ⟨(blk_cell BK101.out 0).trans rfl,(blk_cell BK101.out 1).trans rfl⟩ (fun hHeld => ?_)
  clear hK K
  refine norm_ (a' := ?_) ?_ ?_
  rotate_left
  ·show Act.put _ (some 9) _ = _
   simp only [Act.put,List.setIfInBounds_toArray,List.set_cons_zero,List.set_cons_succ,i64_w,i32_w]
   rfl
  refine one_ (i := 4) (N := some 10) #[true,true,true,true,true,false,false,false] rfl rfl (one_of HT_.out T16_) T43_ (fun K hK => ?_)
  refine gZ_ Try.func37 #[.slice Ao13 t104.length co13] ?_
  with_reducible refine (impl_peak.calls k _ _ t104 t107 _ ?side1 ?side2 A6.out).mono ?_
  (case side1 => repeat (first | exact (Kd.R_reads' HO106.out).2.2 | (with_reducible refine Kd.C_alloc ?_ _) | (with_reducible refine Kd.C_drewN ?_ _) | (with_reducible refine Kd.C_drew ?_)))
  (case side2 => exact (Kd.R_reads' HO106.out).2.1)
  rintro e w14 ⟨rfl,hb⟩
  refine ⟨_,rfl,?_⟩
  have n0_ := aZ_ (Kd.R_below (by (with_reducible repeat (first | apply Kd.R_alloc | apply Kd.R_drewN | apply Kd.R_drew));exact HO106.out) hb)
  have n1_ := aZ_ (blk_below (g := gb101) (o := .cells #[.int .i64 a0_0,.int .i64 a0_1] 25 (0,0)) T2_ hb)
  have n2_ := aZ_ (below_step T1_ hb)
  clear HO106
  clear BK101
  clear HB
  have HO106 := n0_
  have BK101 := n1_
  have HB := n2_
  clear n0_ n1_ n2_
  (try clear hb)
  (try clear hb2)
  (try clear hk)
  (try clear hi)
  refine hK.out _ _ ⟨(blk_cell BK101.out 0).trans rfl,(blk_cell BK101.out 1).trans rfl⟩ (fun hHeld => ?_)
  clear hK K
  refine norm_ (a' := ?_) ?_ ?_
  rotate_left
  ·show Act.put _ (some 10) _ = _
   simp only [Act.put,List.setIfInBounds_toArray,List.set_cons_zero,List.set_cons_succ,i64_w,i32_w]
   rfl
  refine pZ_ 5 (some 11) #[true,true,true,true,true,true,false,false] ?_
  refine pZ_ 6 (some 12) #[true,true,true,true,true,true,true,false] ?_
  refine pZ_ 7 (some 2) #[true,true,true,true,true,true,true,true] ?_
  refine done_ (done_of HT_.out T16_) ?_
  try go_wp2
  go_ret
  exact ⟨by first | rfl | (simp [errW_none,errW_some] <;> rfl) | (simp [*,errW_none,errW_some] <;> rfl),by repeat (first | (with_reducible first | exact HB.out | apply below_alloc | apply pw_below_drewN | apply below_drew1 | refine below_set ?_ GE101.out) | exact HB.out)⟩
 ·replace c3 := Bool.eq_false_iff.mpr c3
  subst c3
  have H1 : (some (-1)) = some r := by rw [if_neg (show ¬ (false = true) by decide)] at H;exact H
  clear H
  have H := H1
  clear H1
  obtain rfl := Option.some.inj H
  go_enter Try.func9,Try.ntmps9
  go_wp2_with (first | ((with_reducible refine gate_dst (N := 1) rfl ?_);refine box_event ?hg (N := 1) ?hd (cs := #[.int .i64 a0_0,.int .i64 a0_1]) (t := 25) ?hr ?_;(case hd => rfl);(case hg => rfl);(case hr => first | (go_simp;done) | (go_simp;rfl));intro gb101 hg w15 hbox hb;have n0_ := aZ_ (below_step T7_ hb);have n1_ := aZ_ (hbox);have n2_ := aZ_ ((T4_ : w.heap.size ≤ gb101));have n3_ := aZ_ ((T4_ : w.heap.size ≤ gb101));clear HB;have HB := n0_;have BK101 := n1_;have GW101 := n2_;have GE101 := n3_;clear n0_ n1_ n2_ n3_;clear hb hbox hg;have hcz16_0 : w15.cell? ⟨gb101,0,none⟩ = some (.int .i64 a0_0) := (blk_cell BK101.out 0).trans rfl;have hcz16_1 : w15.cell? ⟨gb101,1,none⟩ = some (.int .i64 a0_1) := (blk_cell BK101.out 1).trans rfl;have hfz16_0 := blk_frozen BK101.out 0;have hfz16_1 := blk_frozen BK101.out 1) | ((with_reducible refine gate_callee (f := 32) rfl ?_);refine goesL_ (some 4) rfl rfl Try.func32 T16_ rfl #[.agg #[.int .i64 a0_0,.int .i64 a0_1]] rfl T3_ ?_;(with_reducible refine (impl_IsTable.calls a0_0 a0_1 false _ A2.out).mono ?_);rintro e w17 ⟨rfl,hb⟩;refine ⟨_,rfl,?_⟩;have n0_ := aZ_ (blk_below (g := gb101) (o := .cells #[.int .i64 a0_0,.int .i64 a0_1] 25 (0,0)) T2_ hb);have n1_ := aZ_ (below_step T1_ hb);clear BK101;clear HB;have BK101 := n0_;have HB := n1_;clear n0_ n1_;(try clear hb);(try clear hb2);(try clear hk);(try clear hi)))
  go_ret
  exact ⟨by first | rfl | (simp [errW_none,errW_some] <;> rfl) | (simp [*,errW_none,errW_some] <;> rfl),by repeat (first | (with_reducible first | exact HB.out | apply below_alloc | apply pw_below_drewN | apply below_drew1 | refine below_set ?_ GE101.out) | exact HB.out)⟩
def spec_Nonlinearity.l0 : Nat → List Int → Int → Int → Option (Int)
 | 0,_,_,_ => none
 | k + 1,x3,x4,x5 => if x5 < (x3.length : Int) then (if 0 ≤ x5 then (spec_Nonlinearity.l0 k x3 (mx x4 (mx (rd x3 x5) (wrap64 (-(rd x3 x5))))) (wrap64 (x5 + 1))) else (none)) else (some (wrap64 (Int.tdiv (wrap64 ((x3.length : Int) - x4)) 2)))
def spec_Nonlinearity.f (k : Nat) (a0_0 : Int) (a0_1 : Int) : Option (Int) := (spec_SpectrumOf.f k a0_0 a0_1).bind fun t102 => (if (t102.length : Int) = 0 then (some (-1)) else (spec_Nonlinearity.l0 k t102 0 0))
set_option maxHeartbeats 8000000 in
set_option maxRecDepth 100000 in
theorem spec_Nonlinearity.calls (k : Nat) (a0_0 : Int) (a0_1 : Int) (r : Int) (w : World) (h : spec_Nonlinearity.f k a0_0 a0_1 = some r) :
  Calls Try.prog 10 #[.agg #[.int .i64 a0_0,.int .i64 a0_1]] w fun e w' => e = .returned (.int .i64 r) ∧ Below w.heap.size w w' := by
 have hu25 := Try.underlying25
 have HB := aZ_ (Below.refl w.heap.size w)
 have H : ((spec_SpectrumOf.f k a0_0 a0_1).bind fun t102 => (if (t102.length : Int) = 0 then (some (-1)) else (spec_Nonlinearity.l0 k t102 0 0))) = some r := h
 clear h
 replace H := Option.bind_eq_some_iff.mp H
 obtain ⟨t102,A20,H⟩ := H
 replace H : (if (t102.length : Int) = 0 then (some (-1)) else (spec_Nonlinearity.l0 k t102 0 0)) = some r := H
 have A2 := aZ_ A20
 clear A20
 by_cases c3 : (t102.length : Int) = 0
 ·rw [if_pos c3] at H
  have c3b0 : ((t102.length : Int) == 0) = true := beq_iff_eq.mpr c3
  have c3b1 : ((t102.length : Int) != 0) = false := bne_eq_false_iff_eq.mpr c3
  clear c3
  obtain rfl := Option.some.inj H
  go_enter Try.func10,Try.ntmps10
  go_wp2_with (first | ((with_reducible refine gate_dst (N := 1) rfl ?_);refine box_event ?hg (N := 1) ?hd (cs := #[.int .i64 a0_0,.int .i64 a0_1]) (t := 25) ?hr ?_;(case hd => rfl);(case hg => rfl);(case hr => first | (go_simp;done) | (go_simp;rfl));intro gb101 hg w4 hbox hb;have n0_ := aZ_ (below_step T7_ hb);have n1_ := aZ_ (hbox);have n2_ := aZ_ ((T4_ : w.heap.size ≤ gb101));have n3_ := aZ_ ((T4_ : w.heap.size ≤ gb101));clear HB;have HB := n0_;have BK101 := n1_;have GW101 := n2_;have GE101 := n3_;clear n0_ n1_ n2_ n3_;clear hb hbox hg;have hcz5_0 : w4.cell? ⟨gb101,0,none⟩ = some (.int .i64 a0_0) := (blk_cell BK101.out 0).trans rfl;have hcz5_1 : w4.cell? ⟨gb101,1,none⟩ = some (.int .i64 a0_1) := (blk_cell BK101.out 1).trans rfl;have hfz5_0 := blk_frozen BK101.out 0;have hfz5_1 := blk_frozen BK101.out 1) | (go_at_call 8;(with_reducible refine (spec_SpectrumOf.calls k a0_0 a0_1 t102 _ A2.out).mono ?_);rintro e w6 ⟨v103,rfl,ho0,hb⟩;have n0_ := aZ_ (Kd.R_lower ho0 (below_size T1_));have n1_ := aZ_ (blk_below (g := gb101) (o := .cells #[.int .i64 a0_0,.int .i64 a0_1] 25 (0,0)) T2_ hb);have n2_ := aZ_ (below_step T1_ hb);clear BK101;clear HB;have HO104 := n0_;have BK101 := n1_;have HB := n2_;clear n0_ n1_ n2_;(try clear hb);(try clear hb2);(try clear hk);(try clear hi);(try clear ho0);obtain ⟨Ao7,co7,eo7⟩ := Kd.R_slice HO104.out;subst eo7))
  repeat (go_quiet (first | ((with_reducible refine gate_dst (N := 1) rfl ?_);refine box_event ?hg (N := 1) ?hd (cs := #[.int .i64 a0_0,.int .i64 a0_1]) (t := 25) ?hr ?_;(case hd => rfl);(case hg => rfl);(case hr => first | (go_simp;done) | (go_simp;rfl));intro gb101 hg w4 hbox hb;have n0_ := aZ_ (below_step T7_ hb);have n1_ := aZ_ (hbox);have n2_ := aZ_ ((T4_ : w.heap.size ≤ gb101));have n3_ := aZ_ ((T4_ : w.heap.size ≤ gb101));clear HB;have HB := n0_;have BK101 := n1_;have GW101 := n2_;have GE101 := n3_;clear n0_ n1_ n2_ n3_;clear hb hbox hg;have hcz5_0 : w4.cell? ⟨gb101,0,none⟩ = some (.int .i64 a0_0) := (blk_cell BK101.out 0).trans rfl;have hcz5_1 : w4.cell? ⟨gb101,1,none⟩ = some (.int .i64 a0_1) := (blk_cell BK101.out 1).trans rfl;have hfz5_0 := blk_frozen BK101.out 0;have hfz5_1 := blk_frozen BK101.out 1) | (go_at_call 8;(with_reducible refine (spec_SpectrumOf.calls k a0_0 a0_1 t102 _ A2.out).mono ?_);rintro e w6 ⟨v103,rfl,ho0,hb⟩;have n0_ := aZ_ (Kd.R_lower ho0 (below_size T1_));have n1_ := aZ_ (blk_below (g := gb101) (o := .cells #[.int .i64 a0_0,.int .i64 a0_1] 25 (0,0)) T2_ hb);have n2_ := aZ_ (below_step T1_ hb);clear BK101;clear HB;have HO104 := n0_;have BK101 := n1_;have HB := n2_;clear n0_ n1_ n2_;(try clear hb);(try clear hb2);(try clear hk);(try clear hi);(try clear ho0);obtain ⟨Ao7,co7,eo7⟩ := Kd.R_slice HO104.out;subst eo7));try go_wp2_with (first | ((with_reducible refine gate_dst (N := 1) rfl ?_);refine box_event ?hg (N := 1) ?hd (cs := #[.int .i64 a0_0,.int .i64 a0_1]) (t := 25) ?hr ?_;(case hd => rfl);(case hg => rfl);(case hr => first | (go_simp;done) | (go_simp;rfl));intro gb101 hg w4 hbox hb;have n0_ := aZ_ (below_step T7_ hb);have n1_ := aZ_ (hbox);have n2_ := aZ_ ((T4_ : w.heap.size ≤ gb101));have n3_ := aZ_ ((T4_ : w.heap.size ≤ gb101));clear HB;have HB := n0_;have BK101 := n1_;have GW101 := n2_;have GE101 := n3_;clear n0_ n1_ n2_ n3_;clear hb hbox hg;have hcz5_0 : w4.cell? ⟨gb101,0,none⟩ = some (.int .i64 a0_0) := (blk_cell BK101.out 0).trans rfl;have hcz5_1 : w4.cell? ⟨gb101,1,none⟩ = some (.int .i64 a0_1) := (blk_cell BK101.out 1).trans rfl;have hfz5_0 := blk_frozen BK101.out 0;have hfz5_1 := blk_frozen BK101.out 1) | (go_at_call 8;(with_reducible refine (spec_SpectrumOf.calls k a0_0 a0_1 t102 _ A2.out).mono ?_);rintro e w6 ⟨v103,rfl,ho0,hb⟩;have n0_ := aZ_ (Kd.R_lower ho0 (below_size T1_));have n1_ := aZ_ (blk_below (g := gb101) (o := .cells #[.int .i64 a0_0,.int .i64 a0_1] 25 (0,0)) T2_ hb);have n2_ := aZ_ (below_step T1_ hb);clear BK101;clear HB;have HO104 := n0_;have BK101 := n1_;have HB := n2_;clear n0_ n1_ n2_;(try clear hb);(try clear hb2);(try clear hk);(try clear hi);(try clear ho0);obtain ⟨Ao7,co7,eo7⟩ := Kd.R_slice HO104.out;subst eo7)))
  go_ret
  exact ⟨by first | rfl | (simp [errW_none,errW_some] <;> rfl) | (simp [*,errW_none,errW_some] <;> rfl),by repeat (first | (with_reducible first | exact HB.out | apply below_alloc | apply pw_below_drewN | apply below_drew1 | refine below_set ?_ GE101.out) | exact HB.out)⟩
 ·rw [if_neg c3] at H
  have c3b0 : ((t102.length : Int) == 0) = false := beq_eq_false_iff_ne.mpr c3
  have c3b1 : ((t102.length : Int) != 0) = true := bne_iff_ne.mpr c3
  have c3b2 : ¬ (t102 = []) := fun h_ => c3 (by rw [h_];rfl)
  have H' := aZ_ H
  clear H
  go_enter Try.func10,Try.ntmps10
  go_wp2_with (first | ((with_reducible refine gate_dst (N := 1) rfl ?_);refine box_event ?hg (N := 1) ?hd (cs := #[.int .i64 a0_0,.int .i64 a0_1]) (t := 25) ?hr ?_;(case hd => rfl);(case hg => rfl);(case hr => first | (go_simp;done) | (go_simp;rfl));intro gb101 hg w8 hbox hb;have n0_ := aZ_ (below_step T7_ hb);have n1_ := aZ_ (hbox);have n2_ := aZ_ ((T4_ : w.heap.size ≤ gb101));have n3_ := aZ_ ((T4_ : w.heap.size ≤ gb101));clear HB;have HB := n0_;have BK101 := n1_;have GW101 := n2_;have GE101 := n3_;clear n0_ n1_ n2_ n3_;clear hb hbox hg;have hcz9_0 : w8.cell? ⟨gb101,0,none⟩ = some (.int .i64 a0_0) := (blk_cell BK101.out 0).trans rfl;have hcz9_1 : w8.cell? ⟨gb101,1,none⟩ = some (.int .i64 a0_1) := (blk_cell BK101.out 1).trans rfl;have hfz9_0 := blk_frozen BK101.out 0;have hfz9_1 := blk_frozen BK101.out 1) | (go_at_call 8;(with_reducible refine (spec_SpectrumOf.calls k a0_0 a0_1 t102 _ A2.out).mono ?_);rintro e w10 ⟨v103,rfl,ho0,hb⟩;have n0_ := aZ_ (Kd.R_lower ho0 (below_size T1_));have n1_ := aZ_ (blk_below (g := gb101) (o := .cells #[.int .i64 a0_0,.int .i64 a0_1] 25 (0,0)) T2_ hb);have n2_ := aZ_ (below_step T1_ hb);clear BK101;clear HB;have HO104 := n0_;have BK101 := n1_;have HB := n2_;clear n0_ n1_ n2_;(try clear hb);(try clear hb2);(try clear hk);(try clear hi);(try clear ho0);obtain ⟨Ao11,co11,eo11⟩ := Kd.R_slice HO104.out;subst eo11))
  repeat (go_quiet (first | ((with_reducible refine gate_dst (N := 1) rfl ?_);refine box_event ?hg (N := 1) ?hd (cs := #[.int .i64 a0_0,.int .i64 a0_1]) (t := 25) ?hr ?_;(case hd => rfl);(case hg => rfl);(case hr => first | (go_simp;done) | (go_simp;rfl));intro gb101 hg w8 hbox hb;have n0_ := aZ_ (below_step T7_ hb);have n1_ := aZ_ (hbox);have n2_ := aZ_ ((T4_ : w.heap.size ≤ gb101));have n3_ := aZ_ ((T4_ : w.heap.size ≤ gb101));clear HB;have HB := n0_;have BK101 := n1_;have GW101 := n2_;have GE101 := n3_;clear n0_ n1_ n2_ n3_;clear hb hbox hg;have hcz9_0 : w8.cell? ⟨gb101,0,none⟩ = some (.int .i64 a0_0) := (blk_cell BK101.out 0).trans rfl;have hcz9_1 : w8.cell? ⟨gb101,1,none⟩ = some (.int .i64 a0_1) := (blk_cell BK101.out 1).trans rfl;have hfz9_0 := blk_frozen BK101.out 0;have hfz9_1 := blk_frozen BK101.out 1) | (go_at_call 8;(with_reducible refine (spec_SpectrumOf.calls k a0_0 a0_1 t102 _ A2.out).mono ?_);rintro e w10 ⟨v103,rfl,ho0,hb⟩;have n0_ := aZ_ (Kd.R_lower ho0 (below_size T1_));have n1_ := aZ_ (blk_below (g := gb101) (o := .cells #[.int .i64 a0_0,.int .i64 a0_1] 25 (0,0)) T2_ hb);have n2_ := aZ_ (below_step T1_ hb);clear BK101;clear HB;have HO104 := n0_;have BK101 := n1_;have HB := n2_;clear n0_ n1_ n2_;(try clear hb);(try clear hb2);(try clear hk);(try clear hi);(try clear ho0);obtain ⟨Ao11,co11,eo11⟩ := Kd.R_slice HO104.out;subst eo11));try go_wp2_with (first | ((with_reducible refine gate_dst (N := 1) rfl ?_);refine box_event ?hg (N := 1) ?hd (cs := #[.int .i64 a0_0,.int .i64 a0_1]) (t := 25) ?hr ?_;(case hd => rfl);(case hg => rfl);(case hr => first | (go_simp;done) | (go_simp;rfl));intro gb101 hg w8 hbox hb;have n0_ := aZ_ (below_step T7_ hb);have n1_ := aZ_ (hbox);have n2_ := aZ_ ((T4_ : w.heap.size ≤ gb101));have n3_ := aZ_ ((T4_ : w.heap.size ≤ gb101));clear HB;have HB := n0_;have BK101 := n1_;have GW101 := n2_;have GE101 := n3_;clear n0_ n1_ n2_ n3_;clear hb hbox hg;have hcz9_0 : w8.cell? ⟨gb101,0,none⟩ = some (.int .i64 a0_0) := (blk_cell BK101.out 0).trans rfl;have hcz9_1 : w8.cell? ⟨gb101,1,none⟩ = some (.int .i64 a0_1) := (blk_cell BK101.out 1).trans rfl;have hfz9_0 := blk_frozen BK101.out 0;have hfz9_1 := blk_frozen BK101.out 1) | (go_at_call 8;(with_reducible refine (spec_SpectrumOf.calls k a0_0 a0_1 t102 _ A2.out).mono ?_);rintro e w10 ⟨v103,rfl,ho0,hb⟩;have n0_ := aZ_ (Kd.R_lower ho0 (below_size T1_));have n1_ := aZ_ (blk_below (g := gb101) (o := .cells #[.int .i64 a0_0,.int .i64 a0_1] 25 (0,0)) T2_ hb);have n2_ := aZ_ (below_step T1_ hb);clear BK101;clear HB;have HO104 := n0_;have BK101 := n1_;have HB := n2_;clear n0_ n1_ n2_;(try clear hb);(try clear hb2);(try clear hk);(try clear hi);(try clear ho0);obtain ⟨Ao11,co11,eo11⟩ := Kd.R_slice HO104.out;subst eo11)))
  go_loopg [4,5] k (fun kq v4 v5 w' => ∃ (x4_1 : Int) (x5_1 : Int),v4 = .int .i64 x4_1 ∧ v5 = .int .i64 x5_1 ∧ Aside0 (spec_Nonlinearity.l0 kq t102 x4_1 x5_1 = some r) ∧ Aside0 (kq ≤ k) ∧ Aside0 (Kd.R (Kd.int .i64) 3 w' w.heap.size (fun _ => True) (.slice Ao11 t102.length co11) t102) ∧ Aside0 (w'.heap[gb101]? = some (.cells #[.int .i64 a0_0,.int .i64 a0_1] 25 (0,0))) ∧ Aside0 (Below w.heap.size w w'))
  case atStart => exact ⟨(0),(0),T6_,T6_,H',⟨Nat.le_refl _⟩,⟨by (with_reducible repeat (first | apply Kd.R_alloc | apply Kd.R_drewN | apply Kd.R_drew));exact HO104.out⟩,⟨by (with_reducible repeat (first | refine blk_drewN ?_ _ | refine blk_drew ?_ | refine blk_alloc ?_ _));exact BK101.out⟩,⟨by repeat (first | (with_reducible first | exact HB.out | apply below_alloc | apply pw_below_drewN | apply below_drew1 | refine below_set ?_ GE101.out) | exact HB.out)⟩⟩
  case round =>
   clear H'
   try clear c1
   try clear p2
   try clear c3
   try clear c3b0
   try clear c3b1
   try clear c3b2
   try clear c10
   try clear hcz5_0
   try clear hcz5_1
   try clear hcz9_0
   try clear hcz9_1
   try clear hfz5_0
   try clear hfz5_1
   try clear hfz9_0
   try clear hfz9_1
   obtain ⟨x4_1,x5_1,rfl,rfl,HA,HK1,HO_3,BK101,HB⟩ := hrel
   cases gk with
   | zero => exact absurd HA.out (by simp [spec_Nonlinearity.l0])
   | succ k1 =>
    have H := HA.out
    clear HA
    simp only [spec_Nonlinearity.l0] at H
    by_cases c12 : x5_1 < (t102.length : Int)
    ·rw [if_pos c12] at H
     have c12b0 : decide (x5_1 < (t102.length : Int)) = true := decide_eq_true c12
     clear c12
     by_cases c13 : 0 ≤ x5_1
     ·rw [if_pos c13] at H
      have c13b0 : decide (0 ≤ x5_1) = true := decide_eq_true c13
      clear c13
      obtain ⟨ji14,hji14⟩ : ∃ j_ : Int,(mx (rd t102 x5_1) (wrap64 (-(rd t102 x5_1)))) = j_ := ⟨_,rfl⟩
      replace H : (spec_Nonlinearity.l0 k1 t102 (mx x4_1 (ji14)) (wrap64 (x5_1 + 1))) = some r := by first | (rw [hji14] at H;exact H) | (simp only [hji14] at H ⊢;exact H)
      have hji14_ : (if (rd t102 x5_1) < (wrap64 (-(rd t102 x5_1))) then (wrap64 (-(rd t102 x5_1))) else (rd t102 x5_1)) = ji14 := hji14
      obtain ⟨ji15,hji15⟩ : ∃ j_ : Int,(mx x4_1 (ji14)) = j_ := ⟨_,rfl⟩
      replace H : (spec_Nonlinearity.l0 k1 t102 ji15 (wrap64 (x5_1 + 1))) = some r := by first | (rw [hji15] at H;exact H) | (simp only [hji15] at H ⊢;exact H)
      have hji15_ : (if x4_1 < (ji14) then (ji14) else x4_1) = ji15 := hji15
      have H' := aZ_ H
      clear H
      have p105 : 0 ≤ (x5_1 : Int) := of_decide_eq_true T10_
      have q105 : x5_1 < (t102.length : Int) := of_decide_eq_true T10_
      obtain ⟨ad105,e105,hx105_0⟩ := Kd.at_int (Kd.R_reads' HO_3.out).2.2 x5_1 p105 q105
      cases e105
      replace p105 := eq_true p105
      replace q105 := eq_true q105
      have p106 : 0 ≤ (x5_1 : Int) := of_decide_eq_true T10_
      have q106 : x5_1 < (t102.length : Int) := of_decide_eq_true T10_
      obtain ⟨ad106,e106,hx106_0⟩ := Kd.at_int (Kd.R_reads' HO_3.out).2.2 x5_1 p106 q106
      obtain rfl : ad105 = ad106 := (by injection e106)
      replace p106 := eq_true p106
      replace q106 := eq_true q106
      go_wp2
      repeat (go_quiet (fail);try go_wp2)
      go_roundg k1
      case measure => have := HK1.out;omega
      case rel => exact ⟨(ji15),(wrap64 (x5_1 + 1)),(by first | rfl | (simp;done) | (simp only [← hji15] <;> (first | rfl | simp)) | (simp [*];done)),T6_,H',⟨by have := HK1.out;omega⟩,⟨by (with_reducible repeat (first | apply Kd.R_alloc | apply Kd.R_drewN | apply Kd.R_drew));exact HO_3.out⟩,⟨by (with_reducible repeat (first | refine blk_drewN ?_ _ | refine blk_drew ?_ | refine blk_alloc ?_ _));exact BK101.out⟩,⟨by repeat (first | (with_reducible first | exact HB.out | apply below_alloc | apply pw_below_drewN | apply below_drew1 | refine below_set ?_ GE101.out) | exact HB.out)⟩⟩
     ·rw [if_neg c13] at H
      exact absurd H T42_
    ·rw [if_neg c12] at H
     have c12b0 : decide (x5_1 < (t102.length : Int)) = false := decide_eq_false c12
     clear c12
     obtain rfl := Option.some.inj H
     go_wp2
     repeat (go_quiet (fail);try go_wp2)
     go_ret
     exact ⟨by first | rfl | (simp [errW_none,errW_some] <;> rfl) | (simp [*,errW_none,errW_some] <;> rfl),by repeat (first | (with_reducible first | exact HB.out | apply below_alloc | apply pw_below_drewN | apply below_drew1 | refine below_set ?_ GE101.out) | exact HB.out)⟩
def impl_CorrelationImmunity.l0 : Nat → Int → List Int → Int → Int → Option (Int)
 | 0,_,_,_,_ => none
 | k + 1,x3,x12,x13,x14 => if x14 < x13 then (if 0 ≤ x14 then (if x14 < (x12.length : Int) then (if x14 > 0 then (if (rd x12 x14) = 0 then (impl_CorrelationImmunity.l0 k x3 x12 x13 (wrap64 (x14 + 1))) else ((impl_ones.f x14).bind fun t107 => (impl_CorrelationImmunity.l0 k (mn x3 (wrap64 (t107 - 1))) x12 x13 (wrap64 (x14 + 1))))) else (impl_CorrelationImmunity.l0 k x3 x12 x13 (wrap64 (x14 + 1)))) else (none)) else (none)) else (some x3)
def impl_CorrelationImmunity.f (k : Nat) (a0_0 : Int) (a0_1 : Int) : Option (Int) := (impl_IsTable.f a0_0 a0_1).bind fun t102 => (if t102 = true then ((impl_Table_spectrum.f k a0_0 a0_1).bind fun t103 => (impl_CorrelationImmunity.l0 k a0_0 t103 (t103.length : Int) 0)) else (some (-1)))
set_option maxHeartbeats 8000000 in
set_option maxRecDepth 100000 in
theorem impl_CorrelationImmunity.calls (k : Nat) (a0_0 : Int) (a0_1 : Int) (r : Int) (w : World) (h : impl_CorrelationImmunity.f k a0_0 a0_1 = some r) :
  Calls Try.prog 11 #[.agg #[.int .i64 a0_0,.int .i64 a0_1]] w fun e w' => e = .returned (.int .i64 r) ∧ Below w.heap.size w w' := by
 have hu25 := Try.underlying25
 have HB := aZ_ (Below.refl w.heap.size w)
 have H : ((impl_IsTable.f a0_0 a0_1).bind fun t102 => (if t102 = true then ((impl_Table_spectrum.f k a0_0 a0_1).bind fun t103 => (impl_CorrelationImmunity.l0 k a0_0 t103 (t103.length : Int) 0)) else (some (-1)))) = some r := h
 clear h
 replace H := Option.bind_eq_some_iff.mp H
 obtain ⟨t102,A20,H⟩ := H
 replace H : (if t102 = true then ((impl_Table_spectrum.f k a0_0 a0_1).bind fun t103 => (impl_CorrelationImmunity.l0 k a0_0 t103 (t103.length : Int) 0)) else (some (-1))) = some r := H
 have A2 := aZ_ A20
 clear A20
 by_cases c3 : t102 = true
 ·subst c3
  have H1 : ((impl_Table_spectrum.f k a0_0 a0_1).bind fun t103 => (impl_CorrelationImmunity.l0 k a0_0 t103 (t103.length : Int) 0)) = some r := by rw [if_pos rfl] at H;exact H
  clear H
  have H := H1
  clear H1
  replace H := Option.bind_eq_some_iff.mp H
  obtain ⟨t103,A40,H⟩ := H
  replace H : (impl_CorrelationImmunity.l0 k a0_0 t103 (t103.length : Int) 0) = some r := H
  have A4 := aZ_ A40
  clear A40
  have H' := aZ_ H
  clear H
  go_enter Try.func11,Try.ntmps11
  go_wp2_with (first | ((with_reducible refine gate_dst (N := 1) rfl ?_);refine box_event ?hg (N := 1) ?hd (cs := #[.int .i64 a0_0,.int .i64 a0_1]) (t := 25) ?hr ?_;(case hd => rfl);(case hg => rfl);(case hr => first | (go_simp;done) | (go_simp;rfl));intro gb101 hg w5 hbox hb;have n0_ := aZ_ (below_step T7_ hb);have n1_ := aZ_ (hbox);have n2_ := aZ_ ((T4_ : w.heap.size ≤ gb101));have n3_ := aZ_ ((T4_ : w.heap.size ≤ gb101));clear HB;have HB := n0_;have BK101 := n1_;have GW101 := n2_;have GE101 := n3_;clear n0_ n1_ n2_ n3_;clear hb hbox hg;have hcz6_0 : w5.cell? ⟨gb101,0,none⟩ = some (.int .i64 a0_0) := (blk_cell BK101.out 0).trans rfl;have hcz6_1 : w5.cell? ⟨gb101,1,none⟩ = some (.int .i64 a0_1) := (blk_cell BK101.out 1).trans rfl;have hfz6_0 := blk_frozen BK101.out 0;have hfz6_1 := blk_frozen BK101.out 1) | ((with_reducible refine gate_callee (f := 32) rfl ?_);refine goesL_ (some 7) rfl rfl Try.func32 T16_ rfl #[.agg #[.int .i64 a0_0,.int .i64 a0_1]] rfl T3_ ?_;(with_reducible refine (impl_IsTable.calls a0_0 a0_1 true _ A2.out).mono ?_);rintro e w7 ⟨rfl,hb⟩;refine ⟨_,rfl,?_⟩;have n0_ := aZ_ (blk_below (g := gb101) (o := .cells #[.int .i64 a0_0,.int .i64 a0_1] 25 (0,0)) T2_ hb);have n1_ := aZ_ (below_step T1_ hb);clear BK101;clear HB;have BK101 := n0_;have HB := n1_;clear n0_ n1_;(try clear hb);(try clear hb2);(try clear hk);(try clear hi);have hcz8_0 : w7.cell? ⟨gb101,0,none⟩ = some (.int .i64 a0_0) := (blk_cell BK101.out 0).trans rfl;have hcz8_1 : w7.cell? ⟨gb101,1,none⟩ = some (.int .i64 a0_1) := (blk_cell BK101.out 1).trans rfl;have hfz8_0 := blk_frozen BK101.out 0;have hfz8_1 := blk_frozen BK101.out 1) | ((with_reducible refine gate_callee (f := 33) rfl ?_);refine goesL_ (some 12) rfl rfl Try.func33 T16_ rfl #[.agg #[.int .i64 a0_0,.int .i64 a0_1]] rfl T3_ ?_;(with_reducible refine (impl_Table_spectrum.calls k a0_0 a0_1 t103 _ A4.out).mono ?_);rintro e w9 ⟨v104,rfl,ho0,hb⟩;refine ⟨_,rfl,?_⟩;have n0_ := aZ_ (Kd.R_lower ho0 (below_size T1_));have n1_ := aZ_ (blk_below (g := gb101) (o := .cells #[.int .i64 a0_0,.int .i64 a0_1] 25 (0,0)) T2_ hb);have n2_ := aZ_ (below_step T1_ hb);clear BK101;clear HB;have HO105 := n0_;have BK101 := n1_;have HB := n2_;clear n0_ n1_ n2_;(try clear hb);(try clear hb2);(try clear hk);(try clear hi);(try clear ho0);obtain ⟨Ao10,co10,eo10⟩ := Kd.R_slice HO105.out;subst eo10))
  go_loopg [3,14] k (fun kq v3 v14 w' => ∃ (x3_1 : Int) (x14_1 : Int),v3 = .int .i64 x3_1 ∧ v14 = .int .i64 x14_1 ∧ Aside0 (impl_CorrelationImmunity.l0 kq x3_1 t103 (t103.length : Int) x14_1 = some r) ∧ Aside0 (kq ≤ k) ∧ Aside0 (Kd.R (Kd.int .i64) 3 w' w.heap.size (fun _ => True) (.slice Ao10 t103.length co10) t103) ∧ Aside0 (w'.heap[gb101]? = some (.cells #[.int .i64 a0_0,.int .i64 a0_1] 25 (0,0))) ∧ Aside0 (Below w.heap.size w w'))
  case atStart => exact ⟨(a0_0),(0),T6_,T6_,H',⟨Nat.le_refl _⟩,⟨by (with_reducible repeat (first | apply Kd.R_alloc | apply Kd.R_drewN | apply Kd.R_drew));exact HO105.out⟩,⟨by (with_reducible repeat (first | refine blk_drewN ?_ _ | refine blk_drew ?_ | refine blk_alloc ?_ _));exact BK101.out⟩,⟨by repeat (first | (with_reducible first | exact HB.out | apply below_alloc | apply pw_below_drewN | apply below_drew1 | refine below_set ?_ GE101.out) | exact HB.out)⟩⟩
  case round =>
   clear H'
   try clear c1
   try clear p2
   try clear c3
   try clear hcz6_0
   try clear hcz6_1
   try clear hcz8_0
   try clear hcz8_1
   try clear hfz6_0
   try clear hfz6_1
   try clear hfz8_0
   try clear hfz8_1
   obtain ⟨x3_1,x14_1,rfl,rfl,HA,HK1,HO_12,BK101,HB⟩ := hrel
   cases gk with
   | zero => exact absurd HA.out (by simp [impl_CorrelationImmunity.l0])
   | succ k1 =>
    have H := HA.out
    clear HA
    simp only [impl_CorrelationImmunity.l0] at H
    by_cases c11 : x14_1 < (t103.length : Int)
    ·rw [if_pos c11] at H
     have c11b0 : decide (x14_1 < (t103.length : Int)) = true := decide_eq_true c11
     clear c11
     by_cases c12 : 0 ≤ x14_1
     ·rw [if_pos c12] at H
      have c12b0 : decide (0 ≤ x14_1) = true := decide_eq_true c12
      clear c12
      by_cases c13 : x14_1 < (t103.length : Int)
      ·rw [if_pos c13] at H
       have c13b0 : decide (x14_1 < (t103.length : Int)) = true := decide_eq_true c13
       clear c13
       by_cases c14 : x14_1 > 0
       ·rw [if_pos c14] at H
        have c14b0 : decide (0 < x14_1) = true := decide_eq_true c14
        clear c14
        by_cases c15 : (rd t103 x14_1) = 0
        ·rw [if_pos c15] at H
         have c15b0 : ((rd t103 x14_1) == 0) = true := beq_iff_eq.mpr c15
         have c15b1 : ((rd t103 x14_1) != 0) = false := bne_eq_false_iff_eq.mpr c15
         clear c15
         have H' := aZ_ H
         clear H
         have p106 : 0 ≤ (x14_1 : Int) := of_decide_eq_true T10_
         have q106 : x14_1 < (t103.length : Int) := of_decide_eq_true T10_
         obtain ⟨ad106,e106,hx106_0⟩ := Kd.at_int (Kd.R_reads' HO_12.out).2.2 x14_1 p106 q106
         cases e106
         replace p106 := eq_true p106
         replace q106 := eq_true q106
         go_wp2
         go_roundg k1
         case measure => have := HK1.out;omega
         case rel => exact ⟨(x3_1),(wrap64 (x14_1 + 1)),T6_,T6_,H',⟨by have := HK1.out;omega⟩,⟨by (with_reducible repeat (first | apply Kd.R_alloc | apply Kd.R_drewN | apply Kd.R_drew));exact HO_12.out⟩,⟨by (with_reducible repeat (first | refine blk_drewN ?_ _ | refine blk_drew ?_ | refine blk_alloc ?_ _));exact BK101.out⟩,⟨by repeat (first | (with_reducible first | exact HB.out | apply below_alloc | apply pw_below_drewN | apply below_drew1 | refine below_set ?_ GE101.out) | exact HB.out)⟩⟩
        ·rw [if_neg c15] at H
         have c15b0 : ((rd t103 x14_1) == 0) = false := beq_eq_false_iff_ne.mpr c15
         have c15b1 : ((rd t103 x14_1) != 0) = true := bne_iff_ne.mpr c15
         replace H := Option.bind_eq_some_iff.mp H
         obtain ⟨t107,A160,H⟩ := H
         replace H : (impl_CorrelationImmunity.l0 k1 (mn x3_1 (wrap64 (t107 - 1))) t103 (t103.length : Int) (wrap64 (x14_1 + 1))) = some r := H
         have A16 := aZ_ A160
         clear A160
         obtain ⟨ji17,hji17⟩ : ∃ j_ : Int,(mn x3_1 (wrap64 (t107 - 1))) = j_ := ⟨_,rfl⟩
         replace H : (impl_CorrelationImmunity.l0 k1 ji17 t103 (t103.length : Int) (wrap64 (x14_1 + 1))) = some r := by first | (rw [hji17] at H;exact H) | (simp only [hji17] at H ⊢;exact H)
         (try rw [hji17] at A16)
         have hji17_ : (if (wrap64 (t107 - 1)) < x3_1 then (wrap64 (t107 - 1)) else x3_1) = ji17 := hji17
         have H' := aZ_ H
         clear H
         have p106 : 0 ≤ (x14_1 : Int) := of_decide_eq_true T10_
         have q106 : x14_1 < (t103.length : Int) := of_decide_eq_true T10_
         obtain ⟨ad106,e106,hx106_0⟩ := Kd.at_int (Kd.R_reads' HO_12.out).2.2 x14_1 p106 q106
         cases e106
         replace p106 := eq_true p106
         replace q106 := eq_true q106
         go_wp2_with (first | ((with_reducible refine gate_callee (f := 38) rfl ?_);refine goesL_ (some 27) rfl rfl Try.func38 T16_ rfl #[.int .i64 x14_1] rfl T3_ ?_;(with_reducible refine (impl_ones.calls x14_1 t107 _ A16.out).mono ?_);rintro e w' ⟨rfl,⟨nd,rfl⟩⟩;refine ⟨_,rfl,?_⟩))
         go_roundg k1
         case measure => have := HK1.out;omega
         case rel => exact ⟨(ji17),(wrap64 (x14_1 + 1)),(by first | rfl | (simp;done) | (simp only [← hji17] <;> (first | rfl | simp)) | (simp [*];done)),T6_,H',⟨by have := HK1.out;omega⟩,⟨by (with_reducible repeat (first | apply Kd.R_alloc | apply Kd.R_drewN | apply Kd.R_drew));exact HO_12.out⟩,⟨by (with_reducible repeat (first | refine blk_drewN ?_ _ | refine blk_drew ?_ | refine blk_alloc ?_ _));exact BK101.out⟩,⟨by repeat (first | (with_reducible first | exact HB.out | apply below_alloc | apply pw_below_drewN | apply below_drew1 | refine below_set ?_ GE101.out) | exact HB.out)⟩⟩
       ·rw [if_neg c14] at H
        have c14b0 : decide (0 < x14_1) = false := decide_eq_false c14
        clear c14
        have H' := aZ_ H
        clear H
        have p106 : 0 ≤ (x14_1 : Int) := of_decide_eq_true T10_
        have q106 : x14_1 < (t103.length : Int) := of_decide_eq_true T10_
        obtain ⟨ad106,e106,hx106_0⟩ := Kd.at_int (Kd.R_reads' HO_12.out).2.2 x14_1 p106 q106
        cases e106
        replace p106 := eq_true p106
        replace q106 := eq_true q106
        go_wp2
        go_roundg k1
        case measure => have := HK1.out;omega
        case rel => exact ⟨(x3_1),(wrap64 (x14_1 + 1)),T6_,T6_,H',⟨by have := HK1.out;omega⟩,⟨by (with_reducible repeat (first | apply Kd.R_alloc | apply Kd.R_drewN | apply Kd.R_drew));exact HO_12.out⟩,⟨by (with_reducible repeat (first | refine blk_drewN ?_ _ | refine blk_drew ?_ | refine blk_alloc ?_ _));exact BK101.out⟩,⟨by repeat (first | (with_reducible first | exact HB.out | apply below_alloc | apply pw_below_drewN | apply below_drew1 | refine below_set ?_ GE101.out) | exact HB.out)⟩⟩
      ·rw [if_neg c13] at H
       exact absurd H T42_
     ·rw [if_neg c12] at H
      exact absurd H T42_
    ·rw [if_neg c11] at H
     have c11b0 : decide (x14_1 < (t103.length : Int)) = false := decide_eq_false c11
     clear c11
     obtain rfl := Option.some.inj H
     go_wp2
     go_ret
     exact ⟨by first | rfl | (simp [errW_none,errW_some] <;> rfl) | (simp [*,errW_none,errW_some] <;> rfl),by repeat (first | (with_reducible first | exact HB.out | apply below_alloc | apply pw_below_drewN | apply below_drew1 | refine below_set ?_ GE101.out) | exact HB.out)⟩
 ·replace c3 := Bool.eq_false_iff.mpr c3
  subst c3
  have H1 : (some (-1)) = some r := by rw [if_neg (show ¬ (false = true) by decide)] at H;exact H
  clear H
  have H := H1
  clear H1
  obtain rfl := Option.some.inj H
  go_enter Try.func11,Try.ntmps11
  go_wp2_with (first | ((with_reducible refine gate_dst (N := 1) rfl ?_);refine box_event ?hg (N := 1) ?hd (cs := #[.int .i64 a0_0,.int .i64 a0_1]) (t := 25) ?hr ?_;(case hd => rfl);(case hg => rfl);(case hr => first | (go_simp;done) | (go_simp;rfl));intro gb101 hg w18 hbox hb;have n0_ := aZ_ (below_step T7_ hb);have n1_ := aZ_ (hbox);have n2_ := aZ_ ((T4_ : w.heap.size ≤ gb101));have n3_ := aZ_ ((T4_ : w.heap.size ≤ gb101));clear HB;have HB := n0_;have BK101 := n1_;have GW101 := n2_;have GE101 := n3_;clear n0_ n1_ n2_ n3_;clear hb hbox hg;have hcz19_0 : w18.cell? ⟨gb101,0,none⟩ = some (.int .i64 a0_0) := (blk_cell BK101.out 0).trans rfl;have hcz19_1 : w18.cell? ⟨gb101,1,none⟩ = some (.int .i64 a0_1) := (blk_cell BK101.out 1).trans rfl;have hfz19_0 := blk_frozen BK101.out 0;have hfz19_1 := blk_frozen BK101.out 1) | ((with_reducible refine gate_callee (f := 32) rfl ?_);refine goesL_ (some 7) rfl rfl Try.func32 T16_ rfl #[.agg #[.int .i64 a0_0,.int .i64 a0_1]] rfl T3_ ?_;(with_reducible refine (impl_IsTable.calls a0_0 a0_1 false _ A2.out).mono ?_);rintro e w20 ⟨rfl,hb⟩;refine ⟨_,rfl,?_⟩;have n0_ := aZ_ (blk_below (g := gb101) (o := .cells #[.int .i64 a0_0,.int .i64 a0_1] 25 (0,0)) T2_ hb);have n1_ := aZ_ (below_step T1_ hb);clear BK101;clear HB;have BK101 := n0_;have HB := n1_;clear n0_ n1_;(try clear hb);(try clear hb2);(try clear hk);(try clear hi)))
  go_ret
  exact ⟨by first | rfl | (simp [errW_none,errW_some] <;> rfl) | (simp [*,errW_none,errW_some] <;> rfl),by repeat (first | (with_reducible first | exact HB.out | apply below_alloc | apply pw_below_drewN | apply below_drew1 | refine below_set ?_ GE101.out) | exact HB.out)⟩
def spec_CorrelationImmunity.l0 : Nat → List Int → Int → Int → Option (Int)
 | 0,_,_,_ => none
 | k + 1,x3,x4,x5 => if x5 < (x3.length : Int) then (if 0 ≤ x5 then (if (rd x3 x5) = 0 then (spec_CorrelationImmunity.l0 k x3 x4 (wrap64 (x5 + 1))) else ((spec_l2Count.f k x5).bind fun t106 => (spec_CorrelationImmunity.l0 k x3 (mn x4 (wrap64 (t106 - 1))) (wrap64 (x5 + 1))))) else (none)) else (some x4)
def spec_CorrelationImmunity.f (k : Nat) (a0_0 : Int) (a0_1 : Int) : Option (Int) := (spec_SpectrumOf.f k a0_0 a0_1).bind fun t102 => (if (t102.length : Int) = 0 then (some (-1)) else (spec_CorrelationImmunity.l0 k t102 a0_0 1))
set_option maxHeartbeats 8000000 in
set_option maxRecDepth 100000 in
theorem spec_CorrelationImmunity.calls (k : Nat) (a0_0 : Int) (a0_1 : Int) (r : Int) (w : World) (h : spec_CorrelationImmunity.f k a0_0 a0_1 = some r) :
  Calls Try.prog 12 #[.agg #[.int .i64 a0_0,.int .i64 a0_1]] w fun e w' => e = .returned (.int .i64 r) ∧ Below w.heap.size w w' := by
 have hu25 := Try.underlying25
 have HB := aZ_ (Below.refl w.heap.size w)
 have H : ((spec_SpectrumOf.f k a0_0 a0_1).bind fun t102 => (if (t102.length : Int) = 0 then (some (-1)) else (spec_CorrelationImmunity.l0 k t102 a0_0 1))) = some r := h
 clear h
 replace H := Option.bind_eq_some_iff.mp H
 obtain ⟨t102,A20,H⟩ := H
 replace H : (if (t102.length : Int) = 0 then (some (-1)) else (spec_CorrelationImmunity.l0 k t102 a0_0 1)) = some r := H
 have A2 := aZ_ A20
 clear A20
 by_cases c3 : (t102.length : Int) = 0
 ·rw [if_pos c3] at H
  have c3b0 : ((t102.length : Int) == 0) = true := beq_iff_eq.mpr c3
  have c3b1 : ((t102.length : Int) != 0) = false := bne_eq_false_iff_eq.mpr c3
  clear c3
  obtain rfl := Option.some.inj H
  go_enter Try.func12,Try.ntmps12
  go_wp2_with (first | ((with_reducible refine gate_dst (N := 1) rfl ?_);refine box_event ?hg (N := 1) ?hd (cs := #[.int .i64 a0_0,.int .i64 a0_1]) (t := 25) ?hr ?_;(case hd => rfl);(case hg => rfl);(case hr => first | (go_simp;done) | (go_simp;rfl));intro gb101 hg w4 hbox hb;have n0_ := aZ_ (below_step T7_ hb);have n1_ := aZ_ (hbox);have n2_ := aZ_ ((T4_ : w.heap.size ≤ gb101));have n3_ := aZ_ ((T4_ : w.heap.size ≤ gb101));clear HB;have HB := n0_;have BK101 := n1_;have GW101 := n2_;have GE101 := n3_;clear n0_ n1_ n2_ n3_;clear hb hbox hg;have hcz5_0 : w4.cell? ⟨gb101,0,none⟩ = some (.int .i64 a0_0) := (blk_cell BK101.out 0).trans rfl;have hcz5_1 : w4.cell? ⟨gb101,1,none⟩ = some (.int .i64 a0_1) := (blk_cell BK101.out 1).trans rfl;have hfz5_0 := blk_frozen BK101.out 0;have hfz5_1 := blk_frozen BK101.out 1) | ((with_reducible refine gate_callee (f := 8) rfl ?_);refine goesL_ (some 7) rfl rfl Try.func8 T16_ rfl #[.agg #[.int .i64 a0_0,.int .i64 a0_1]] rfl T3_ ?_;(with_reducible refine (spec_SpectrumOf.calls k a0_0 a0_1 t102 _ A2.out).mono ?_);rintro e w6 ⟨v103,rfl,ho0,hb⟩;refine ⟨_,rfl,?_⟩;have n0_ := aZ_ (Kd.R_lower ho0 (below_size T1_));have n1_ := aZ_ (blk_below (g := gb101) (o := .cells #[.int .i64 a0_0,.int .i64 a0_1] 25 (0,0)) T2_ hb);have n2_ := aZ_ (below_step T1_ hb);clear BK101;clear HB;have HO104 := n0_;have BK101 := n1_;have HB := n2_;clear n0_ n1_ n2_;(try clear hb);(try clear hb2);(try clear hk);(try clear hi);(try clear ho0);obtain ⟨Ao7,co7,eo7⟩ := Kd.R_slice HO104.out;subst eo7))
  go_ret
  exact ⟨by first | rfl | (simp [errW_none,errW_some] <;> rfl) | (simp [*,errW_none,errW_some] <;> rfl),by repeat (first | (with_reducible first | exact HB.out | apply below_alloc | apply pw_below_drewN | apply below_drew1 | refine below_set ?_ GE101.out) | exact HB.out)⟩
 ·rw [if_neg c3] at H
  have c3b0 : ((t102.length : Int) == 0) = false := beq_eq_false_iff_ne.mpr c3
  have c3b1 : ((t102.length : Int) != 0) = true := bne_iff_ne.mpr c3
  have c3b2 : ¬ (t102 = []) := fun h_ => c3 (by rw [h_];rfl)
  have H' := aZ_ H
  clear H
  go_enter Try.func12,Try.ntmps12
  go_wp2_with (first | ((with_reducible refine gate_dst (N := 1) rfl ?_);refine box_event ?hg (N := 1) ?hd (cs := #[.int .i64 a0_0,.int .i64 a0_1]) (t := 25) ?hr ?_;(case hd => rfl);(case hg => rfl);(case hr => first | (go_simp;done) | (go_simp;rfl));intro gb101 hg w8 hbox hb;have n0_ := aZ_ (below_step T7_ hb);have n1_ := aZ_ (hbox);have n2_ := aZ_ ((T4_ : w.heap.size ≤ gb101));have n3_ := aZ_ ((T4_ : w.heap.size ≤ gb101));clear HB;have HB := n0_;have BK101 := n1_;have GW101 := n2_;have GE101 := n3_;clear n0_ n1_ n2_ n3_;clear hb hbox hg;have hcz9_0 : w8.cell? ⟨gb101,0,none⟩ = some (.int .i64 a0_0) := (blk_cell BK101.out 0).trans rfl;have hcz9_1 : w8.cell? ⟨gb101,1,none⟩ = some (.int .i64 a0_1) := (blk_cell BK101.out 1).trans rfl;have hfz9_0 := blk_frozen BK101.out 0;have hfz9_1 := blk_frozen BK101.out 1) | ((with_reducible refine gate_callee (f := 8) rfl ?_);refine goesL_ (some 7) rfl rfl Try.func8 T16_ rfl #[.agg #[.int .i64 a0_0,.int .i64 a0_1]] rfl T3_ ?_;(with_reducible refine (spec_SpectrumOf.calls k a0_0 a0_1 t102 _ A2.out).mono ?_);rintro e w10 ⟨v103,rfl,ho0,hb⟩;refine ⟨_,rfl,?_⟩;have n0_ := aZ_ (Kd.R_lower ho0 (below_size T1_));have n1_ := aZ_ (blk_below (g := gb101) (o := .cells #[.int .i64 a0_0,.int .i64 a0_1] 25 (0,0)) T2_ hb);have n2_ := aZ_ (below_step T1_ hb);clear BK101;clear HB;have HO104 := n0_;have BK101 := n1_;have HB := n2_;clear n0_ n1_ n2_;(try clear hb);(try clear hb2);(try clear hk);(try clear hi);(try clear ho0);obtain ⟨Ao11,co11,eo11⟩ := Kd.R_slice HO104.out;subst eo11;have hcz12_0 : w10.cell? ⟨gb101,0,none⟩ = some (.int .i64 a0_0) := (blk_cell BK101.out 0).trans rfl;have hcz12_1 : w10.cell? ⟨gb101,1,none⟩ = some (.int .i64 a0_1) := (blk_cell BK101.out 1).trans rfl;have hfz12_0 := blk_frozen BK101.out 0;have hfz12_1 := blk_frozen BK101.out 1))
  go_loopg [4,5] k (fun kq v4 v5 w' => ∃ (x4_1 : Int) (x5_1 : Int),v4 = .int .i64 x4_1 ∧ v5 = .int .i64 x5_1 ∧ Aside0 (spec_CorrelationImmunity.l0 kq t102 x4_1 x5_1 = some r) ∧ Aside0 (kq ≤ k) ∧ Aside0 (Kd.R (Kd.int .i64) 3 w' w.heap.size (fun _ => True) (.slice Ao11 t102.length co11) t102) ∧ Aside0 (w'.heap[gb101]? = some (.cells #[.int .i64 a0_0,.int .i64 a0_1] 25 (0,0))) ∧ Aside0 (Below w.heap.size w w'))
  case atStart => exact ⟨(a0_0),(1),T6_,T6_,H',⟨Nat.le_refl _⟩,⟨by (with_reducible repeat (first | apply Kd.R_alloc | apply Kd.R_drewN | apply Kd.R_drew));exact HO104.out⟩,⟨by (with_reducible repeat (first | refine blk_drewN ?_ _ | refine blk_drew ?_ | refine blk_alloc ?_ _));exact BK101.out⟩,⟨by repeat (first | (with_reducible first | exact HB.out | apply below_alloc | apply pw_below_drewN | apply below_drew1 | refine below_set ?_ GE101.out) | exact HB.out)⟩⟩
  case round =>
   clear H'
   try clear c1
   try clear p2
   try clear c3
   try clear c3b0
   try clear c3b1
   try clear c3b2
   try clear c8
   try clear c12
   try clear hcz12_0
   try clear hcz12_1
   try clear hcz5_0
   try clear hcz5_1
   try clear hcz9_0
   try clear hcz9_1
   try clear hfz12_0
   try clear hfz12_1
   try clear hfz5_0
   try clear hfz5_1
   try clear hfz9_0
   try clear hfz9_1
   obtain ⟨x4_1,x5_1,rfl,rfl,HA,HK1,HO_3,BK101,HB⟩ := hrel
   cases gk with
   | zero => exact absurd HA.out (by simp [spec_CorrelationImmunity.l0])
   | succ k1 =>
    have H := HA.out
    clear HA
    simp only [spec_CorrelationImmunity.l0] at H
    by_cases c13 : x5_1 < (t102.length : Int)
    ·rw [if_pos c13] at H
     have c13b0 : decide (x5_1 < (t102.length : Int)) = true := decide_eq_true c13
     clear c13
     by_cases c14 : 0 ≤ x5_1
     ·rw [if_pos c14] at H
      have c14b0 : decide (0 ≤ x5_1) = true := decide_eq_true c14
      clear c14
      by_cases c15 : (rd t102 x5_1) = 0
      ·rw [if_pos c15] at H
       have c15b0 : ((rd t102 x5_1) == 0) = true := beq_iff_eq.mpr c15
       have c15b1 : ((rd t102 x5_1) != 0) = false := bne_eq_false_iff_eq.mpr c15
       clear c15
       have H' := aZ_ H
       clear H
       have p105 : 0 ≤ (x5_1 : Int) := of_decide_eq_true T10_
       have q105 : x5_1 < (t102.length : Int) := of_decide_eq_true T10_
       obtain ⟨ad105,e105,hx105_0⟩ := Kd.at_int (Kd.R_reads' HO_3.out).2.2 x5_1 p105 q105
       cases e105
       replace p105 := eq_true p105
       replace q105 := eq_true q105
       go_wp2
       go_roundg k1
       case measure => have := HK1.out;omega
       case rel => exact ⟨(x4_1),(wrap64 (x5_1 + 1)),T6_,T6_,H',⟨by have := HK1.out;omega⟩,⟨by (with_reducible repeat (first | apply Kd.R_alloc | apply Kd.R_drewN | apply Kd.R_drew));exact HO_3.out⟩,⟨by (with_reducible repeat (first | refine blk_drewN ?_ _ | refine blk_drew ?_ | refine blk_alloc ?_ _));exact BK101.out⟩,⟨by repeat (first | (with_reducible first | exact HB.out | apply below_alloc | apply pw_below_drewN | apply below_drew1 | refine below_set ?_ GE101.out) | exact HB.out)⟩⟩
      ·rw [if_neg c15] at H
       have c15b0 : ((rd t102 x5_1) == 0) = false := beq_eq_false_iff_ne.mpr c15
       have c15b1 : ((rd t102 x5_1) != 0) = true := bne_iff_ne.mpr c15
       replace H := Option.bind_eq_some_iff.mp H
       obtain ⟨t106,A160,H⟩ := H
       replace H : (spec_CorrelationImmunity.l0 k1 t102 (mn x4_1 (wrap64 (t106 - 1))) (wrap64 (x5_1 + 1))) = some r := H
       have A16 := aZ_ A160
       clear A160
       obtain ⟨ji17,hji17⟩ : ∃ j_ : Int,(mn x4_1 (wrap64 (t106 - 1))) = j_ := ⟨_,rfl⟩
       replace H : (spec_CorrelationImmunity.l0 k1 t102 ji17 (wrap64 (x5_1 + 1))) = some r := by first | (rw [hji17] at H;exact H) | (simp only [hji17] at H ⊢;exact H)
       (try rw [hji17] at A16)
       have hji17_ : (if (wrap64 (t106 - 1)) < x4_1 then (wrap64 (t106 - 1)) else x4_1) = ji17 := hji17
       have H' := aZ_ H
       clear H
       have p105 : 0 ≤ (x5_1 : Int) := of_decide_eq_true T10_
       have q105 : x5_1 < (t102.length : Int) := of_decide_eq_true T10_
       obtain ⟨ad105,e105,hx105_0⟩ := Kd.at_int (Kd.R_reads' HO_3.out).2.2 x5_1 p105 q105
       cases e105
       replace p105 := eq_true p105
       replace q105 := eq_true q105
       go_wp2_with (first | ((with_reducible refine gate_callee (f := 39) rfl ?_);refine goesL_ (some 26) rfl rfl Try.func39 T16_ rfl #[.int .i64 x5_1] rfl T3_ ?_;(with_reducible refine (spec_l2Count.calls k1 x5_1 t106 _ A16.out).mono ?_);rintro e w' ⟨rfl,⟨nd,rfl⟩⟩;refine ⟨_,rfl,?_⟩))
       go_roundg k1
       case measure => have := HK1.out;omega
       case rel => exact ⟨(ji17),(wrap64 (x5_1 + 1)),(by first | rfl | (simp;done) | (simp only [← hji17] <;> (first | rfl | simp)) | (simp [*];done)),T6_,H',⟨by have := HK1.out;omega⟩,⟨by (with_reducible repeat (first | apply Kd.R_alloc | apply Kd.R_drewN | apply Kd.R_drew));exact HO_3.out⟩,⟨by (with_reducible repeat (first | refine blk_drewN ?_ _ | refine blk_drew ?_ | refine blk_alloc ?_ _));exact BK101.out⟩,⟨by repeat (first | (with_reducible first | exact HB.out | apply below_alloc | apply pw_below_drewN | apply below_drew1 | refine below_set ?_ GE101.out) | exact HB.out)⟩⟩
     ·rw [if_neg c14] at H
      exact absurd H T42_
    ·rw [if_neg c13] at H
     have c13b0 : decide (x5_1 < (t102.length : Int)) = false := decide_eq_false c13
     clear c13
     obtain rfl := Option.some.inj H
     go_wp2
     go_ret
     exact ⟨by first | rfl | (simp [errW_none,errW_some] <;> rfl) | (simp [*,errW_none,errW_some] <;> rfl),by repeat (first | (with_reducible first | exact HB.out | apply below_alloc | apply pw_below_drewN | apply below_drew1 | refine below_set ?_ GE101.out) | exact HB.out)⟩
def impl_bitsOf.l0 : Nat → Int → Int → Option (Int × Bool)
 | 0,_,_ => none
 | k + 1,x0,x5 => if x5 < 6 then (if 0 ≤ x5 then (if x0 = (shl .i64 1 x5) then (some (x5,true)) else (impl_bitsOf.l0 k x0 (wrap64 (x5 + 1)))) else (none)) else (some (0,false))
def impl_bitsOf.f (k : Nat) (a0 : Int) : Option (Int × Bool) := impl_bitsOf.l0 k a0 0
set_option maxHeartbeats 8000000 in
set_option maxRecDepth 100000 in
theorem impl_bitsOf.calls (k : Nat) (a0 : Int) (r1 : Int) (r2 : Bool) (w : World) (h : impl_bitsOf.f k a0 = some (r1,r2)) :
  Calls Try.prog 40 #[.int .i64 a0] w fun e w' => e = .returned (.tuple #[.int .i64 r1,.bool r2]) ∧ Drawn0 w w' := by
 have H : (impl_bitsOf.l0 k a0 0) = some (r1,r2) := h
 clear h
 have H' := aZ_ H
 clear H
 go_enter Try.func40,Try.ntmps40
 go_wp2
 go_loopg [5] k (fun kq v5 w' => ∃ (x5_1 : Int),v5 = .int .i64 x5_1 ∧ Aside0 (impl_bitsOf.l0 kq a0 x5_1 = some (r1,r2)) ∧ Aside0 (kq ≤ k) ∧ Drawn0 w w')
 case atStart => exact ⟨(0),T6_,H',⟨Nat.le_refl _⟩,by repeat (first | exact Drawn0.refl _ | apply Drawn0.step)⟩
 case round =>
  clear H'
  obtain ⟨x5_1,rfl,HA,HK1,⟨m1,rfl⟩⟩ := hrel
  cases gk with
  | zero => exact absurd HA.out (by simp [impl_bitsOf.l0])
  | succ k1 =>
   have H := HA.out
   clear HA
   simp only [impl_bitsOf.l0] at H
   by_cases c2 : x5_1 < 6
   ·rw [if_pos c2] at H
    have c2b0 : decide (x5_1 < 6) = true := decide_eq_true c2
    clear c2
    by_cases c3 : 0 ≤ x5_1
    ·rw [if_pos c3] at H
     have c3b0 := eq_true c3
     have c3b1 : decide (0 ≤ x5_1) = true := decide_eq_true c3
     clear c3
     obtain ⟨ji4,hji4⟩ : ∃ j_ : Int,(shl .i64 1 x5_1) = j_ := ⟨_,rfl⟩
     replace H : (if a0 = (ji4) then (some (x5_1,true)) else (impl_bitsOf.l0 k1 a0 (wrap64 (x5_1 + 1)))) = some (r1,r2) := by first | (rw [hji4] at H;exact H) | (simp only [hji4] at H ⊢;exact H)
     have hji4_ : (IntKind.i64.wrap (1 * 2 ^ min x5_1.toNat 64)) = ji4 := hji4
     have hji4z : x5_1 ≤ 64 → (IntKind.i64.wrap (1 * 2 ^ x5_1.toNat)) = ji4 := shl_small hji4
     have hji4u : (IntKind.i64.wrap (2 ^ min x5_1.toNat 64)) = ji4 := by have h_ := hji4_;rw [Int.one_mul] at h_;exact h_
     have hji4v : x5_1 ≤ 64 → (IntKind.i64.wrap (2 ^ x5_1.toNat)) = ji4 := fun hle_ => by have h_ := hji4z hle_;rw [Int.one_mul] at h_;exact h_
     have hji4y : (wrap64 (1 * 2 ^ min x5_1.toNat 64)) = ji4 := (i64_w _).symm.trans hji4_
     have hji4x : x5_1 ≤ 64 → (wrap64 (1 * 2 ^ x5_1.toNat)) = ji4 := fun h_ => (i64_w _).symm.trans (hji4z h_)
     by_cases c5 : a0 = (ji4)
     ·rw [if_pos c5] at H
      have c5b0 : (a0 == (ji4)) = true := beq_iff_eq.mpr c5
      have c5b1 : (a0 != (ji4)) = false := bne_eq_false_iff_eq.mpr c5
      clear c5
      simp only [Option.some.injEq,Prod.mk.injEq] at H
      obtain ⟨rfl,rfl⟩ := H
      go_wp2
      go_ret2
      exact ⟨by first | rfl | (simp;done) | (simp only [← hji4] <;> (first | rfl | simp)) | (simp [*];done),by repeat (first | exact Drawn0.refl _ | apply Drawn0.step)⟩
     ·rw [if_neg c5] at H
      have c5b0 : (a0 == (ji4)) = false := beq_eq_false_iff_ne.mpr c5
      have c5b1 : (a0 != (ji4)) = true := bne_iff_ne.mpr c5
      have H' := aZ_ H
      clear H
      go_wp2
      go_roundg k1
      case measure => have := HK1.out;omega
      case rel => exact ⟨(wrap64 (x5_1 + 1)),T6_,H',⟨by have := HK1.out;omega⟩,by repeat (first | exact Drawn0.refl _ | apply Drawn0.step)⟩
    ·rw [if_neg c3] at H
     exact absurd H T42_
   ·rw [if_neg c2] at H
    have c2b0 : decide (x5_1 < 6) = false := decide_eq_false c2
    clear c2
    simp only [Option.some.injEq,Prod.mk.injEq] at H
    obtain ⟨rfl,rfl⟩ := H
    go_wp2
    go_ret2
    exact ⟨by first | rfl | (simp;done) | (simp [*];done),by repeat (first | exact Drawn0.refl _ | apply Drawn0.step)⟩
mutual
def impl_TableOfSpectrum.l0 : Nat → List Int → Int → Int → Int → Int → Option (Int × Int × Bool)
 | 0,_,_,_,_,_ => none
 | k + 1,x0,x23,x24,x105000,x105001 => if x24 < x23 then (impl_TableOfSpectrum.l1 k x0 x24 0 x23 x24 x0 (x0.length : Int) 0 x105000 x105001) else (some (x105000,x105001,true))
def impl_TableOfSpectrum.l1 : Nat → List Int → Int → Int → Int → Int → List Int → Int → Int → Int → Int → Option (Int × Int × Bool)
 | 0,_,_,_,_,_,_,_,_,_,_ => none
 | k + 1,x0,x7,x8,x23,x24,x27,x28,x29,x105000,x105001 => if x29 < x28 then (if 0 ≤ x29 then (if x29 < (x27.length : Int) then (if (rd x27 x29) < (wrap64 (-(x0.length : Int))) then (impl_TableOfSpectrum.j2 k x0 x7 x8 x29 (rd x27 x29) x23 x24 x27 x28 x29 true x105000 x105001) else (impl_TableOfSpectrum.j2 k x0 x7 x8 x29 (rd x27 x29) x23 x24 x27 x28 x29 (decide ((rd x27 x29) > (x0.length : Int))) x105000 x105001)) else (none)) else (none)) else (if x8 = (x0.length : Int) then (impl_TableOfSpectrum.l0 k x0 x23 (wrap64 (x24 + 1)) x105000 x105001) else (if x8 = (wrap64 (-(x0.length : Int))) then (if 0 ≤ x7 then (impl_TableOfSpectrum.l0 k x0 x23 (wrap64 (x24 + 1)) x105000 (Go.bits .or .i64 x105001 (shl .i64 1 x7))) else (none)) else (some (0,0,false))))
def impl_TableOfSpectrum.j2 : Nat → List Int → Int → Int → Int → Int → Int → Int → List Int → Int → Int → Bool → Int → Int → Option (Int × Int × Bool)
 | 0,_,_,_,_,_,_,_,_,_,_,_,_,_ => none
 | k + 1,x0,x7,x8,x9,x10,x23,x24,x27,x28,x29,x44,x105000,x105001 => if x44 = true then (some (0,0,false)) else ((impl_ones.f (Go.bits .and .i64 x9 x7)).bind fun t106 => ((impl_sign.f t106).bind fun t107 => (impl_TableOfSpectrum.l1 k x0 x7 (wrap64 (x8 + (wrap64 (x10 * t107)))) x23 x24 x27 x28 (wrap64 (x29 + 1)) x105000 x105001)))
end
def impl_TableOfSpectrum.f (k : Nat) (l0 : List Int) : Option (Int × Int × Bool) := (impl_bitsOf.f k (l0.length : Int)).bind fun bt102 => (if bt102.2 = true then (impl_TableOfSpectrum.l0 k l0 (l0.length : Int) 0 bt102.1 0) else (some (0,0,false)))
set_option maxHeartbeats 8000000 in
set_option maxRecDepth 100000 in
theorem impl_TableOfSpectrum.calls (k : Nat) (A0 : Option Addr) (c0 : Nat) (l0 : List Int) (r1 : Int) (r2 : Int) (r3 : Bool) (w : World) (hr0 : Kd.C (Kd.int .i64) w A0 l0.length l0) (hc0 : l0.length ≤ c0) (h : impl_TableOfSpectrum.f k l0 = some (r1,r2,r3)) :
  Calls Try.prog 13 #[.slice A0 l0.length c0] w fun e w' => e = .returned (.tuple #[.agg #[.int .i64 r1,.int .i64 r2],.bool r3]) ∧ Below w.heap.size w w' := by
 have hu25 := Try.underlying25
 have HR0 := aZ_ hr0
 have HC0 := aZ_ hc0
 clear hr0 hc0
 have HB := aZ_ (Below.refl w.heap.size w)
 have H : ((impl_bitsOf.f k (l0.length : Int)).bind fun bt102 => (if bt102.2 = true then (impl_TableOfSpectrum.l0 k l0 (l0.length : Int) 0 bt102.1 0) else (some (0,0,false)))) = some (r1,r2,r3) := h
 clear h
 replace H := Option.bind_eq_some_iff.mp H
 obtain ⟨⟨t102,t103⟩,A20,H⟩ := H
 replace H : (if t103 = true then (impl_TableOfSpectrum.l0 k l0 (l0.length : Int) 0 t102 0) else (some (0,0,false))) = some (r1,r2,r3) := H
 have A2 := aZ_ A20
 clear A20
 by_cases c3 : t103 = true
 ·subst c3
  have H1 : (impl_TableOfSpectrum.l0 k l0 (l0.length : Int) 0 t102 0) = some (r1,r2,r3) := by rw [if_pos rfl] at H;exact H
  clear H
  have H := H1
  clear H1
  have H' := aZ_ H
  clear H
  go_enter Try.func13,Try.ntmps13
  go_wp2_with (first | ((with_reducible refine gate_dst (N := 2) rfl ?_);(try (refine gate_guard (by rfl) ?_;dsimp only));refine box_event ?hg (N := 2) ?hd (cs := #[.int .i64 0,.int .i64 0]) (t := 25) ?hr ?_;(case hd => rfl);(case hg => rfl);(case hr => first | (go_simp;done) | (go_simp;rfl));intro gb101 hg w4 hbox hb;have n0_ := aZ_ (below_step T7_ hb);have n1_ := aZ_ (hbox);have n2_ := aZ_ ((T4_ : w.heap.size ≤ gb101));have n3_ := aZ_ ((T4_ : w.heap.size ≤ gb101));clear HB;have HB := n0_;have BK101 := n1_;have GW101 := n2_;have GE101 := n3_;clear n0_ n1_ n2_ n3_;clear hb hbox hg) | ((with_reducible refine gate_callee (f := 40) rfl ?_);refine goesL_ (some 14) rfl rfl Try.func40 T16_ rfl #[.int .i64 (l0.length : Int)] rfl T3_ ?_;(with_reducible refine (impl_bitsOf.calls k (l0.length : Int) t102 true _ A2.out).mono ?_);rintro e w' ⟨rfl,⟨nd,rfl⟩⟩;refine ⟨_,rfl,?_⟩;(try (rw [drewN_self w4];generalize hq_ : World.drewN w4 _ = w4;have n0_ : Aside0 (w4.heap[gb101]? = some (.cells #[.int .i64 0,.int .i64 0] 25 (0,0))) := ⟨by rw [← hq_];exact T2_⟩;have n1_ : Aside0 (Below w.heap.size w w4) := ⟨by rw [← hq_];exact T1_⟩;clear BK101 HB hq_;have BK101 := n0_;have HB := n1_;clear n0_ n1_))) | ((with_reducible refine gate_dst (N := 6) rfl ?_);(try (refine gate_guard (by rfl) ?_;dsimp only));refine box_event ?hg (N := 6) ?hd (cs := #[.int .i64 0,.int .i64 0]) (t := 25) ?hr ?_;(case hd => rfl);(case hg => rfl);(case hr => first | (go_simp;done) | (go_simp;rfl));intro gb104 hg w5 hbox hb;have n0_ := aZ_ (blk_below (g := gb101) (o := .cells #[.int .i64 0,.int .i64 0] 25 (0,0)) T2_ hb);have n1_ := aZ_ (below_step T1_ hb);have n2_ := aZ_ (hbox);have n3_ := aZ_ ((T21_ : w.heap.size ≤ gb104));have n4_ := aZ_ ((T21_ : w.heap.size ≤ gb104));have n5_ := aZ_ ((T29_ : gb101 ≠ gb104));have n6_ := aZ_ ((T30_ : gb104 ≠ gb101));clear BK101;clear HB;have BK101 := n0_;have HB := n1_;have BK104 := n2_;have GW104 := n3_;have GE104 := n4_;have NB101_104 := n5_;have NB104_101 := n6_;clear n0_ n1_ n2_ n3_ n4_ n5_ n6_;clear hb hbox hg;have hnb6 := NB104_101.out;have hnc6 := NB101_104.out;have hcz7_0 : w5.cell? ⟨gb104,0,none⟩ = some (.int .i64 0) := (blk_cell BK104.out 0).trans rfl;have hcz7_1 : w5.cell? ⟨gb104,1,none⟩ = some (.int .i64 0) := (blk_cell BK104.out 1).trans rfl;have hfz7_0 := blk_frozen BK104.out 0;have hfz7_1 := blk_frozen BK104.out 1))
  go_loopg [24] k (fun kq v24 w' => ∃ (x24_1 : Int) (x102000_1 : Int) (x102001_1 : Int) (x105001_1 : Int),v24 = .int .i64 x24_1 ∧ Aside0 (impl_TableOfSpectrum.l0 kq l0 (l0.length : Int) x24_1 t102 x105001_1 = some (r1,r2,r3)) ∧ Aside0 (kq ≤ k) ∧ Aside0 (w'.heap[gb101]? = some (.cells #[.int .i64 x102000_1,.int .i64 x102001_1] 25 (0,0))) ∧ Aside0 (w'.heap[gb104]? = some (.cells #[.int .i64 t102,.int .i64 x105001_1] 25 (0,0))) ∧ Aside0 (Below w.heap.size w w'))
  case atStart => exact ⟨(0),(0),(0),(0),T6_,H',⟨Nat.le_refl _⟩,⟨by (with_reducible repeat (first | refine blk_drewN ?_ _ | refine blk_drew ?_ | refine blk_alloc ?_ _));refine blk_far ?_ NB101_104.out _;(with_reducible repeat (first | refine blk_drewN ?_ _ | refine blk_drew ?_ | refine blk_alloc ?_ _));refine blk_far ?_ NB101_104.out _;(with_reducible repeat (first | refine blk_drewN ?_ _ | refine blk_drew ?_ | refine blk_alloc ?_ _));exact BK101.out⟩,⟨by (with_reducible repeat (first | refine blk_drewN ?_ _ | refine blk_drew ?_ | refine blk_alloc ?_ _));refine blk_put (cs := #[.int .i64 t102,.int .i64 0]) ?_ 1 _ rfl;(with_reducible repeat (first | refine blk_drewN ?_ _ | refine blk_drew ?_ | refine blk_alloc ?_ _));refine blk_put (cs := #[.int .i64 0,.int .i64 0]) ?_ 0 _ rfl;(with_reducible repeat (first | refine blk_drewN ?_ _ | refine blk_drew ?_ | refine blk_alloc ?_ _));exact BK104.out⟩,⟨by repeat (first | (with_reducible first | exact HB.out | apply below_alloc | apply pw_below_drewN | apply below_drew1 | refine below_set ?_ GE101.out | refine below_set ?_ GE104.out) | exact HB.out)⟩⟩
  case round =>
   clear H'
   try clear c1
   try clear p2
   try clear c3
   try clear c4
   try clear c6
   try clear hcz7_0
   try clear hcz7_1
   try clear hfz7_0
   try clear hfz7_1
   obtain ⟨x24_1,x102000_1,x102001_1,x105001_1,rfl,HA,HK1,BK101,BK104,HB⟩ := hrel
   cases gk with
   | zero => exact absurd HA.out (by simp [impl_TableOfSpectrum.l0])
   | succ k1 =>
    have H := HA.out
    clear HA
    simp only [impl_TableOfSpectrum.l0] at H
    by_cases c8 : x24_1 < (l0.length : Int)
    ·rw [if_pos c8] at H
     have c8b0 : decide (x24_1 < (l0.length : Int)) = true := decide_eq_true c8
     clear c8
     have H' := aZ_ H
     clear H
     go_wp2
     go_loopg [8,29] k1 (fun kq v8 v29 w' => ∃ (x8_2 : Int) (x29_2 : Int) (x102000_2 : Int) (x102001_2 : Int),v8 = .int .i64 x8_2 ∧ v29 = .int .i64 x29_2 ∧ Aside0 (impl_TableOfSpectrum.l1 kq l0 x24_1 x8_2 (l0.length : Int) x24_1 l0 (l0.length : Int) x29_2 t102 x105001_1 = some (r1,r2,r3)) ∧ Aside0 (kq ≤ k1) ∧ Aside0 (w'.heap[gb101]? = some (.cells #[.int .i64 x102000_2,.int .i64 x102001_2] 25 (0,0))) ∧ Aside0 (w'.heap[gb104]? = some (.cells #[.int .i64 t102,.int .i64 x105001_1] 25 (0,0))) ∧ Aside0 (Below w.heap.size w w'))
     case atStart => exact ⟨(0),(0),(x102000_1),(x102001_1),T6_,T6_,H',⟨Nat.le_refl _⟩,⟨by (with_reducible repeat (first | refine blk_drewN ?_ _ | refine blk_drew ?_ | refine blk_alloc ?_ _));exact BK101.out⟩,⟨by (with_reducible repeat (first | refine blk_drewN ?_ _ | refine blk_drew ?_ | refine blk_alloc ?_ _));exact BK104.out⟩,⟨by repeat (first | (with_reducible first | exact HB.out | apply below_alloc | apply pw_below_drewN | apply below_drew1 | refine below_set ?_ GE101.out | refine below_set ?_ GE104.out) | exact HB.out)⟩⟩
     case round =>
      clear H'
      try clear c1
      try clear p2
      try clear c3
      try clear c4
      try clear c6
      try clear c8
      try clear c8b0
      try clear hcz7_0
      try clear hcz7_1
      try clear hfz7_0
      try clear hfz7_1
      try clear p2
      obtain ⟨x8_2,x29_2,x102000_2,x102001_2,rfl,rfl,HA,HK2,BK101,BK104,HB⟩ := hrel
      cases gk with
      | zero => exact absurd HA.out (by simp [impl_TableOfSpectrum.l1])
      | succ k2 =>
       have H := HA.out
       clear HA
       simp only [impl_TableOfSpectrum.l1] at H
       by_cases c9 : x29_2 < (l0.length : Int)
       ·rw [if_pos c9] at H
        have c9b0 : decide (x29_2 < (l0.length : Int)) = true := decide_eq_true c9
        clear c9
        by_cases c10 : 0 ≤ x29_2
        ·rw [if_pos c10] at H
         have c10b0 : decide (0 ≤ x29_2) = true := decide_eq_true c10
         clear c10
         by_cases c11 : x29_2 < (l0.length : Int)
         ·rw [if_pos c11] at H
          have c11b0 : decide (x29_2 < (l0.length : Int)) = true := decide_eq_true c11
          clear c11
          have HC12 := aZ_ H
          clear H
          have p105 : 0 ≤ (x29_2 : Int) := of_decide_eq_true T10_
          have q105 : x29_2 < (l0.length : Int) := of_decide_eq_true T10_
          obtain ⟨ad105,e105,hx105_0⟩ := Kd.at_int HR0.out x29_2 p105 q105
          cases e105
          replace hx105_0 := (HB.out.cell (World.block_lt_of_cell? w _ hx105_0)).trans hx105_0
          replace p105 := eq_true p105
          replace q105 := eq_true q105
          go_upto_region 12 with (fail)
          go_cut [44] (fun v44 wc => ∃ (kq : Nat) (x44_11 : Bool),v44 = .bool x44_11 ∧ Aside0 (impl_TableOfSpectrum.j2 kq l0 x24_1 x8_2 x29_2 (rd l0 x29_2) (l0.length : Int) x24_1 l0 (l0.length : Int) x29_2 x44_11 t102 x105001_1 = some (r1,r2,r3)) ∧ Aside0 (kq ≤ k2) ∧ Aside0 (wc.heap[gb101]? = some (.cells #[.int .i64 x102000_2,.int .i64 x102001_2] 25 (0,0))) ∧ Aside0 (wc.heap[gb104]? = some (.cells #[.int .i64 t102,.int .i64 x105001_1] 25 (0,0))) ∧ Aside0 (Below w.heap.size w wc))
          case first =>
           have H := HC12.out
           clear HC12
           by_cases c13 : (rd l0 x29_2) < (wrap64 (-(l0.length : Int)))
           ·rw [if_pos c13] at H
            have c13b0 : decide ((rd l0 x29_2) < (wrap64 (-(l0.length : Int)))) = true := decide_eq_true c13
            clear c13
            (first | rw [c13b0] | (simp only [i64_w,i32_w];rw [c13b0]) | skip)
            have H' := aZ_ H
            clear H
            go_wp2
            go_meet
            case rel => exact ⟨_,(true),T6_,H',⟨by have := HK1.out;have := HK2.out;first | omega | exact Nat.le_refl _⟩,⟨by (with_reducible repeat (first | refine blk_drewN ?_ _ | refine blk_drew ?_ | refine blk_alloc ?_ _));exact BK101.out⟩,⟨by (with_reducible repeat (first | refine blk_drewN ?_ _ | refine blk_drew ?_ | refine blk_alloc ?_ _));exact BK104.out⟩,⟨by repeat (first | (with_reducible first | exact HB.out | apply below_alloc | apply pw_below_drewN | apply below_drew1 | refine below_set ?_ GE101.out | refine below_set ?_ GE104.out) | exact HB.out)⟩⟩
           ·rw [if_neg c13] at H
            have c13b0 : decide ((rd l0 x29_2) < (wrap64 (-(l0.length : Int)))) = false := decide_eq_false c13
            clear c13
            (first | rw [c13b0] | (simp only [i64_w,i32_w];rw [c13b0]) | skip)
            have H' := aZ_ H
            clear H
            go_wp2
            go_meet
            case rel => exact ⟨_,(decide ((rd l0 x29_2) > (l0.length : Int))),T6_,H',⟨by have := HK1.out;have := HK2.out;first | omega | exact Nat.le_refl _⟩,⟨by (with_reducible repeat (first | refine blk_drewN ?_ _ | refine blk_drew ?_ | refine blk_alloc ?_ _));exact BK101.out⟩,⟨by (with_reducible repeat (first | refine blk_drewN ?_ _ | refine blk_drew ?_ | refine blk_alloc ?_ _));exact BK104.out⟩,⟨by repeat (first | (with_reducible first | exact HB.out | apply below_alloc | apply pw_below_drewN | apply below_drew1 | refine below_set ?_ GE101.out | refine below_set ?_ GE104.out) | exact HB.out)⟩⟩
          case rest =>
           clear HC12
           try clear c1
           try clear p1
           try clear q1
           try clear hx1
           try clear p2
           try clear c3
           try clear c4
           try clear c6
           try clear p6
           try clear c8
           try clear c8b0
           try clear c9
           try clear c9b0
           try clear c10
           try clear c10b0
           try clear p10
           try clear q10
           try clear hx10
           try clear c11
           try clear c11b0
           try clear c13
           try clear c13b0
           try clear hcz7_0
           try clear hcz7_1
           try clear hfz7_0
           try clear hfz7_1
           try clear hx105_0
           try clear p105
           try clear p2
           try clear q105
           obtain ⟨kq,x44_11,rfl,HA,HJ11,BK101,BK104,HB⟩ := hcut
           cases kq with
           | zero => exact absurd HA.out (by simp [impl_TableOfSpectrum.j2])
           | succ kj11 =>
            have H := HA.out
            clear HA
            simp only [impl_TableOfSpectrum.j2] at H
            by_cases c14 : x44_11 = true
            ·subst c14
             have H1 : (some (0,0,false)) = some (r1,r2,r3) := by rw [if_pos rfl] at H;exact H
             clear H
             have H := H1
             clear H1
             simp only [Option.some.injEq,Prod.mk.injEq] at H
             obtain ⟨rfl,rfl,rfl⟩ := H
             have hnb15 := NB101_104.out
             have hnc15 := NB104_101.out
             have hcz16_0 : wc.cell? ⟨gb101,0,none⟩ = some (.int .i64 x102000_2) := (blk_cell BK101.out 0).trans rfl
             have hcz16_1 : wc.cell? ⟨gb101,1,none⟩ = some (.int .i64 x102001_2) := (blk_cell BK101.out 1).trans rfl
             have hfz16_0 := blk_frozen BK101.out 0
             have hfz16_1 := blk_frozen BK101.out 1
             go_wp2
             refine bodyPost_ret (results_ct rfl _ _ gb101 25 #[.int .i64 0,.int .i64 0] (0,0) _ rfl T23_ Try.underlying25 rfl T16_) rfl ?_
             exact ⟨by first | rfl | (simp [errW_none,errW_some] <;> rfl) | (simp [*,errW_none,errW_some] <;> rfl),by repeat (first | (with_reducible first | exact HB.out | apply below_alloc | apply pw_below_drewN | apply below_drew1 | refine below_set ?_ GE101.out | refine below_set ?_ GE104.out) | exact HB.out)⟩
            ·replace c14 := Bool.eq_false_iff.mpr c14
             subst c14
             have H1 : ((impl_ones.f (Go.bits .and .i64 x29_2 x24_1)).bind fun t106 => ((impl_sign.f t106).bind fun t107 => (impl_TableOfSpectrum.l1 kj11 l0 x24_1 (wrap64 (x8_2 + (wrap64 ((rd l0 x29_2) * t107)))) (l0.length : Int) x24_1 l0 (l0.length : Int) (wrap64 (x29_2 + 1)) t102 x105001_1))) = some (r1,r2,r3) := by rw [if_neg (show ¬ (false = true) by decide)] at H;exact H
             clear H
             have H := H1
             clear H1
             replace H := Option.bind_eq_some_iff.mp H
             obtain ⟨t106,A170,H⟩ := H
             replace H : ((impl_sign.f t106).bind fun t107 => (impl_TableOfSpectrum.l1 kj11 l0 x24_1 (wrap64 (x8_2 + (wrap64 ((rd l0 x29_2) * t107)))) (l0.length : Int) x24_1 l0 (l0.length : Int) (wrap64 (x29_2 + 1)) t102 x105001_1)) = some (r1,r2,r3) := H
             have A17 := aZ_ A170
             clear A170
             replace H := Option.bind_eq_some_iff.mp H
             obtain ⟨t107,A180,H⟩ := H
             replace H : (impl_TableOfSpectrum.l1 kj11 l0 x24_1 (wrap64 (x8_2 + (wrap64 ((rd l0 x29_2) * t107)))) (l0.length : Int) x24_1 l0 (l0.length : Int) (wrap64 (x29_2 + 1)) t102 x105001_1) = some (r1,r2,r3) := H
             have A18 := aZ_ A180
             clear A180
             have H' := aZ_ H
             clear H
             go_wp2_with (first | ((with_reducible refine gate_callee (f := 38) rfl ?_);refine goesL_ (some 51) rfl rfl Try.func38 T16_ rfl #[.int .i64 (Go.bits .and .i64 x29_2 x24_1)] rfl T3_ ?_;(with_reducible refine (impl_ones.calls (Go.bits .and .i64 x29_2 x24_1) t106 _ A17.out).mono ?_);rintro e w' ⟨rfl,⟨nd,rfl⟩⟩;refine ⟨_,rfl,?_⟩) | ((with_reducible refine gate_callee (f := 41) rfl ?_);refine goesL_ (some 52) rfl rfl Try.func41 T16_ rfl #[.int .i64 t106] rfl T3_ ?_;(with_reducible refine (impl_sign.calls t106 t107 _ A18.out).mono ?_);rintro e w' ⟨rfl,⟨nd,rfl⟩⟩;refine ⟨_,rfl,?_⟩))
             go_roundg kj11
             case measure => have := HK1.out;have := HK2.out;have := HJ11.out;omega
             case rel => exact ⟨(wrap64 (x8_2 + (wrap64 ((rd l0 x29_2) * t107)))),(wrap64 (x29_2 + 1)),(x102000_2),(x102001_2),T6_,T6_,H',⟨by have := HK1.out;have := HK2.out;have := HJ11.out;omega⟩,⟨by (with_reducible repeat (first | refine blk_drewN ?_ _ | refine blk_drew ?_ | refine blk_alloc ?_ _));exact BK101.out⟩,⟨by (with_reducible repeat (first | refine blk_drewN ?_ _ | refine blk_drew ?_ | refine blk_alloc ?_ _));exact BK104.out⟩,⟨by repeat (first | (with_reducible first | exact HB.out | apply below_alloc | apply pw_below_drewN | apply below_drew1 | refine below_set ?_ GE101.out | refine below_set ?_ GE104.out) | exact HB.out)⟩⟩
         ·rw [if_neg c11] at H
          exact absurd H T42_
        ·rw [if_neg c10] at H
         exact absurd H T42_
       ·rw [if_neg c9] at H
        have c9b0 : decide (x29_2 < (l0.length : Int)) = false := decide_eq_false c9
        clear c9
        by_cases c19 : x8_2 = (l0.length : Int)
        ·rw [if_pos c19] at H
         have c19b0 : (x8_2 == (l0.length : Int)) = true := beq_iff_eq.mpr c19
         have c19b1 : (x8_2 != (l0.length : Int)) = false := bne_eq_false_iff_eq.mpr c19
         clear c19
         have H' := aZ_ H
         clear H
         go_wp2
         go_roundg k2
         case measure => have := HK1.out;have := HK2.out;omega
         case rel => exact ⟨(wrap64 (x24_1 + 1)),(x102000_2),(x102001_2),(x105001_1),T6_,H',⟨by have := HK1.out;have := HK2.out;omega⟩,⟨by (with_reducible repeat (first | refine blk_drewN ?_ _ | refine blk_drew ?_ | refine blk_alloc ?_ _));exact BK101.out⟩,⟨by (with_reducible repeat (first | refine blk_drewN ?_ _ | refine blk_drew ?_ | refine blk_alloc ?_ _));exact BK104.out⟩,⟨by repeat (first | (with_reducible first | exact HB.out | apply below_alloc | apply pw_below_drewN | apply below_drew1 | refine below_set ?_ GE101.out | refine below_set ?_ GE104.out) | exact HB.out)⟩⟩
        ·rw [if_neg c19] at H
         have c19b0 : (x8_2 == (l0.length : Int)) = false := beq_eq_false_iff_ne.mpr c19
         have c19b1 : (x8_2 != (l0.length : Int)) = true := bne_iff_ne.mpr c19
         by_cases c20 : x8_2 = (wrap64 (-(l0.length : Int)))
         ·rw [if_pos c20] at H
          have c20b0 : (x8_2 == (wrap64 (-(l0.length : Int)))) = true := beq_iff_eq.mpr c20
          have c20b1 : (x8_2 != (wrap64 (-(l0.length : Int)))) = false := bne_eq_false_iff_eq.mpr c20
          clear c20
          by_cases c21 : 0 ≤ x24_1
          ·rw [if_pos c21] at H
           have c21b0 := eq_true c21
           have c21b1 : decide (0 ≤ x24_1) = true := decide_eq_true c21
           clear c21
           obtain ⟨ji22,hji22⟩ : ∃ j_ : Int,(shl .i64 1 x24_1) = j_ := ⟨_,rfl⟩
           replace H : (impl_TableOfSpectrum.l0 k2 l0 (l0.length : Int) (wrap64 (x24_1 + 1)) t102 (Go.bits .or .i64 x105001_1 (ji22))) = some (r1,r2,r3) := by first | (rw [hji22] at H;exact H) | (simp only [hji22] at H ⊢;exact H)
           have hji22_ : (IntKind.i64.wrap (1 * 2 ^ min x24_1.toNat 64)) = ji22 := hji22
           have hji22z : x24_1 ≤ 64 → (IntKind.i64.wrap (1 * 2 ^ x24_1.toNat)) = ji22 := shl_small hji22
           have hji22u : (IntKind.i64.wrap (2 ^ min x24_1.toNat 64)) = ji22 := by have h_ := hji22_;rw [Int.one_mul] at h_;exact h_
           have hji22v : x24_1 ≤ 64 → (IntKind.i64.wrap (2 ^ x24_1.toNat)) = ji22 := fun hle_ => by have h_ := hji22z hle_;rw [Int.one_mul] at h_;exact h_
           have hji22y : (wrap64 (1 * 2 ^ min x24_1.toNat 64)) = ji22 := (i64_w _).symm.trans hji22_
           have hji22x : x24_1 ≤ 64 → (wrap64 (1 * 2 ^ x24_1.toNat)) = ji22 := fun h_ => (i64_w _).symm.trans (hji22z h_)
           have H' := aZ_ H
           clear H
           try go_wp2
           have n0_ := aZ_ (blk_drew BK101.out)
           have n1_ := aZ_ (blk_drew BK104.out)
           have n2_ := aZ_ (below_drew1 HB.out)
           clear BK101
           clear BK104
           clear HB
           have BK101 := n0_
           have BK104 := n1_
           have HB := n2_
           clear n0_ n1_ n2_
           refine start_ (n := 7) (S := fun w' => w'.cell? ⟨gb104,0,none⟩ = some (.int .i64 t102) ∧ w'.cell? ⟨gb104,1,none⟩ = some (.int .i64 x105001_1)) (ds := [6]) #[false,false,false,false,false,false,false] T16_ rfl rfl ⟨(blk_cell BK104.out 0).trans rfl,(blk_cell BK104.out 1).trans rfl⟩ (fun hHeld => ?_)
           generalize wr.drew = w23 at BK101 BK104 HB hHeld ⊢
           refine pZ_ 0 (some 67) #[true,false,false,false,false,false,false] ?_
           refine pZ_ 2 (some 69) #[true,false,true,false,false,false,false] ?_
           refine pZ_ 3 (some 70) #[true,false,true,true,false,false,false] ?_
           refine tZ2_ 1 (some 68) #[true,true,true,true,false,false,false] hHeld ?_
           refine pZ_ 4 (some 71) #[true,true,true,true,true,false,false] ?_
           refine pZ_ 5 (some 72) #[true,true,true,true,true,true,false] ?_
           refine last_ (i := 6) (N := none) #[true,true,true,true,true,true,true] rfl rfl T16_ T43_ (fun K hK => ?_)
           have hs24 : w23.cell? ⟨gb104,1,none⟩ = some (.int .i64 x105001_1) := (blk_cell BK104.out 1).trans rfl
           have hfs24 := blk_frozen BK104.out 1
           have hns24_0 := NB101_104.out
           have hms24_0 := NB104_101.out
           refine skip_ (w1 := ?_) (by rfl) rfl ?_ ?_
           rotate_left
           ·go_simp
            rfl
           refine hK.out _ _ ?_
           clear hK K
           refine done_ T16_ ?_
           try go_wp2
           go_roundg k2
           case measure => have := HK1.out;have := HK2.out;omega
           case rel => exact ⟨(wrap64 (x24_1 + 1)),(x102000_2),(x102001_2),(Go.bits .or .i64 x105001_1 (ji22)),T6_,H',⟨by have := HK1.out;have := HK2.out;omega⟩,⟨by (with_reducible repeat (first | refine blk_drewN ?_ _ | refine blk_drew ?_ | refine blk_alloc ?_ _));refine blk_far ?_ NB101_104.out _;(with_reducible repeat (first | refine blk_drewN ?_ _ | refine blk_drew ?_ | refine blk_alloc ?_ _));exact BK101.out⟩,⟨by (with_reducible repeat (first | refine blk_drewN ?_ _ | refine blk_drew ?_ | refine blk_alloc ?_ _));refine blk_put (cs := #[.int .i64 t102,.int .i64 x105001_1]) ?_ 1 _ rfl;(with_reducible repeat (first | refine blk_drewN ?_ _ | refine blk_drew ?_ | refine blk_alloc ?_ _));exact BK104.out⟩,⟨by repeat (first | (with_reducible first | exact HB.out | apply below_alloc | apply pw_below_drewN | apply below_drew1 | refine below_set ?_ GE101.out | refine below_set ?_ GE104.out) | exact HB.out)⟩⟩
          ·rw [if_neg c21] at H
           exact absurd H T42_
         ·rw [if_neg c20] at H
          have c20b0 : (x8_2 == (wrap64 (-(l0.length : Int)))) = false := beq_eq_false_iff_ne.mpr c20
          have c20b1 : (x8_2 != (wrap64 (-(l0.length : Int)))) = true := bne_iff_ne.mpr c20
          simp only [Option.some.injEq,Prod.mk.injEq] at H
          obtain ⟨rfl,rfl,rfl⟩ := H
          have hnb25 := NB101_104.out
          have hnc25 := NB104_101.out
          have hcz26_0 : wr.cell? ⟨gb101,0,none⟩ = some (.int .i64 x102000_2) := (blk_cell BK101.out 0).trans rfl
          have hcz26_1 : wr.cell? ⟨gb101,1,none⟩ = some (.int .i64 x102001_2) := (blk_cell BK101.out 1).trans rfl
          have hfz26_0 := blk_frozen BK101.out 0
          have hfz26_1 := blk_frozen BK101.out 1
          go_wp2
          refine bodyPost_ret (results_ct rfl _ _ gb101 25 #[.int .i64 0,.int .i64 0] (0,0) _ rfl T23_ Try.underlying25 rfl T16_) rfl ?_
          exact ⟨by first | rfl | (simp [errW_none,errW_some] <;> rfl) | (simp [*,errW_none,errW_some] <;> rfl),by repeat (first | (with_reducible first | exact HB.out | apply below_alloc | apply pw_below_drewN | apply below_drew1 | refine below_set ?_ GE101.out | refine below_set ?_ GE104.out) | exact HB.out)⟩
    ·rw [if_neg c8] at H
     have c8b0 : decide (x24_1 < (l0.length : Int)) = false := decide_eq_false c8
     clear c8
     simp only [Option.some.injEq,Prod.mk.injEq] at H
     obtain ⟨rfl,rfl,rfl⟩ := H
     have hnb27 := NB104_101.out
     have hnc27 := NB101_104.out
     have hcz28_0 : wr.cell? ⟨gb104,0,none⟩ = some (.int .i64 t102) := (blk_cell BK104.out 0).trans rfl
     have hcz28_1 : wr.cell? ⟨gb104,1,none⟩ = some (.int .i64 x105001_1) := (blk_cell BK104.out 1).trans rfl
     have hfz28_0 := blk_frozen BK104.out 0
     have hfz28_1 := blk_frozen BK104.out 1
     have hcz29_0 : wr.cell? ⟨gb101,0,none⟩ = some (.int .i64 x102000_1) := (blk_cell BK101.out 0).trans rfl
     have hcz29_1 : wr.cell? ⟨gb101,1,none⟩ = some (.int .i64 x102001_1) := (blk_cell BK101.out 1).trans rfl
     have hfz29_0 := blk_frozen BK101.out 0
     have hfz29_1 := blk_frozen BK101.out 1
     go_wp2
     refine bodyPost_ret (results_ct rfl _ _ gb101 25 #[.int .i64 t102,.int .i64 x105001_1] (0,0) _ rfl (by (with_reducible repeat (first | refine blk_drewN ?_ _ | refine blk_drew ?_ | refine blk_alloc ?_ _));refine blk_put (cs := #[.int .i64 t102,.int .i64 x102001_1]) ?_ 1 _ rfl;(with_reducible repeat (first | refine blk_drewN ?_ _ | refine blk_drew ?_ | refine blk_alloc ?_ _));refine blk_put (cs := #[.int .i64 x102000_1,.int .i64 x102001_1]) ?_ 0 _ rfl;(with_reducible repeat (first | refine blk_drewN ?_ _ | refine blk_drew ?_ | refine blk_alloc ?_ _));exact BK101.out) Try.underlying25 rfl T16_) rfl ?_
     exact ⟨by first | rfl | (simp [errW_none,errW_some] <;> rfl) | (simp [*,errW_none,errW_some] <;> rfl),by repeat (first | (with_reducible first | exact HB.out | apply below_alloc | apply pw_below_drewN | apply below_drew1 | refine below_set ?_ GE101.out | refine below_set ?_ GE104.out) | exact HB.out)⟩
 ·replace c3 := Bool.eq_false_iff.mpr c3
  subst c3
  have H1 : (some (0,0,false)) = some (r1,r2,r3) := by rw [if_neg (show ¬ (false = true) by decide)] at H;exact H
  clear H
  have H := H1
  clear H1
  simp only [Option.some.injEq,Prod.mk.injEq] at H
  obtain ⟨rfl,rfl,rfl⟩ := H
  go_enter Try.func13,Try.ntmps13
  go_wp2_with (first | ((with_reducible refine gate_dst (N := 2) rfl ?_);(try (refine gate_guard (by rfl) ?_;dsimp only));refine box_event ?hg (N := 2) ?hd (cs := #[.int .i64 0,.int .i64 0]) (t := 25) ?hr ?_;(case hd => rfl);(case hg => rfl);(case hr => first | (go_simp;done) | (go_simp;rfl));intro gb101 hg w30 hbox hb;have n0_ := aZ_ (below_step T7_ hb);have n1_ := aZ_ (hbox);have n2_ := aZ_ ((T4_ : w.heap.size ≤ gb101));have n3_ := aZ_ ((T4_ : w.heap.size ≤ gb101));clear HB;have HB := n0_;have BK101 := n1_;have GW101 := n2_;have GE101 := n3_;clear n0_ n1_ n2_ n3_;clear hb hbox hg) | ((with_reducible refine gate_callee (f := 40) rfl ?_);refine goesL_ (some 14) rfl rfl Try.func40 T16_ rfl #[.int .i64 (l0.length : Int)] rfl T3_ ?_;(with_reducible refine (impl_bitsOf.calls k (l0.length : Int) t102 false _ A2.out).mono ?_);rintro e w' ⟨rfl,⟨nd,rfl⟩⟩;refine ⟨_,rfl,?_⟩;(try (rw [drewN_self w30];generalize hq_ : World.drewN w30 _ = w30;have n0_ : Aside0 (w30.heap[gb101]? = some (.cells #[.int .i64 0,.int .i64 0] 25 (0,0))) := ⟨by rw [← hq_];exact T2_⟩;have n1_ : Aside0 (Below w.heap.size w w30) := ⟨by rw [← hq_];exact T1_⟩;clear BK101 HB hq_;have BK101 := n0_;have HB := n1_;clear n0_ n1_));have hcz31_0 : w30.cell? ⟨gb101,0,none⟩ = some (.int .i64 0) := (blk_cell BK101.out 0).trans rfl;have hcz31_1 : w30.cell? ⟨gb101,1,none⟩ = some (.int .i64 0) := (blk_cell BK101.out 1).trans rfl;have hfz31_0 := blk_frozen BK101.out 0;have hfz31_1 := blk_frozen BK101.out 1))
  refine bodyPost_ret (results_ct rfl _ _ gb101 25 #[.int .i64 0,.int .i64 0] (0,0) _ rfl (by (with_reducible repeat (first | refine blk_drewN ?_ _ | refine blk_drew ?_ | refine blk_alloc ?_ _));refine blk_put (cs := #[.int .i64 0,.int .i64 0]) ?_ 1 _ rfl;(with_reducible repeat (first | refine blk_drewN ?_ _ | refine blk_drew ?_ | refine blk_alloc ?_ _));refine blk_put (cs := #[.int .i64 0,.int .i64 0]) ?_ 0 _ rfl;(with_reducible repeat (first | refine blk_drewN ?_ _ | refine blk_drew ?_ | refine blk_alloc ?_ _));exact BK101.out) Try.underlying25 rfl T16_) rfl ?_
  exact ⟨by first | rfl | (simp [errW_none,errW_some] <;> rfl) | (simp [*,errW_none,errW_some] <;> rfl),by repeat (first | (with_reducible first | exact HB.out | apply below_alloc | apply pw_below_drewN | apply below_drew1 | refine below_set ?_ GE101.out) | exact HB.out)⟩
def impl_affine.p (u b x : Nat) : Bool := (impl_ones.f ((u &&& x : Nat) : Int)).any fun (v : Int) => (v + (b : Int)) % 2 == 1
def impl_affine.okx (u x : Nat) : Bool := (impl_ones.f ((u &&& x : Nat) : Int)).any fun (v : Int) => decide (0 ≤ v ∧ v ≤ 64)
theorem impl_affine.okx_of {u b x : Nat} (h : impl_affine.okx u x = true) : ∃ v,impl_ones.f ((u &&& x : Nat) : Int) = some v ∧ 0 ≤ v ∧ v ≤ 64 ∧ impl_affine.p u b x = ((v + b) % 2 == 1) := by
 unfold impl_affine.okx at h
 unfold impl_affine.p
 generalize impl_ones.f ((u &&& x : Nat) : Int) = o at h ⊢
 cases o with
 | none => cases h
 | some v => have h := of_decide_eq_true h;exact ⟨v,rfl,h.1,h.2,rfl⟩
set_option maxHeartbeats 400000 in
theorem impl_affine_1.any (u b x : Nat) (hu : u < 32) (hb : b ≤ 1) (hx : x < 32) (ho : impl_affine.okx u x = true) (g1 g2 : Nat) (W : World) (h1 : W.heap[g1]? = some (.cells #[.int .i64 u] 3 (0,0))) (h2 : W.heap[g2]? = some (.cells #[.int .i64 b] 3 (0,0))) :
  Gives Try.prog 59 #[.pointer (some ⟨g1,0,none⟩),.pointer (some ⟨g2,0,none⟩)] #[.int .i64 x] (.bool (impl_affine.p u b x)) W := by
 show Calls Try.prog 59 #[.int .i64 x,.pointer (some ⟨g1,0,none⟩),.pointer (some ⟨g2,0,none⟩)] W _
 have hc0 : W.cell? ⟨g1,0,none⟩ = some (.int .i64 u) := (blk_cell h1 0).trans rfl
 have hd0 : W.cell? ⟨g2,0,none⟩ = some (.int .i64 b) := (blk_cell h2 0).trans rfl
 obtain ⟨v,hv,h0,h64,hE⟩ := impl_affine.okx_of (b := b) ho
 have e1 : Go.bits .and .i64 (u : Int) (x : Int) = ((u &&& x : Nat) : Int) := B.and_cast T48_ T48_
 generalize u &&& x = y at e1 hv
 have HV := aZ_ hv
 have HE := aZ_ hE
 have b1 : (b : Int) ≤ 1 := by omega
 clear hv hE ho h1 h2 hu hx hb
 go_enter Try.func59,Try.ntmps59
 go_wp2
 go_quiet ((go_at_call 38;(with_reducible refine (impl_ones.calls y v _ HV.out).mono ?_);rintro e w' ⟨rfl,⟨nd,rfl⟩⟩;(try first | exact ⟨rfl,_,World.drewN_drewN _ _ _⟩ | exact ⟨rfl,_,Eq.trans (World.drewN_drewN _ _ _) (congrArg (World.drewN _) (Nat.add_assoc _ _ _))⟩)))
 go_wp2
 go_ret
 exact ⟨by rw [HE.out];rfl,by repeat (first | (with_reducible first | exact Below.refl _ _ | apply below_alloc | apply pw_below_drewN | apply below_drew1) | exact Below.refl _ _)⟩
set_option maxHeartbeats 400000 in
set_option maxRecDepth 100000 in
theorem impl_affine.any (n u b : Nat) (hn : n ≤ 5) (hu0 : u < 32) (hb0 : b ≤ 1) (ho : ∀ x,x < 2 ^ n → impl_affine.okx u x = true) (w : World) :
  Calls Try.prog 42 #[.int .i64 n,.int .i64 u,.int .i64 b] w fun e w' => e = .returned (.agg #[.int .i64 n,.int .i64 (B.tabN (impl_affine.p u b) (2 ^ n) : Nat)]) ∧ Below w.heap.size w w' := by
 have hu := Try.underlying25
 have HN := aZ_ hn
 have HU0 := aZ_ hu0
 have HB0 := aZ_ hb0
 have HO := aZ_ ho
 clear hn hu0 hb0 ho
 have EG := aZ_ (enters_of Try.func59 T16_ rfl)
 go_enter Try.func42,Try.ntmps42
 go_wp2_with (go_at_call 50;refine (impl_makeTable.any n HN.out (impl_affine.p u b) 59 #[.pointer (some ⟨w.heap.size,0,none⟩),.pointer (some ⟨w.heap.size + 1,0,none⟩)] EG.out _ (fun W x hx hb => impl_affine_1.any u b x HU0.out HB0.out (Nat.lt_of_lt_of_le hx (B.pow_le HN.out)) (HO.out x hx) _ _ W (blk_below (blk_alloc (blk_alloc (blk_new w _) _) _) hb) (blk_below (blk_alloc (by simpa using blk_new (w.alloc (.cells #[.int .i64 u] 3)) (.cells #[.int .i64 b] 3)) _) hb))).mono ?_;rintro e w' ⟨rfl,hb⟩;have BK : Aside0 (w'.heap[w.heap.size + 1 + 1]? = some (.cells #[.int .i64 0,.int .i64 0] 25 (0,0))) := ⟨by have h_ := blk_below (blk_new _ _) hb;simpa using h_⟩;have HB := aZ_ (below_step (below_alloc (below_alloc (below_alloc (Below.refl w.heap.size w) _) _) _) hb);clear hb;have hc0 : w'.cell? ⟨w.heap.size + 1 + 1,0,none⟩ = some (.int .i64 0) := (blk_cell BK.out 0).trans rfl;have hc1 : w'.cell? ⟨w.heap.size + 1 + 1,1,none⟩ = some (.int .i64 0) := (blk_cell BK.out 1).trans rfl;have hf0 : w'.frozen? ⟨w.heap.size + 1 + 1,0,none⟩ = false := blk_frozen BK.out 0;have hf1 : w'.frozen? ⟨w.heap.size + 1 + 1,1,none⟩ = false := blk_frozen BK.out 1)
 refine bodyPost_ret (results_cell_row rfl _ _ (w.heap.size + 1 + 1) 25 #[.int .i64 n,.int .i64 (B.tabN (impl_affine.p u b) (2 ^ n) : Nat)] (0,0) _ rfl T49_ Try.underlying25 rfl T16_) rfl ?_
 exact ⟨rfl,below_set (below_set HB.out T48_) T48_⟩
def impl_affine.f (a0 a1 a2 : Int) : Option (Int × Int) := if (0 ≤ a0 ∧ a0 ≤ 5 ∧ 0 ≤ a1 ∧ a1 < 32 ∧ 0 ≤ a2 ∧ a2 ≤ 1) ∧ B.allN (impl_affine.okx a1.toNat) (2 ^ a0.toNat) = true then some (a0,((B.tabN (impl_affine.p a1.toNat a2.toNat) (2 ^ a0.toNat) : Nat) : Int)) else none
theorem impl_affine.calls (a0 a1 a2 r1 r2 : Int) (w : World) (h : impl_affine.f a0 a1 a2 = some (r1,r2)) :
  Calls Try.prog 42 #[.int .i64 a0,.int .i64 a1,.int .i64 a2] w fun e w' => e = .returned (.agg #[.int .i64 r1,.int .i64 r2]) ∧ Below w.heap.size w w' := by
 unfold impl_affine.f at h
 split at h
 next hc =>
  obtain ⟨n,rfl⟩ := Int.eq_ofNat_of_zero_le hc.1.1
  obtain ⟨u,rfl⟩ := Int.eq_ofNat_of_zero_le hc.1.2.2.1
  obtain ⟨b,rfl⟩ := Int.eq_ofNat_of_zero_le hc.1.2.2.2.2.1
  simp only [Int.toNat_natCast] at h hc
  have h := Option.some.inj h
  obtain ⟨rfl,rfl⟩ := Prod.mk.injEq .. ▸ h
  exact impl_affine.any n u b T48_ T48_ T48_ (B.allN_iff.mp hc.2) w
 next => cases h
end Go.Proofs.Ytflacbjpeecjcaa.F
