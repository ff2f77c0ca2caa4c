/- Walks of Go functions and lemmas on what they compute, for the row of FnPower (a part of several): each call ends as the Lean function of its name tells; the conditions are those of each theorem. -/
import Derived.Test.YtmmdcbdchifniaaM1FnPower
import Derived.Test.YtmmdcbdchifniaaM2FnPower
import Derived.Test.YtmmdcbdchifniaaM3FnPower
import Derived.Test.YtmmdcbdchifniaaM4FnPower
import Derived.Test.YtmmdcbdchifniaaM7FnPower
import Derived.Test.YtmmdcbdchifniaaM8FnPower
namespace Go.Proofs.Ytmmdcbdchifniaa.F
open Go.RowKit Go.Proofs.YtmmdcbdchifniaaW.PrintWords Go.Proofs.YtmmdcbdchifniaaW.PrintLast Go.Proofs.YtmmdcbdchifniaaW.PrintMore
attribute [local go_sem] max2_int min2_int max_two min_two max_three min_three max_four min_four 
set_option linter.unusedVariables false
set_option linter.unusedSimpArgs false
def impl_factorial.l0 : Nat → Int → Int → Int → Option (Int)
 | 0,_,_,_ => none
 | k + 1,x0,x3,x4 => if x4 ≤ x0 then (impl_factorial.l0 k x0 (wrap64 (x3 * x4)) (wrap64 (x4 + 1))) else (some x3)
def impl_factorial.f (k : Nat) (a0 : Int) : Option (Int) := impl_factorial.l0 k a0 1 2
set_option maxHeartbeats 8000000 in
set_option maxRecDepth 100000 in
theorem impl_factorial.calls (k : Nat) (a0 : Int) (r : Int) (w : World) (h : impl_factorial.f k a0 = some r) :
  Calls Try.prog 31 #[.int .i64 a0] w fun e w' => e = .returned (.int .i64 r) ∧ Drawn0 w w' := by
 have H : (impl_factorial.l0 k a0 1 2) = some r := h
 clear h
 have H' := aZ_ H
 clear H
 go_enter Try.func31,Try.ntmps31
 go_wp2
 go_loopg [3,4] k (fun kq v3 v4 w' => ∃ (x3_1 : Int) (x4_1 : Int),v3 = .int .i64 x3_1 ∧ v4 = .int .i64 x4_1 ∧ Aside0 (impl_factorial.l0 kq a0 x3_1 x4_1 = some r) ∧ Aside0 (kq ≤ k) ∧ Drawn0 w w')
 case atStart => exact ⟨(1),(2),T6_,T6_,H',⟨Nat.le_refl _⟩,by repeat (first | exact Drawn0.refl _ | apply Drawn0.step)⟩
 case round =>
  clear H'
  obtain ⟨x3_1,x4_1,rfl,rfl,HA,HK1,⟨m1,rfl⟩⟩ := hrel
  cases gk with
  | zero => exact absurd HA.out (by simp [impl_factorial.l0])
  | succ k1 =>
   have H := HA.out
   clear HA
   simp only [impl_factorial.l0] at H
   by_cases c2 : x4_1 ≤ a0
   ·rw [if_pos c2] at H
    have c2b0 : decide (x4_1 ≤ a0) = true := decide_eq_true c2
    clear c2
    have H' := aZ_ H
    clear H
    go_wp2
    go_roundg k1
    case measure => have := HK1.out;omega
    case rel => exact ⟨(wrap64 (x3_1 * x4_1)),(wrap64 (x4_1 + 1)),T6_,T6_,H',⟨by have := HK1.out;omega⟩,by repeat (first | exact Drawn0.refl _ | apply Drawn0.step)⟩
   ·rw [if_neg c2] at H
    have c2b0 : decide (x4_1 ≤ a0) = false := decide_eq_false c2
    clear c2
    obtain rfl := Option.some.inj H
    go_wp2
    go_ret
    exact ⟨by first | rfl | (simp;done) | (simp [*];done),by repeat (first | exact Drawn0.refl _ | apply Drawn0.step)⟩
theorem goesV_ {P : Program} {ops : Array Oper} {Q : Exit → Act → World → Prop} {oi : Oper} {N : Option Tmp} {a : Act} {w : World} {K : Act → World → Prop} {f : FuncId} {lb : Array Value} {t : Tmp} {ars : Array Operand} {ts : Array TypeId} (he : ∀ args w,(callFunc f args).run P w = .ok (.enter f args) w) (args : Array Value)
  (hw : Region.wanted oi (yielded ops a.tmps) = true) (hN : oi.dst = N) (hop : oi.op = .call { callee := .value (.tmp t),args := ars,argTypes := ts }) (hv : a.eval (.tmp t) = .func (.func f) #[] lb) (hargs : ars.map a.eval = args)
  (h : Calls P f (args ++ lb) w fun e w' => ∃ v,e = .returned v ∧ K (a.put N v) w') : if Region.wanted oi (yielded ops a.tmps) = true then Oper.wp P oi a w K Q else K (a.put N undef) w := by
 refine call_ f (args ++ lb) hw hN ?_ h
 unfold execOp
 simp [hop,resolve,Deferred.ofValue,invoke,hv,hargs,he]
def impl_BanzhafNumbers_1.f (x b : Int) : Option Int := if b = -1 then some 1 else if b < 0 then none else (impl_factorial.f 100 x).bind fun t => (impl_factorial.f 100 (wrap64 (wrap64 (b - 1) - x))).bind fun u => some (wrap64 (t * u)) -- 31
mutual
def impl_Table_powers.l0 : Nat → Int → List Int → Int → Int → Int → Int → Option (List Int)
 | 0,_,_,_,_,_,_ => none
 | k + 1,x1,x5,x15,x16,x102000,x102001 => if x16 < x15 then ((impl_Table_size.f x102000 x102001).bind fun t106 => (impl_Table_powers.l1 k x1 x5 x16 x15 x16 t106 0 x102000 x102001)) else (some x5)
def impl_Table_powers.l1 : Nat → Int → List Int → Int → Int → Int → Int → Int → Int → Int → Option (List Int)
 | 0,_,_,_,_,_,_,_,_,_ => none
 | k + 1,x1,x5,x6,x15,x16,x20,x21,x102000,x102001 => if x21 < x20 then (if 0 ≤ x6 then (if (Go.bits .and .i64 (shr .i64 x21 x6) 1) = 0 then ((impl_Table_changes.f x102000 x102001 x21 (shl .i64 1 x6)).bind fun t107 => (impl_Table_powers.j2 k x1 x5 x6 x21 x15 x16 x20 x21 t107 x102000 x102001)) else (impl_Table_powers.j2 k x1 x5 x6 x21 x15 x16 x20 x21 false x102000 x102001)) else (none)) else (impl_Table_powers.l0 k x1 x5 x15 (wrap64 (x16 + 1)) x102000 x102001)
def impl_Table_powers.j2 : Nat → Int → List Int → Int → Int → Int → Int → Int → Int → Bool → Int → Int → Option (List Int)
 | 0,_,_,_,_,_,_,_,_,_,_,_ => none
 | k + 1,x1,x5,x6,x7,x15,x16,x20,x21,x35,x102000,x102001 => if x35 = true then (if 0 ≤ x6 then (if x6 < (x5.length : Int) then ((impl_ones.f x7).bind fun t109 => ((impl_BanzhafNumbers_1.f t109 x1).bind fun t110 => (impl_Table_powers.l1 k x1 (x5.set (x6 : Int).toNat (wrap64 ((rd x5 x6) + t110))) x6 x15 x16 x20 (wrap64 (x21 + 1)) x102000 x102001))) else (none)) else (none)) else (impl_Table_powers.l1 k x1 x5 x6 x15 x16 x20 (wrap64 (x21 + 1)) x102000 x102001)
end
def impl_Table_powers.f (k : Nat) (a0_0 : Int) (a0_1 : Int) (a1 : Int) : Option (List Int) := (impl_IsSimpleGame.f k a0_0 a0_1).bind fun t102 => (if t102 = true then (if 0 ≤ a0_0 then (if (a0_0 : Int).toNat ≤ 35184372088832 then ((some (List.replicate (a0_0 : Int).toNat 0 : List Int)).bind fun y103 => (impl_Table_powers.l0 k a1 y103 (y103.length : Int) 0 a0_0 a0_1)) else (none)) else (none)) else (some ([] : List Int)))
def impl_Table_powers.T10 : Bool × List (List Nat × List Nat) := (true,[([],[]),([],[]),([0,1],[0,1]),([2],[2]),([3],[3]),([4],[4]),([5],[5]),([5],[5]),([5],[5]),([8,5],[5,8]),([6,7,9,5,5],[5,6,7,9]),([5,10],[5,10])])
def impl_Table_powers.B10 : List Nat := [0,0,3,7,15,31,63,63,63,319,1023,2047]
theorem impl_Table_powers.tab10 : rtab .any (opsOf Try.f29 10) = impl_Table_powers.T10 := by kernel_rfl
theorem impl_Table_powers.bits10 : waitsOk impl_Table_powers.T10.2 impl_Table_powers.B10 = true := by kernel_rfl
def impl_Table_powers.T11 : Bool × List (List Nat × List Nat) := (true,[([],[]),([],[]),([0,1],[0,1]),([2],[2]),([],[]),([],[]),([5],[5]),([4,6,6],[4,6]),([3,7],[3,7]),([0,1,0,1,2,3,4,5,6,7,8],[0,1]),([9,8,7,0,1,2,3,4,5,6,7,8],[8,9])])
def impl_Table_powers.B11 : List Nat := [0,0,3,7,0,0,32,112,255,511,1023]
theorem impl_Table_powers.tab11 : rtab .any (opsOf Try.f29 11) = impl_Table_powers.T11 := by kernel_rfl
theorem impl_Table_powers.bits11 : waitsOk impl_Table_powers.T11.2 impl_Table_powers.B11 = true := by kernel_rfl
set_option maxHeartbeats 8000000 in
set_option maxRecDepth 100000 in
theorem impl_Table_powers.any (k : Nat) (a0_0 : Int) (a0_1 : Int) (a1 : Int) (r : List Int) (w : World) (g : Nat) (lb : Array Value) (eg : ∀ args w,(callFunc g args).run Try.prog w = .ok (.enter g args) w) (hp : ∀ (W : World) (x r_ : Int),Below w.heap.size w W → impl_BanzhafNumbers_1.f x a1 = some r_ → Calls Try.prog g (#[.int .i64 x] ++ lb) W fun e w' => e = .returned (.int .i64 r_) ∧ Below W.heap.size W w') (h : impl_Table_powers.f k a0_0 a0_1 a1 = some r) :
  Calls Try.prog 29 #[.agg #[.int .i64 a0_0,.int .i64 a0_1],.func (.func g) #[] lb] w fun e w' => ∃ v0_ : Value,e = .returned (v0_) ∧ Kd.R (Kd.int .i64) 3 w' w.heap.size (fun _ => True) v0_ r ∧ Below w.heap.size w w' := by
 have HPV := aZ_ hp
 have EGV := aZ_ eg
 clear hp eg
 have hu25 := Try.underlying25
 have HB := aZ_ (Below.refl w.heap.size w)
 have H : ((impl_IsSimpleGame.f k a0_0 a0_1).bind fun t102 => (if t102 = true then (if 0 ≤ a0_0 then (if (a0_0 : Int).toNat ≤ 35184372088832 then ((some (List.replicate (a0_0 : Int).toNat 0 : List Int)).bind fun y103 => (impl_Table_powers.l0 k a1 y103 (y103.length : Int) 0 a0_0 a0_1)) else (none)) else (none)) else (some ([] : List Int)))) = some r := h
 clear h
 replace H := Option.bind_eq_some_iff.mp H
 obtain ⟨t102,A30,H⟩ := H
 replace H : (if t102 = true then (if 0 ≤ a0_0 then (if (a0_0 : Int).toNat ≤ 35184372088832 then ((some (List.replicate (a0_0 : Int).toNat 0 : List Int)).bind fun y103 => (impl_Table_powers.l0 k a1 y103 (y103.length : Int) 0 a0_0 a0_1)) else (none)) else (none)) else (some ([] : List Int))) = some r := H
 have A3 := aZ_ A30
 clear A30
 by_cases c4 : t102 = true
 ·subst c4
  have H1 : (if 0 ≤ a0_0 then (if (a0_0 : Int).toNat ≤ 35184372088832 then ((some (List.replicate (a0_0 : Int).toNat 0 : List Int)).bind fun y103 => (impl_Table_powers.l0 k a1 y103 (y103.length : Int) 0 a0_0 a0_1)) else (none)) else (none)) = some r := by rw [if_pos rfl] at H;exact H
  clear H
  have H := H1
  clear H1
  by_cases c5 : 0 ≤ a0_0
  ·rw [if_pos c5] at H
   have c5b0 := eq_true c5
   have c5b1 : decide (0 ≤ a0_0) = true := decide_eq_true c5
   clear c5
   by_cases c6 : (a0_0 : Int).toNat ≤ 35184372088832
   ·rw [if_pos c6] at H
    have c6b0 := eq_true c6
    have c6b1 : decide ((a0_0 : Int).toNat ≤ 35184372088832) = true := decide_eq_true c6
    clear c6
    obtain ⟨y103,hy103⟩ : ∃ y_ : List Int,y_ = (List.replicate (a0_0 : Int).toNat 0) := ⟨_,rfl⟩
    replace H : (impl_Table_powers.l0 k a1 y103 (y103.length : Int) 0 a0_0 a0_1) = some r := by first | (rw [hy103];with_reducible exact H) | (have H2_ := (Option.bind_some _ _).symm.trans H;rw [hy103];with_reducible exact H2_) | (have H2_ := (Option.bind_some _ _).symm.trans H;with_reducible exact H2_) | with_reducible exact H | (rw [hy103];exact H) | exact H
    have Ny103 := aZ_ hy103
    clear hy103
    have H' := aZ_ H
    clear H
    go_enter Try.func29,Try.ntmps29
    go_wp2_with (first | ((with_reducible refine gate_dst (N := 2) rfl ?_);refine box_event ?hg (N := 2) ?hd (cs := #[.int .i64 a0_0,.int .i64 a0_1]) (t := 25) ?hr ?_;(case hd => rfl);(case hg => rfl);(case hr => first | (go_simp;done) | (go_simp;rfl));intro gb101 hg w7 hbox hb;have n0_ := aZ_ (below_step T5_ hb);have n1_ := aZ_ (hbox);have n2_ := aZ_ ((T3_ : w.heap.size ≤ gb101));have n3_ := aZ_ ((T3_ : w.heap.size ≤ gb101));clear HB;have HB := n0_;have BK101 := n1_;have GW101 := n2_;have GE101 := n3_;clear n0_ n1_ n2_ n3_;clear hb hbox hg;have hcz8_0 : w7.cell? ⟨gb101,0,none⟩ = some (.int .i64 a0_0) := (blk_cell BK101.out 0).trans rfl;have hcz8_1 : w7.cell? ⟨gb101,1,none⟩ = some (.int .i64 a0_1) := (blk_cell BK101.out 1).trans rfl;have hfz8_0 := blk_frozen BK101.out 0;have hfz8_1 := blk_frozen BK101.out 1) | ((with_reducible refine gate_callee (f := 10) rfl ?_);refine goesL_ (some 9) rfl rfl Try.func10 T12_ rfl #[.agg #[.int .i64 a0_0,.int .i64 a0_1]] rfl T4_ ?_;(with_reducible refine (impl_IsSimpleGame.calls k a0_0 a0_1 true _ A3.out).mono ?_);rintro e w9 ⟨rfl,hb⟩;refine ⟨_,rfl,?_⟩;have n0_ := aZ_ (blk_below (g := gb101) (o := .cells #[.int .i64 a0_0,.int .i64 a0_1] 25 (0,0)) T2_ hb);have n1_ := aZ_ (below_step T1_ hb);clear BK101;clear HB;have BK101 := n0_;have HB := n1_;clear n0_ n1_;(try clear hb);(try clear hb2);(try clear hk);(try clear hi);have hcz10_0 : w9.cell? ⟨gb101,0,none⟩ = some (.int .i64 a0_0) := (blk_cell BK101.out 0).trans rfl;have hcz10_1 : w9.cell? ⟨gb101,1,none⟩ = some (.int .i64 a0_1) := (blk_cell BK101.out 1).trans rfl;have hfz10_0 := blk_frozen BK101.out 0;have hfz10_1 := blk_frozen BK101.out 1) | ((with_reducible refine gate_dst (N := 13) rfl ?_);refine Kd.R_make (Kd.int .i64) _ 3 rfl (N := 13) rfl 27 _ _ rfl a0_0 rfl rfl Try.underlying27 (.int .i64 0) 8 info3 rfl T35_ T50_ 0 (ok := fun _ => True) (okp := fun _ => True) rfl (fun _ hk => hk) trivial (of_decide_eq_true T13_) (Nat.le_trans (Nat.mul_le_mul_right _ (of_decide_eq_true T13_ : a0_0.toNat ≤ 35184372088832)) T50_) (Below.refl _ _) (Nat.le_refl _) ?_;intro v104 w11 ho12 hb hg_ hnew_;clear hg_ hnew_;(first | rw [← Ny103.out] at ho12 | (simp only [Int.reduceToNat] at ho12;rw [← Ny103.out] at ho12));have n0_ := aZ_ (Kd.R_lower ho12 (below_size T1_));have n1_ := aZ_ (blk_below (g := gb101) (o := .cells #[.int .i64 a0_0,.int .i64 a0_1] 25 (0,0)) T2_ hb);have n2_ := aZ_ (below_step T1_ hb);clear BK101;clear HB;have HO105 := n0_;have BK101 := n1_;have HB := n2_;clear n0_ n1_ n2_;clear hb ho12;obtain ⟨Ao13,co13,eo13⟩ := Kd.R_slice HO105.out;subst eo13))
    go_loopg [16] k (fun kq v16 w' => ∃ (x5_1 : List Int) (x16_1 : Int),v16 = .int .i64 x16_1 ∧ Aside0 (impl_Table_powers.l0 kq a1 x5_1 (y103.length : Int) x16_1 a0_0 a0_1 = some r) ∧ Aside0 (kq ≤ k) ∧ Aside0 (Kd.R (Kd.int .i64) 3 w' w.heap.size (fun _ => True) (.slice Ao13 y103.length co13) x5_1) ∧ Aside0 (w'.heap[gb101]? = some (.cells #[.int .i64 a0_0,.int .i64 a0_1] 25 (0,0))) ∧ Aside0 (Below w.heap.size w w'))
    case atStart => exact ⟨(y103),(0),T6_,H',⟨Nat.le_refl _⟩,⟨by (with_reducible repeat (first | apply Kd.R_alloc | apply Kd.R_drewN | apply Kd.R_drew));exact HO105.out⟩,⟨by (with_reducible repeat (first | refine blk_drewN ?_ _ | refine blk_drew ?_ | refine blk_alloc ?_ _));exact BK101.out⟩,⟨by repeat (first | (with_reducible first | exact HB.out | apply below_alloc | apply pw_below_drewN | apply below_drew1 | refine below_set ?_ GE101.out) | exact HB.out)⟩⟩
    case round =>
     clear H'
     try clear c1
     try clear c2
     try clear p2
     try clear c4
     try clear c5
     try clear c5b0
     try clear c5b1
     try clear c6
     try clear c6b0
     try clear c6b1
     try clear c10
     try clear hcz10_0
     try clear hcz10_1
     try clear hcz8_0
     try clear hcz8_1
     try clear hfz10_0
     try clear hfz10_1
     try clear hfz8_0
     try clear hfz8_1
     obtain ⟨x5_1,x16_1,rfl,HA,HK1,HO_5,BK101,HB⟩ := hrel
     have hl5_1 := (Kd.R_reads' HO_5.out).1
     rw [hl5_1] at HO_5
     (try simp only [hl5_1])
     (try simp only [hl5_1] at BK101)
     cases gk with
     | zero => exact absurd HA.out (by simp [impl_Table_powers.l0])
     | succ k1 =>
      have H := HA.out
      clear HA
      simp only [impl_Table_powers.l0] at H
      by_cases c14 : x16_1 < (y103.length : Int)
      ·rw [if_pos c14] at H
       have c14b0 : decide (x16_1 < (y103.length : Int)) = true := decide_eq_true c14
       (try rw [hl5_1] at c14b0)
       (try rw [hl5_2] at c14b0)
       clear c14
       replace H := Option.bind_eq_some_iff.mp H
       obtain ⟨t106,A150,H⟩ := H
       replace H : (impl_Table_powers.l1 k1 a1 x5_1 x16_1 (y103.length : Int) x16_1 t106 0 a0_0 a0_1) = some r := H
       have A15 := aZ_ A150
       clear A150
       have H' := aZ_ H
       clear H
       have hcz16_0 : wr.cell? ⟨gb101,0,none⟩ = some (.int .i64 a0_0) := (blk_cell BK101.out 0).trans rfl
       have hcz16_1 : wr.cell? ⟨gb101,1,none⟩ = some (.int .i64 a0_1) := (blk_cell BK101.out 1).trans rfl
       have hfz16_0 := blk_frozen BK101.out 0
       have hfz16_1 := blk_frozen BK101.out 1
       go_wp2_with (first | ((with_reducible refine gate_callee (f := 37) rfl ?_);refine goesL_ (some 20) rfl rfl Try.func37 T12_ rfl #[.agg #[.int .i64 a0_0,.int .i64 a0_1]] rfl T4_ ?_;(with_reducible refine (impl_Table_size.calls a0_0 a0_1 t106 _ A15.out).mono ?_);rintro e w17 ⟨rfl,hb⟩;refine ⟨_,rfl,?_⟩;have n0_ := aZ_ (Kd.R_below T52_ hb);have n1_ := aZ_ (blk_below (g := gb101) (o := .cells #[.int .i64 a0_0,.int .i64 a0_1] 25 (0,0)) T2_ hb);have n2_ := aZ_ (below_step T1_ hb);clear HO_5;clear BK101;clear HB;have HO_5 := n0_;have BK101 := n1_;have HB := n2_;clear n0_ n1_ n2_;(try clear hb);(try clear hb2);(try clear hk);(try clear hi)))
       go_loopg [21] k1 (fun kq v21 w' => ∃ (x5_2 : List Int) (x21_2 : Int),v21 = .int .i64 x21_2 ∧ Aside0 (impl_Table_powers.l1 kq a1 x5_2 x16_1 (y103.length : Int) x16_1 t106 x21_2 a0_0 a0_1 = some r) ∧ Aside0 (kq ≤ k1) ∧ Aside0 (Kd.R (Kd.int .i64) 3 w' w.heap.size (fun _ => True) (.slice Ao13 x5_1.length co13) x5_2) ∧ Aside0 (w'.heap[gb101]? = some (.cells #[.int .i64 a0_0,.int .i64 a0_1] 25 (0,0))) ∧ Aside0 (Below w.heap.size w w'))
       case atStart => exact ⟨(x5_1),(0),T6_,H',⟨Nat.le_refl _⟩,⟨by (try simp only [hl5_1]);(with_reducible repeat (first | apply Kd.R_alloc | apply Kd.R_drewN | apply Kd.R_drew));exact HO_5.out⟩,⟨by (try simp only [hl5_1]);(with_reducible repeat (first | refine blk_drewN ?_ _ | refine blk_drew ?_ | refine blk_alloc ?_ _));exact BK101.out⟩,⟨by repeat (first | (with_reducible first | exact HB.out | apply below_alloc | apply pw_below_drewN | apply below_drew1 | refine below_set ?_ GE101.out) | exact HB.out)⟩⟩
       case round =>
        clear H'
        try clear c1
        try clear c2
        try clear p2
        try clear c3
        try clear c4
        try clear c5
        try clear c5b0
        try clear c5b1
        try clear c6
        try clear c6b0
        try clear c6b1
        try clear c10
        try clear c14
        try clear c14b0
        try clear hcz10_0
        try clear hcz10_1
        try clear hcz16_0
        try clear hcz16_1
        try clear hcz8_0
        try clear hcz8_1
        try clear hfz10_0
        try clear hfz10_1
        try clear hfz16_0
        try clear hfz16_1
        try clear hfz8_0
        try clear hfz8_1
        try clear p2
        obtain ⟨x5_2,x21_2,rfl,HA,HK2,HO_5,BK101,HB⟩ := hrel
        have hl5_2 := (Kd.R_reads' HO_5.out).1
        rw [hl5_2] at HO_5
        (try simp only [hl5_2])
        (try simp only [hl5_2] at BK101)
        cases gk with
        | zero => exact absurd HA.out (by simp [impl_Table_powers.l1])
        | succ k2 =>
         have H := HA.out
         clear HA
         simp only [impl_Table_powers.l1] at H
         by_cases c18 : x21_2 < t106
         ·rw [if_pos c18] at H
          have c18b0 : decide (x21_2 < t106) = true := decide_eq_true c18
          clear c18
          have HC19 := aZ_ H
          clear H
          go_upto_region 10 with (fail)
          go_cut [35] (fun v35 wc => ∃ (kq : Nat) (x35_18 : Bool),v35 = .bool x35_18 ∧ Aside0 (impl_Table_powers.j2 kq a1 x5_2 x16_1 x21_2 (y103.length : Int) x16_1 t106 x21_2 x35_18 a0_0 a0_1 = some r) ∧ Aside0 (kq ≤ k2) ∧ Aside0 (Kd.R (Kd.int .i64) 3 wc w.heap.size (fun _ => True) (.slice Ao13 x5_2.length co13) x5_2) ∧ Aside0 (wc.heap[gb101]? = some (.cells #[.int .i64 a0_0,.int .i64 a0_1] 25 (0,0))) ∧ Aside0 (Below w.heap.size w wc))
          case first =>
           have H := HC19.out
           clear HC19
           by_cases c20 : 0 ≤ x16_1
           ·rw [if_pos c20] at H
            have c20b0 := eq_true c20
            have c20b1 : decide (0 ≤ x16_1) = true := decide_eq_true c20
            clear c20
            obtain ⟨ji21,hji21⟩ : ∃ j_ : Int,(shr .i64 x21_2 x16_1) = j_ := ⟨_,rfl⟩
            replace H : (if (Go.bits .and .i64 (ji21) 1) = 0 then ((impl_Table_changes.f a0_0 a0_1 x21_2 (shl .i64 1 x16_1)).bind fun t107 => (impl_Table_powers.j2 k2 a1 x5_2 x16_1 x21_2 (y103.length : Int) x16_1 t106 x21_2 t107 a0_0 a0_1)) else (impl_Table_powers.j2 k2 a1 x5_2 x16_1 x21_2 (y103.length : Int) x16_1 t106 x21_2 false a0_0 a0_1)) = some r := by first | (rw [hji21] at H;exact H) | (simp only [hji21] at H ⊢;exact H)
            have hji21_ : (x21_2 / 2 ^ min x16_1.toNat 64) = ji21 := hji21
            have hji21z : x16_1 ≤ 64 → (x21_2 / 2 ^ x16_1.toNat) = ji21 := shr_small hji21
            by_cases c22 : (Go.bits .and .i64 (ji21) 1) = 0
            ·rw [if_pos c22] at H
             have c22b0 : ((Go.bits .and .i64 (ji21) 1) == 0) = true := beq_iff_eq.mpr c22
             have c22b1 : ((Go.bits .and .i64 (ji21) 1) != 0) = false := bne_eq_false_iff_eq.mpr c22
             clear c22
             (first | rw [c22b0] | (simp only [i64_w,i32_w];rw [c22b0]) | skip)
             have c23b0 := eq_true (of_decide_eq_true T13_ : 0 ≤ x16_1)
             obtain ⟨ji24,hji24⟩ : ∃ j_ : Int,(shl .i64 1 x16_1) = j_ := ⟨_,rfl⟩
             replace H : ((impl_Table_changes.f a0_0 a0_1 x21_2 (ji24)).bind fun t107 => (impl_Table_powers.j2 k2 a1 x5_2 x16_1 x21_2 (y103.length : Int) x16_1 t106 x21_2 t107 a0_0 a0_1)) = some r := by first | (rw [hji24] at H;exact H) | (simp only [hji24] at H ⊢;exact H)
             have hji24_ : (IntKind.i64.wrap (1 * 2 ^ min x16_1.toNat 64)) = ji24 := hji24
             have hji24z : x16_1 ≤ 64 → (IntKind.i64.wrap (1 * 2 ^ x16_1.toNat)) = ji24 := shl_small hji24
             have hji24u : (IntKind.i64.wrap (2 ^ min x16_1.toNat 64)) = ji24 := by have h_ := hji24_;rw [Int.one_mul] at h_;exact h_
             have hji24v : x16_1 ≤ 64 → (IntKind.i64.wrap (2 ^ x16_1.toNat)) = ji24 := fun hle_ => by have h_ := hji24z hle_;rw [Int.one_mul] at h_;exact h_
             have hji24y : (wrap64 (1 * 2 ^ min x16_1.toNat 64)) = ji24 := (i64_w _).symm.trans hji24_
             have hji24x : x16_1 ≤ 64 → (wrap64 (1 * 2 ^ x16_1.toNat)) = ji24 := fun h_ => (i64_w _).symm.trans (hji24z h_)
             replace H := Option.bind_eq_some_iff.mp H
             obtain ⟨t107,A250,H⟩ := H
             replace H : (impl_Table_powers.j2 k2 a1 x5_2 x16_1 x21_2 (y103.length : Int) x16_1 t106 x21_2 t107 a0_0 a0_1) = some r := H
             have A25 := aZ_ A250
             clear A250
             have H' := aZ_ H
             clear H
             try go_wp2
             have n0_ := aZ_ (Kd.R_drew HO_5.out)
             have n1_ := aZ_ (blk_drew BK101.out)
             have n2_ := aZ_ (below_drew1 HB.out)
             clear HO_5
             clear BK101
             clear HB
             have HO_5 := n0_
             have BK101 := n1_
             have HB := n2_
             clear n0_ n1_ n2_
             refine start_ (n := 12) (S := fun w' => w'.cell? ⟨gb101,0,none⟩ = some (.int .i64 a0_0) ∧ w'.cell? ⟨gb101,1,none⟩ = some (.int .i64 a0_1)) (ds := []) #[false,false,false,false,false,false,false,false,false,false,false,false] T12_ rfl rfl ⟨(blk_cell BK101.out 0).trans rfl,(blk_cell BK101.out 1).trans rfl⟩ (fun hHeld => ?_);refine with_tabW impl_Table_powers.tab10 impl_Table_powers.bits10 (fun HT_ HW_ => ?_)
             generalize wr.drew = w26 at HO_5 BK101 HB hHeld ⊢
             refine pZ_ 0 (some 24) #[true,false,false,false,false,false,false,false,false,false,false,false] ?_
             refine pZ_ 1 (some 25) #[true,true,false,false,false,false,false,false,false,false,false,false] ?_
             refine pZ_ 2 (some 26) #[true,true,true,false,false,false,false,false,false,false,false,false] ?_
             refine pZ_ 3 (some 27) #[true,true,true,true,false,false,false,false,false,false,false,false] ?_
             refine pZ_ 4 (some 28) #[true,true,true,true,true,false,false,false,false,false,false,false] ?_
             refine pZ_ 5 (some 29) #[true,true,true,true,true,true,false,false,false,false,false,false] ?_
             refine pZ_ 7 (some 31) #[true,true,true,true,true,true,false,true,false,false,false,false] ?_
             refine pZ_ 8 (some 32) #[true,true,true,true,true,true,false,true,true,false,false,false] ?_
             refine pZ_ 9 (some 33) #[true,true,true,true,true,true,false,true,true,true,false,false] ?_
             refine tZ2_ 6 (some 30) #[true,true,true,true,true,true,true,true,true,true,false,false] hHeld ?_
             refine one_ (i := 10) (N := some 34) #[true,true,true,true,true,true,true,true,true,true,true,false] rfl rfl (one_of HT_.out T12_) T35_ (fun K hK => ?_)
             refine goes_ Try.func55 T12_ rfl #[.agg #[.int .i64 a0_0,.int .i64 a0_1],.int .i64 x21_2,.int .i64 ji24] (by rfl) rfl rfl (by (try simp only [List.map_toArray,List.map_cons,List.map_nil]);first | done | (simp only [hji24];rfl) | rfl | (simp only [List.length_drop,List.length_take];rfl)) ?_
             with_reducible refine (impl_Table_changes.calls a0_0 a0_1 x21_2 ji24 t107 _ A25.out).mono ?_
             rintro e w27 ⟨rfl,hb⟩
             refine ⟨_,rfl,?_⟩
             have n0_ := aZ_ (Kd.R_below T52_ hb)
             have n1_ := aZ_ (blk_below (g := gb101) (o := .cells #[.int .i64 a0_0,.int .i64 a0_1] 25 (0,0)) T2_ hb)
             have n2_ := aZ_ (below_step T1_ hb)
             clear HO_5
             clear BK101
             clear HB
             have HO_5 := n0_
             have BK101 := n1_
             have HB := n2_
             clear n0_ n1_ n2_
             (try clear hb)
             (try clear hb2)
             (try clear hk)
             (try clear hi)
             refine hK.out _ _ ⟨(blk_cell BK101.out 0).trans rfl,(blk_cell BK101.out 1).trans rfl⟩ (fun hHeld => ?_)
             clear hK K
             refine norm_ (a' := ?_) ?_ ?_
             rotate_left
             ·show Act.put _ (some 34) _ = _
              simp only [Act.put,List.setIfInBounds_toArray,List.set_cons_zero,List.set_cons_succ,i64_w,i32_w]
              rfl
             refine pZ_ 11 (some 35) #[true,true,true,true,true,true,true,true,true,true,true,true] ?_
             refine done_ (done_of HT_.out T12_) ?_
             try go_wp2
             go_meet
             case rel => exact ⟨_,(t107),T6_,H',⟨by have := HK1.out;have := HK2.out;first | omega | exact Nat.le_refl _⟩,⟨by (try simp only [hl5_1]);(try simp only [hl5_2]);(with_reducible repeat (first | apply Kd.R_alloc | apply Kd.R_drewN | apply Kd.R_drew));exact HO_5.out⟩,⟨by (try simp only [hl5_1]);(try simp only [hl5_2]);(with_reducible repeat (first | refine blk_drewN ?_ _ | refine blk_drew ?_ | refine blk_alloc ?_ _));exact BK101.out⟩,⟨by repeat (first | (with_reducible first | exact HB.out | apply below_alloc | apply pw_below_drewN | apply below_drew1 | refine below_set ?_ GE101.out) | exact HB.out)⟩⟩
            ·rw [if_neg c22] at H
             have c22b0 : ((Go.bits .and .i64 (ji21) 1) == 0) = false := beq_eq_false_iff_ne.mpr c22
             have c22b1 : ((Go.bits .and .i64 (ji21) 1) != 0) = true := bne_iff_ne.mpr c22
             (first | rw [c22b0] | (simp only [i64_w,i32_w];rw [c22b0]) | skip)
             have H' := aZ_ H
             clear H
             try go_wp2
             have n0_ := aZ_ (Kd.R_drew HO_5.out)
             have n1_ := aZ_ (blk_drew BK101.out)
             have n2_ := aZ_ (below_drew1 HB.out)
             clear HO_5
             clear BK101
             clear HB
             have HO_5 := n0_
             have BK101 := n1_
             have HB := n2_
             clear n0_ n1_ n2_
             refine start_ (n := 12) (S := fun w' => True) (ds := []) #[false,false,false,false,false,false,false,false,false,false,false,false] T12_ rfl rfl trivial (fun hHeld => ?_);refine with_tabW impl_Table_powers.tab10 impl_Table_powers.bits10 (fun HT_ HW_ => ?_)
             generalize wr.drew = w28 at HO_5 BK101 HB hHeld ⊢
             refine pZ_ 0 (some 24) #[true,false,false,false,false,false,false,false,false,false,false,false] ?_
             refine pZ_ 1 (some 25) #[true,true,false,false,false,false,false,false,false,false,false,false] ?_
             refine pZ_ 2 (some 26) #[true,true,true,false,false,false,false,false,false,false,false,false] ?_
             refine pZ_ 3 (some 27) #[true,true,true,true,false,false,false,false,false,false,false,false] ?_
             refine pZ_ 4 (some 28) #[true,true,true,true,true,false,false,false,false,false,false,false] ?_
             refine pZ_ 5 (some 29) #[true,true,true,true,true,true,false,false,false,false,false,false] ?_
             refine oZ_ 6 (some 30) #[true,true,true,true,true,true,true,false,false,false,false,false] ?_
             refine oZ_ 7 (some 31) #[true,true,true,true,true,true,true,true,false,false,false,false] ?_
             refine oZ_ 8 (some 32) #[true,true,true,true,true,true,true,true,true,false,false,false] ?_
             refine oZ_ 9 (some 33) #[true,true,true,true,true,true,true,true,true,true,false,false] ?_
             refine oZ_ 10 (some 34) #[true,true,true,true,true,true,true,true,true,true,true,false] ?_
             refine pZ_ 11 (some 35) #[true,true,true,true,true,true,true,true,true,true,true,true] ?_
             refine done_ (done_of HT_.out T12_) ?_
             try go_wp2
             go_meet
             case rel => exact ⟨_,(false),T6_,H',⟨by have := HK1.out;have := HK2.out;first | omega | exact Nat.le_refl _⟩,⟨by (try simp only [hl5_1]);(try simp only [hl5_2]);(with_reducible repeat (first | apply Kd.R_alloc | apply Kd.R_drewN | apply Kd.R_drew));exact HO_5.out⟩,⟨by (try simp only [hl5_1]);(try simp only [hl5_2]);(with_reducible repeat (first | refine blk_drewN ?_ _ | refine blk_drew ?_ | refine blk_alloc ?_ _));exact BK101.out⟩,⟨by repeat (first | (with_reducible first | exact HB.out | apply below_alloc | apply pw_below_drewN | apply below_drew1 | refine below_set ?_ GE101.out) | exact HB.out)⟩⟩
           ·rw [if_neg c20] at H
            exact absurd H T40_
          case rest =>
           clear HC19
           try clear c1
           try clear c2
           try clear p2
           try clear c3
           try clear c4
           try clear c5
           try clear c5b0
           try clear c5b1
           try clear c6
           try clear c6b0
           try clear c6b1
           try clear p6
           try clear c10
           try clear c14
           try clear c14b0
           try clear c18
           try clear c18b0
           try clear c20
           try clear c20b0
           try clear c20b1
           try clear c22
           try clear c22b0
           try clear c22b1
           try clear c23
           try clear c23b0
           try clear hcz10_0
           try clear hcz10_1
           try clear hcz16_0
           try clear hcz16_1
           try clear hcz8_0
           try clear hcz8_1
           try clear hfz10_0
           try clear hfz10_1
           try clear hfz16_0
           try clear hfz16_1
           try clear hfz8_0
           try clear hfz8_1
           try clear p2
           obtain ⟨kq,x35_18,rfl,HA,HJ18,HO_5,BK101,HB⟩ := hcut
           cases kq with
           | zero => exact absurd HA.out (by simp [impl_Table_powers.j2])
           | succ kj18 =>
            have H := HA.out
            clear HA
            simp only [impl_Table_powers.j2] at H
            by_cases c29 : x35_18 = true
            ·subst c29
             have H1 : (if 0 ≤ x16_1 then (if x16_1 < (x5_2.length : Int) then ((impl_ones.f x21_2).bind fun t109 => ((impl_BanzhafNumbers_1.f t109 a1).bind fun t110 => (impl_Table_powers.l1 kj18 a1 (x5_2.set (x16_1 : Int).toNat (wrap64 ((rd x5_2 x16_1) + t110))) x16_1 (y103.length : Int) x16_1 t106 (wrap64 (x21_2 + 1)) a0_0 a0_1))) else (none)) else (none)) = some r := by rw [if_pos rfl] at H;exact H
             clear H
             have H := H1
             clear H1
             by_cases c30 : 0 ≤ x16_1
             ·rw [if_pos c30] at H
              have c30b0 : decide (0 ≤ x16_1) = true := decide_eq_true c30
              clear c30
              by_cases c31 : x16_1 < (x5_2.length : Int)
              ·rw [if_pos c31] at H
               have c31b0 : decide (x16_1 < (x5_2.length : Int)) = true := decide_eq_true c31
               (try rw [hl5_1] at c31b0)
               (try rw [hl5_2] at c31b0)
               clear c31
               replace H := Option.bind_eq_some_iff.mp H
               obtain ⟨t109,A320,H⟩ := H
               replace H : ((impl_BanzhafNumbers_1.f t109 a1).bind fun t110 => (impl_Table_powers.l1 kj18 a1 (x5_2.set (x16_1 : Int).toNat (wrap64 ((rd x5_2 x16_1) + t110))) x16_1 (y103.length : Int) x16_1 t106 (wrap64 (x21_2 + 1)) a0_0 a0_1)) = some r := H
               have A32 := aZ_ A320
               clear A320
               replace H := Option.bind_eq_some_iff.mp H
               obtain ⟨t110,A330,H⟩ := H
               replace H : (impl_Table_powers.l1 kj18 a1 (x5_2.set (x16_1 : Int).toNat (wrap64 ((rd x5_2 x16_1) + t110))) x16_1 (y103.length : Int) x16_1 t106 (wrap64 (x21_2 + 1)) a0_0 a0_1) = some r := H
               have A33 := aZ_ A330
               clear A330
               obtain ⟨y111,hy111⟩ : ∃ y_ : List Int,y_ = (x5_2.set (x16_1 : Int).toNat (wrap64 ((rd x5_2 x16_1) + t110))) := ⟨_,rfl⟩
               replace H : (impl_Table_powers.l1 kj18 a1 y111 x16_1 (y103.length : Int) x16_1 t106 (wrap64 (x21_2 + 1)) a0_0 a0_1) = some r := by first | (rw [hy111];with_reducible exact H) | (have H2_ := (Option.bind_some _ _).symm.trans H;rw [hy111];with_reducible exact H2_) | (have H2_ := (Option.bind_some _ _).symm.trans H;with_reducible exact H2_) | with_reducible exact H | (rw [hy111];exact H) | exact H
               have Ny111 := aZ_ hy111
               clear hy111
               have H' := aZ_ H
               clear H
               try go_wp2
               have n0_ := aZ_ (Kd.R_drew HO_5.out)
               have n1_ := aZ_ (blk_drew BK101.out)
               have n2_ := aZ_ (below_drew1 HB.out)
               clear HO_5
               clear BK101
               clear HB
               have HO_5 := n0_
               have BK101 := n1_
               have HB := n2_
               clear n0_ n1_ n2_
               have p108 : 0 ≤ (x16_1 : Int) := of_decide_eq_true T13_
               have q108 : x16_1 < (x5_2.length : Int) := of_decide_eq_true T13_
               obtain ⟨ad108,e108,hx108_0⟩ := Kd.at_int (Kd.R_reads' HO_5.out).2.2 x16_1 p108 q108
               cases e108
               replace p108 := eq_true p108
               replace q108 := eq_true q108
               refine start_ (n := 11) (S := fun w' => w'.cell? (ad108.add (x16_1).toNat) = some (.int .i64 (rd x5_2 x16_1))) (ds := [10]) #[false,false,false,false,false,false,false,false,false,false,false] T12_ rfl rfl (hx108_0) (fun hHeld => ?_);refine with_tabW impl_Table_powers.tab11 impl_Table_powers.bits11 (fun HT_ HW_ => ?_)
               generalize wc.drew = w35 at HO_5 BK101 HB hx108_0 hHeld ⊢
               refine pZ_ 0 (some 36) #[true,false,false,false,false,false,false,false,false,false,false] ?_
               refine pZ_ 1 (some 37) #[true,true,false,false,false,false,false,false,false,false,false] ?_
               refine pZ_ 2 (some 38) #[true,true,true,false,false,false,false,false,false,false,false] ?_
               refine pZ_ 4 (some 40) #[true,true,true,false,true,false,false,false,false,false,false] ?_
               refine pZ_ 5 (some 41) #[true,true,true,false,true,true,false,false,false,false,false] ?_
               refine take_ (i := 3) (N := some 39) (v := ?_) (a' := ?_) #[true,true,true,true,true,true,false,false,false,false,false] rfl rfl (take_ofW HT_.out HW_.out T12_) (fun _ _ _ h => h) (Or.inl ⟨by rfl,?_⟩) hHeld ?_ ?_
               rotate_left
               ·intro w' s0
                go_simp
                with_reducible rfl
               rotate_left
               ·simp only [Act.put,List.setIfInBounds_toArray,List.set_cons_zero,List.set_cons_succ,i64_w,i32_w]
                rfl
               refine one_ (i := 6) (N := some 42) #[true,true,true,true,true,true,true,false,false,false,false] rfl rfl (one_of HT_.out T12_) T35_ (fun K hK => ?_)
               refine gZ_ Try.func46 #[.int .i64 x21_2] ?_
               with_reducible refine (impl_ones.calls x21_2 t109 _ A32.out).mono ?_
               rintro e w' ⟨rfl,⟨nd,rfl⟩⟩
               refine ⟨_,rfl,?_⟩
               refine hK.out _ _ (hHeld) (fun hHeld => ?_)
               clear hK K
               refine norm_ (a' := ?_) ?_ ?_
               rotate_left
               ·show Act.put _ (some 42) _ = _
                simp only [Act.put,List.setIfInBounds_toArray,List.set_cons_zero,List.set_cons_succ,i64_w,i32_w]
                rfl
               refine one_ (i := 7) (N := some 43) #[true,true,true,true,true,true,true,true,false,false,false] rfl rfl (one_of HT_.out T12_) T35_ (fun K hK => ?_)
               refine goesV_ EGV.out #[.int .i64 t109] (by rfl) rfl rfl rfl (by (try simp only [List.map_toArray,List.map_cons,List.map_nil]);first | done | rfl) ?_
               refine (HPV.out _ t109 t110 (by repeat (first | (with_reducible first | exact HB.out | apply pw_below_drewN | apply below_drew1) | exact HB.out)) A33.out).mono ?_
               rintro e w36 ⟨rfl,hb⟩
               have HS0_ := (hb.cell (World.block_lt_of_cell? _ _ (hHeld))).trans (hHeld)
               refine ⟨_,rfl,?_⟩
               have n0_ := aZ_ (Kd.R_below T52_ hb)
               have n1_ := aZ_ (blk_below (g := gb101) (o := .cells #[.int .i64 a0_0,.int .i64 a0_1] 25 (0,0)) T2_ hb)
               have n2_ := aZ_ (below_step T1_ hb)
               clear HO_5
               clear BK101
               clear HB
               have HO_5 := n0_
               have BK101 := n1_
               have HB := n2_
               clear n0_ n1_ n2_
               (try clear hb)
               (try clear hb2)
               (try clear hk)
               (try clear hi)
               have p34 : 0 ≤ (x16_1 : Int) := of_decide_eq_true T13_
               have q34 : (x16_1 : Int) < ((x5_2.length : Int) : Int) := of_decide_eq_true T13_
               obtain ⟨go34,co34,eo34,gb34,gl34,cl34,HG34⟩ := Kd.R_form HO_5.out T50_
               (first | cases eo34 | (injection eo34 with ea_ en_ ec_;(first | subst ea_ | (injection ea_ with ea_;subst ea_));subst ec_;clear en_))
               have GB34 := aZ_ gb34
               have GG34 := aZ_ HG34
               clear gb34 gl34 HG34
               (first | simp only [add_plain] at hx108_0 | skip)
               obtain ⟨hx34_0,hf34_0⟩ := Kd.R_celln 0 HO_5.out (x16_1 : Int) p34 q34
               replace p34 := eq_true p34
               replace q34 := eq_true q34
               have HP37 := Kd.R_putn HO_5.out (x16_1 : Int) (wrap64 ((rd x5_2 x16_1) + t110))
               rw [← Ny111.out] at HP37
               have HQ37 := aZ_ HP37
               clear HP37
               refine hK.out _ _ (HS0_) (fun hHeld => ?_)
               clear hK K
               refine norm_ (a' := ?_) ?_ ?_
               rotate_left
               ·show Act.put _ (some 43) _ = _
                simp only [Act.put,List.setIfInBounds_toArray,List.set_cons_zero,List.set_cons_succ,i64_w,i32_w]
                rfl
               refine pZ_ 8 (some 44) #[true,true,true,true,true,true,true,true,true,false,false] ?_
               refine pZ_ 9 (some 45) #[true,true,true,true,true,true,true,true,true,true,false] ?_
               refine last_ (i := 10) (N := none) #[true,true,true,true,true,true,true,true,true,true,true] rfl rfl (one_of HT_.out T12_) T35_ (fun K hK => ?_)
               refine skip_ (w1 := ?_) (by rfl) rfl ?_ ?_
               rotate_left
               ·go_simp
                rfl
               refine hK.out _ _ ?_
               clear hK K
               refine done_ (done_of HT_.out T12_) ?_
               try go_wp2
               (try simp only [← hl5_2])
               go_roundg kj18
               case measure => have := HK1.out;have := HK2.out;have := HJ18.out;omega
               case rel => exact ⟨(y111),(wrap64 (x21_2 + 1)),T6_,H',⟨by have := HK1.out;have := HK2.out;have := HJ18.out;omega⟩,⟨by (try simp only [hl5_1]);(try simp only [hl5_2]);(with_reducible repeat (first | apply Kd.R_alloc | apply Kd.R_drewN | apply Kd.R_drew));exact HQ37.out⟩,⟨by (try simp only [hl5_1]);(try simp only [hl5_2]);(with_reducible repeat (first | refine blk_drewN ?_ _ | refine blk_drew ?_ | refine blk_alloc ?_ _));refine blk_far ?_ (by have h_ := Kd.R_ne HO_5.out BK101.out T35_;intro e_;exact h_ (by rw [e_];rfl)) _;(with_reducible repeat (first | refine blk_drewN ?_ _ | refine blk_drew ?_ | refine blk_alloc ?_ _));exact BK101.out⟩,⟨by repeat (first | (with_reducible first | exact HB.out | apply below_alloc | apply pw_below_drewN | apply below_drew1 | refine below_set ?_ GB34.out | refine below_set ?_ GE101.out) | exact HB.out)⟩⟩
              ·rw [if_neg c31] at H
               exact absurd H T40_
             ·rw [if_neg c30] at H
              exact absurd H T40_
            ·replace c29 := Bool.eq_false_iff.mpr c29
             subst c29
             have H1 : (impl_Table_powers.l1 kj18 a1 x5_2 x16_1 (y103.length : Int) x16_1 t106 (wrap64 (x21_2 + 1)) a0_0 a0_1) = some r := by rw [if_neg (show ¬ (false = true) by decide)] at H;exact H
             clear H
             have H := H1
             clear H1
             have H' := aZ_ H
             clear H
             go_wp2
             (try simp only [← hl5_2])
             go_roundg kj18
             case measure => have := HK1.out;have := HK2.out;have := HJ18.out;omega
             case rel => exact ⟨(x5_2),(wrap64 (x21_2 + 1)),T6_,H',⟨by have := HK1.out;have := HK2.out;have := HJ18.out;omega⟩,⟨by (try simp only [hl5_1]);(try simp only [hl5_2]);(with_reducible repeat (first | apply Kd.R_alloc | apply Kd.R_drewN | apply Kd.R_drew));exact HO_5.out⟩,⟨by (try simp only [hl5_1]);(try simp only [hl5_2]);(with_reducible repeat (first | refine blk_drewN ?_ _ | refine blk_drew ?_ | refine blk_alloc ?_ _));exact BK101.out⟩,⟨by repeat (first | (with_reducible first | exact HB.out | apply below_alloc | apply pw_below_drewN | apply below_drew1 | refine below_set ?_ GE101.out) | exact HB.out)⟩⟩
         ·rw [if_neg c18] at H
          have c18b0 : decide (x21_2 < t106) = false := decide_eq_false c18
          clear c18
          have H' := aZ_ H
          clear H
          go_wp2
          (try simp only [← hl5_1,← hl5_2])
          go_roundg k2
          case measure => have := HK1.out;have := HK2.out;omega
          case rel => exact ⟨(x5_2),(wrap64 (x16_1 + 1)),T6_,H',⟨by have := HK1.out;have := HK2.out;omega⟩,⟨by (try simp only [hl5_1]);(try simp only [hl5_2]);(with_reducible repeat (first | apply Kd.R_alloc | apply Kd.R_drewN | apply Kd.R_drew));exact HO_5.out⟩,⟨by (try simp only [hl5_1]);(try simp only [hl5_2]);(with_reducible repeat (first | refine blk_drewN ?_ _ | refine blk_drew ?_ | refine blk_alloc ?_ _));exact BK101.out⟩,⟨by repeat (first | (with_reducible first | exact HB.out | apply below_alloc | apply pw_below_drewN | apply below_drew1 | refine below_set ?_ GE101.out) | exact HB.out)⟩⟩
      ·rw [if_neg c14] at H
       have c14b0 : decide (x16_1 < (y103.length : Int)) = false := decide_eq_false c14
       (try rw [hl5_1] at c14b0)
       (try rw [hl5_2] at c14b0)
       clear c14
       obtain rfl := Option.some.inj H
       go_wp2
       go_ret
       exact ⟨_,by first | rfl | (simp [errW_none,errW_some] <;> rfl) | (simp [*,errW_none,errW_some] <;> rfl),by (with_reducible repeat (first | apply Kd.R_alloc | apply Kd.R_drewN | apply Kd.R_drew));exact HO_5.out,by repeat (first | (with_reducible first | exact HB.out | apply below_alloc | apply pw_below_drewN | apply below_drew1 | refine below_set ?_ GE101.out) | exact HB.out)⟩
   ·rw [if_neg c6] at H
    exact absurd H T40_
  ·rw [if_neg c5] at H
   exact absurd H T40_
 ·replace c4 := Bool.eq_false_iff.mpr c4
  subst c4
  have H1 : (some ([] : List Int)) = some r := by rw [if_neg (show ¬ (false = true) by decide)] at H;exact H
  clear H
  have H := H1
  clear H1
  obtain rfl := Option.some.inj H
  go_enter Try.func29,Try.ntmps29
  go_wp2_with (first | ((with_reducible refine gate_dst (N := 2) rfl ?_);refine box_event ?hg (N := 2) ?hd (cs := #[.int .i64 a0_0,.int .i64 a0_1]) (t := 25) ?hr ?_;(case hd => rfl);(case hg => rfl);(case hr => first | (go_simp;done) | (go_simp;rfl));intro gb101 hg w38 hbox hb;have n0_ := aZ_ (below_step T5_ hb);have n1_ := aZ_ (hbox);have n2_ := aZ_ ((T3_ : w.heap.size ≤ gb101));have n3_ := aZ_ ((T3_ : w.heap.size ≤ gb101));clear HB;have HB := n0_;have BK101 := n1_;have GW101 := n2_;have GE101 := n3_;clear n0_ n1_ n2_ n3_;clear hb hbox hg;have hcz39_0 : w38.cell? ⟨gb101,0,none⟩ = some (.int .i64 a0_0) := (blk_cell BK101.out 0).trans rfl;have hcz39_1 : w38.cell? ⟨gb101,1,none⟩ = some (.int .i64 a0_1) := (blk_cell BK101.out 1).trans rfl;have hfz39_0 := blk_frozen BK101.out 0;have hfz39_1 := blk_frozen BK101.out 1) | ((with_reducible refine gate_callee (f := 10) rfl ?_);refine goesL_ (some 9) rfl rfl Try.func10 T12_ rfl #[.agg #[.int .i64 a0_0,.int .i64 a0_1]] rfl T4_ ?_;(with_reducible refine (impl_IsSimpleGame.calls k a0_0 a0_1 false _ A3.out).mono ?_);rintro e w40 ⟨rfl,hb⟩;refine ⟨_,rfl,?_⟩;have n0_ := aZ_ (blk_below (g := gb101) (o := .cells #[.int .i64 a0_0,.int .i64 a0_1] 25 (0,0)) T2_ hb);have n1_ := aZ_ (below_step T1_ hb);clear BK101;clear HB;have BK101 := n0_;have HB := n1_;clear n0_ n1_;(try clear hb);(try clear hb2);(try clear hk);(try clear hi)))
  go_ret
  exact ⟨_,by first | rfl | (simp [errW_none,errW_some] <;> rfl) | (simp [*,errW_none,errW_some] <;> rfl),by first | exact Kd.R_nil _ _ _ _ _ | exact Kd.N_nil _ _ _ _ _ | exact Kd.V_nil _ _ _ _ _ | exact Kd.Q_nil _ _ _ _ _ | exact Kd.S_nil _ _ _ _ _,by repeat (first | (with_reducible first | exact HB.out | apply below_alloc | apply pw_below_drewN | apply below_drew1 | refine below_set ?_ GE101.out) | exact HB.out)⟩
set_option maxHeartbeats 400000 in
set_option maxRecDepth 100000 in
theorem impl_ShapleyNumbers_1.any (n v x r : Int) (hn : 0 ≤ n) (g1 : Nat) (w : World) (h1 : w.heap[g1]? = some (.cells #[.int .i64 n,.int .i64 v] 25 (0,0))) (h : impl_BanzhafNumbers_1.f x n = some r) :
  Calls Try.prog 30 (#[.int .i64 x] ++ #[.pointer (some ⟨g1,0,none⟩)]) w fun e w' => e = .returned (.int .i64 r) ∧ Below w.heap.size w w' := by
 show Calls Try.prog 30 #[.int .i64 x,.pointer (some ⟨g1,0,none⟩)] w _
 have hu := Try.underlying25
 unfold impl_BanzhafNumbers_1.f at h
 rw [if_neg T50_,if_neg T50_] at h
 obtain ⟨t,ht,h⟩ := Option.bind_eq_some_iff.mp h
 obtain ⟨u,hu',h⟩ := Option.bind_eq_some_iff.mp h
 cases h
 have HT := aZ_ ht
 have HU := aZ_ hu'
 clear ht hu' hn
 have C0 : Aside0 (w.cell? ⟨g1,0,none⟩ = some (.int .i64 n)) := ⟨(blk_cell h1 0).trans rfl⟩
 have HB := aZ_ (Below.refl w.heap.size w)
 clear h1
 go_enter Try.func30,Try.ntmps30
 go_wp2
 have n0_ : Aside0 (w.drew.cell? ⟨g1,0,none⟩ = some (.int .i64 n)) := C0
 clear C0
 have C0 := n0_
 clear n0_
 have n_ := aZ_ (below_drew1 HB.out)
 clear HB
 have HB := n_
 clear n_
 refine start_ (n := 10) (S := (fun w_ => w_.cell? ⟨g1,0,none⟩ = some (.int .i64 n))) (ds := []) #[false,false,false,false,false,false,false,false,false,false] T12_ rfl rfl C0.out (fun hHeld => ?_)
 generalize w.drew = W0_ at C0 HB hHeld ⊢
 refine pZ_ 0 (some 4) #[true,false,false,false,false,false,false,false,false,false] ?_
 refine pZ_ 2 (some 6) #[true,false,true,false,false,false,false,false,false,false] ?_
 refine tZ1_ 3 (some 7) #[true,false,true,true,false,false,false,false,false,false] hHeld ?_
 refine pZ_ 4 (some 8) #[true,false,true,true,true,false,false,false,false,false] ?_
 refine pZ_ 5 (some 9) #[true,false,true,true,true,true,false,false,false,false] ?_
 refine pZ_ 6 (some 10) #[true,false,true,true,true,true,true,false,false,false] ?_
 refine one_ (i := 1) (N := some 5) #[true,true,true,true,true,true,true,false,false,false] rfl rfl T12_ T35_ (fun K hK => ?_)
 refine gZ_ Try.func31 #[.int .i64 x] ?_
 with_reducible refine (impl_factorial.calls 100 x t _ HT.out).mono ?_
 rintro e W1_ ⟨rfl,hd_⟩
 have hb := hd_.below
 clear hd_
 refine ⟨_,rfl,?_⟩
 have n0_ : Aside0 (W1_.cell? ⟨g1,0,none⟩ = some (.int .i64 n)) := ⟨pw_cell_below hb C0.out⟩
 clear C0
 have C0 := n0_
 clear n0_
 have n_ := aZ_ (below_step HB.out hb)
 clear HB hb
 have HB := n_
 clear n_
 refine hK.out _ _ C0.out (fun hHeld => ?_)
 clear hK K
 refine norm_ (a' := ?_) ?_ ?_
 rotate_left
 ·show Act.put _ (some 5) _ = _
  simp only [Act.put,List.setIfInBounds_toArray,List.set_cons_zero,List.set_cons_succ,i64_w,i32_w]
  rfl
 refine one_ (i := 7) (N := some 11) #[true,true,true,true,true,true,true,true,false,false] rfl rfl T12_ T35_ (fun K hK => ?_)
 refine gZ_ Try.func31 #[.int .i64 (wrap64 (wrap64 (n - 1) - x))] ?_
 with_reducible refine (impl_factorial.calls 100 (wrap64 (wrap64 (n - 1) - x)) u _ HU.out).mono ?_
 rintro e W2_ ⟨rfl,hd_⟩
 have hb := hd_.below
 clear hd_
 refine ⟨_,rfl,?_⟩
 have n0_ : Aside0 (W2_.cell? ⟨g1,0,none⟩ = some (.int .i64 n)) := ⟨pw_cell_below hb C0.out⟩
 clear C0
 have C0 := n0_
 clear n0_
 have n_ := aZ_ (below_step HB.out hb)
 clear HB hb
 have HB := n_
 clear n_
 refine hK.out _ _ C0.out (fun hHeld => ?_)
 clear hK K
 refine norm_ (a' := ?_) ?_ ?_
 rotate_left
 ·show Act.put _ (some 11) _ = _
  simp only [Act.put,List.setIfInBounds_toArray,List.set_cons_zero,List.set_cons_succ,i64_w,i32_w]
  rfl
 refine pZ_ 8 (some 12) #[true,true,true,true,true,true,true,true,true,false] ?_
 refine pZ_ 9 (some 3) #[true,true,true,true,true,true,true,true,true,true] ?_
 refine done_ T12_ ?_
 go_wp2
 go_ret
 exact ⟨rfl,HB.out⟩
def impl_ShapleyNumbers.f (a0_0 a0_1 : Int) : Option (List Int) := if a0_0 < 0 then (if impl_IsSimpleGame.f 1000 a0_0 a0_1 = some false then some [] else none) else impl_Table_powers.f 1000 a0_0 a0_1 a0_0
set_option maxHeartbeats 400000 in
set_option maxRecDepth 100000 in
theorem impl_ShapleyNumbers.calls (a0_0 : Int) (a0_1 : Int) (r : List Int) (w : World) (h : impl_ShapleyNumbers.f a0_0 a0_1 = some r) :
  Calls Try.prog 6 #[.agg #[.int .i64 a0_0,.int .i64 a0_1]] w fun e w' => ∃ v0_ : Value,e = .returned (v0_) ∧ Kd.R (Kd.int .i64) 3 w' w.heap.size (fun _ => True) v0_ r ∧ Below w.heap.size w w' := by
 have hu := Try.underlying25
 have hc0 : (w.alloc (.cells #[.int .i64 a0_0,.int .i64 a0_1] 25 (0,0))).cell? ⟨w.heap.size,0,none⟩ = some (.int .i64 a0_0) := (blk_cell (blk_new _ _) 0).trans rfl
 have hc1 : (w.alloc (.cells #[.int .i64 a0_0,.int .i64 a0_1] 25 (0,0))).cell? ⟨w.heap.size,1,none⟩ = some (.int .i64 a0_1) := (blk_cell (blk_new _ _) 1).trans rfl
 have HB := below_alloc (Below.refl w.heap.size w) (.cells #[.int .i64 a0_0,.int .i64 a0_1] 25 (0,0))
 have eg := enters_of Try.func30 T12_ rfl
 have EG := aZ_ eg
 clear eg
 unfold impl_ShapleyNumbers.f at h
 -- whether the number of players is -1 (no game then) or not: the contract of powers serves with a number b
 obtain ⟨b,H,hp⟩ : ∃ b : Int,impl_Table_powers.f 1000 a0_0 a0_1 b = some r ∧ ∀ (W : World) (x r_ : Int),Below (w.alloc (.cells #[.int .i64 a0_0,.int .i64 a0_1] 25 (0,0))).heap.size (w.alloc (.cells #[.int .i64 a0_0,.int .i64 a0_1] 25 (0,0))) W → impl_BanzhafNumbers_1.f x b = some r_ → Calls Try.prog 30 (#[.int .i64 x] ++ #[.pointer (some ⟨w.heap.size,0,none⟩)]) W fun e w' => e = .returned (.int .i64 r_) ∧ Below W.heap.size W w' := by
  split at h
  next hlt =>
   split at h
   next hg =>
    cases h
    refine ⟨-2,?_,fun W x r_ hW hr => ?_⟩
    ·unfold impl_Table_powers.f
     rw [hg]
     rfl
    ·unfold impl_BanzhafNumbers_1.f at hr
     rw [if_neg T35_,if_pos T35_] at hr
     cases hr
   next => cases h
  next hne => exact ⟨a0_0,h,fun W x r_ hW hr => impl_ShapleyNumbers_1.any a0_0 a0_1 x r_ T50_ _ W (blk_below (blk_new _ _) hW) hr⟩
 have HH := aZ_ H
 have HP := aZ_ hp
 clear H hp h
 go_enter Try.func6,Try.ntmps6
 go_wp2_with (go_at_call 29;refine (impl_Table_powers.any 1000 a0_0 a0_1 b r _ 30 _ EG.out HP.out HH.out).mono ?_;rintro e w' ⟨v,rfl,ho,hb⟩)
 go_ret
 exact ⟨v,rfl,Kd.R_lower ho HB.size,below_step HB hb⟩
set_option maxHeartbeats 400000 in
theorem impl_BanzhafNumbers_1.any (x r : Int) (W : World) (h : impl_BanzhafNumbers_1.f x (-1) = some r) :
  Calls Try.prog 32 (#[.int .i64 x] ++ #[]) W fun e w' => e = .returned (.int .i64 r) ∧ Below W.heap.size W w' := by
 show Calls Try.prog 32 #[.int .i64 x] W _
 unfold impl_BanzhafNumbers_1.f at h
 rw [if_pos rfl] at h
 cases h
 go_enter Try.func32,Try.ntmps32
 go_wp2
 go_ret
 exact ⟨rfl,Below.refl _ _⟩
def impl_BanzhafNumbers.f (a0_0 a0_1 : Int) : Option (List Int) := impl_Table_powers.f 1000 a0_0 a0_1 (-1)
set_option maxHeartbeats 400000 in
set_option maxRecDepth 100000 in
theorem impl_BanzhafNumbers.calls (a0_0 : Int) (a0_1 : Int) (r : List Int) (w : World) (h : impl_BanzhafNumbers.f a0_0 a0_1 = some r) :
  Calls Try.prog 7 #[.agg #[.int .i64 a0_0,.int .i64 a0_1]] w fun e w' => ∃ v0_ : Value,e = .returned (v0_) ∧ Kd.R (Kd.int .i64) 3 w' w.heap.size (fun _ => True) v0_ r ∧ Below w.heap.size w w' := by
 have hu := Try.underlying25
 have hc0 : (w.alloc (.cells #[.int .i64 a0_0,.int .i64 a0_1] 25 (0,0))).cell? ⟨w.heap.size,0,none⟩ = some (.int .i64 a0_0) := (blk_cell (blk_new _ _) 0).trans rfl
 have hc1 : (w.alloc (.cells #[.int .i64 a0_0,.int .i64 a0_1] 25 (0,0))).cell? ⟨w.heap.size,1,none⟩ = some (.int .i64 a0_1) := (blk_cell (blk_new _ _) 1).trans rfl
 have HB := below_alloc (Below.refl w.heap.size w) (.cells #[.int .i64 a0_0,.int .i64 a0_1] 25 (0,0))
 have eg := enters_of Try.func32 T12_ rfl
 have EG := aZ_ eg
 clear eg
 have H := aZ_ h
 clear h
 go_enter Try.func7,Try.ntmps7
 go_wp2_with (go_at_call 29;refine (impl_Table_powers.any 1000 a0_0 a0_1 (-1) r _ 32 #[] EG.out (fun W x r_ _ hr => impl_BanzhafNumbers_1.any x r_ W hr) H.out).mono ?_;rintro e w' ⟨v,rfl,ho,hb⟩)
 go_ret
 exact ⟨v,rfl,Kd.R_lower ho HB.size,below_step HB hb⟩
def impl_VetoPlayers.l0 : Nat → List Int → Int → Int → Int → Int → Option (List Int)
 | 0,_,_,_,_,_ => none
 | k + 1,x3,x9,x10,x102000,x102001 => if x10 < x9 then ((impl_Table_restrict.f x102000 x102001 x10 0).bind fun bt103 => (if bt103.2 = 0 then (if x3.length < 17592186044416 then (impl_VetoPlayers.l0 k (x3 ++ [x10]) x9 (wrap64 (x10 + 1)) x102000 x102001) else (none)) else (impl_VetoPlayers.l0 k x3 x9 (wrap64 (x10 + 1)) x102000 x102001))) else (some x3)
def impl_VetoPlayers.f (k : Nat) (a0_0 : Int) (a0_1 : Int) : Option (List Int) := (impl_IsSimpleGame.f k a0_0 a0_1).bind fun t102 => (if t102 = true then (impl_VetoPlayers.l0 k ([] : List Int) a0_0 0 a0_0 a0_1) else (some ([] : List Int)))
set_option maxHeartbeats 8000000 in
set_option maxRecDepth 100000 in
theorem impl_VetoPlayers.calls (k : Nat) (a0_0 : Int) (a0_1 : Int) (r : List Int) (w : World) (h : impl_VetoPlayers.f k a0_0 a0_1 = some r) :
  Calls Try.prog 8 #[.agg #[.int .i64 a0_0,.int .i64 a0_1]] w fun e w' => ∃ v0_ : Value,e = .returned (v0_) ∧ Kd.R (Kd.int .i64) 3 w' w.heap.size (fun _ => True) v0_ r ∧ Below w.heap.size w w' := by
 have hu25 := Try.underlying25
 have hfd25_1 : ∀ (x0_ x1_ : Int) (W : World),(Instr.field 25 (.agg #[.int .i64 x0_,.int .i64 x1_]) 1).run Try.prog W = .ok (.int .i64 x1_) W := fun _ _ _ => by kernel_rfl
 have HB := aZ_ (Below.refl w.heap.size w)
 have H : ((impl_IsSimpleGame.f k a0_0 a0_1).bind fun t102 => (if t102 = true then (impl_VetoPlayers.l0 k ([] : List Int) a0_0 0 a0_0 a0_1) else (some ([] : List Int)))) = some r := h
 clear h
 replace H := Option.bind_eq_some_iff.mp H
 obtain ⟨t102,A20,H⟩ := H
 replace H : (if t102 = true then (impl_VetoPlayers.l0 k ([] : List Int) a0_0 0 a0_0 a0_1) else (some ([] : List Int))) = some r := H
 have A2 := aZ_ A20
 clear A20
 by_cases c3 : t102 = true
 ·subst c3
  have H1 : (impl_VetoPlayers.l0 k ([] : List Int) a0_0 0 a0_0 a0_1) = some r := by rw [if_pos rfl] at H;exact H
  clear H
  have H := H1
  clear H1
  have H' := aZ_ H
  clear H
  go_enter Try.func8,Try.ntmps8
  go_wp2_with (first | ((with_reducible refine gate_dst (N := 1) rfl ?_);refine box_event ?hg (N := 1) ?hd (cs := #[.int .i64 a0_0,.int .i64 a0_1]) (t := 25) ?hr ?_;(case hd => rfl);(case hg => rfl);(case hr => first | (go_simp;done) | (go_simp;rfl));intro gb101 hg w4 hbox hb;have n0_ := aZ_ (below_step T5_ hb);have n1_ := aZ_ (hbox);have n2_ := aZ_ ((T3_ : w.heap.size ≤ gb101));have n3_ := aZ_ ((T3_ : w.heap.size ≤ gb101));clear HB;have HB := n0_;have BK101 := n1_;have GW101 := n2_;have GE101 := n3_;clear n0_ n1_ n2_ n3_;clear hb hbox hg;have hcz5_0 : w4.cell? ⟨gb101,0,none⟩ = some (.int .i64 a0_0) := (blk_cell BK101.out 0).trans rfl;have hcz5_1 : w4.cell? ⟨gb101,1,none⟩ = some (.int .i64 a0_1) := (blk_cell BK101.out 1).trans rfl;have hfz5_0 := blk_frozen BK101.out 0;have hfz5_1 := blk_frozen BK101.out 1) | ((with_reducible refine gate_callee (f := 10) rfl ?_);refine goesL_ (some 6) rfl rfl Try.func10 T12_ rfl #[.agg #[.int .i64 a0_0,.int .i64 a0_1]] rfl T4_ ?_;(with_reducible refine (impl_IsSimpleGame.calls k a0_0 a0_1 true _ A2.out).mono ?_);rintro e w6 ⟨rfl,hb⟩;refine ⟨_,rfl,?_⟩;have n0_ := aZ_ (blk_below (g := gb101) (o := .cells #[.int .i64 a0_0,.int .i64 a0_1] 25 (0,0)) T2_ hb);have n1_ := aZ_ (below_step T1_ hb);clear BK101;clear HB;have BK101 := n0_;have HB := n1_;clear n0_ n1_;(try clear hb);(try clear hb2);(try clear hk);(try clear hi);have hcz7_0 : w6.cell? ⟨gb101,0,none⟩ = some (.int .i64 a0_0) := (blk_cell BK101.out 0).trans rfl;have hcz7_1 : w6.cell? ⟨gb101,1,none⟩ = some (.int .i64 a0_1) := (blk_cell BK101.out 1).trans rfl;have hfz7_0 := blk_frozen BK101.out 0;have hfz7_1 := blk_frozen BK101.out 1))
  go_loopg [3,10] k (fun kq v3 v10 w' => ∃ (x3_1 : List Int) (x10_1 : Int),v10 = .int .i64 x10_1 ∧ Aside0 (impl_VetoPlayers.l0 kq x3_1 a0_0 x10_1 a0_0 a0_1 = some r) ∧ Aside0 (kq ≤ k) ∧ Aside0 (Kd.R (Kd.int .i64) 3 w' w.heap.size (fun _ => True) v3 x3_1) ∧ Aside0 (w'.heap[gb101]? = some (.cells #[.int .i64 a0_0,.int .i64 a0_1] 25 (0,0))) ∧ Aside0 (Below w.heap.size w w'))
  case atStart => exact ⟨(([] : List Int)),(0),T6_,H',⟨Nat.le_refl _⟩,⟨by first | exact Kd.R_nil _ _ _ _ _ | exact Kd.N_nil _ _ _ _ _ | exact Kd.V_nil _ _ _ _ _ | exact Kd.Q_nil _ _ _ _ _ | exact Kd.S_nil _ _ _ _ _⟩,⟨by (with_reducible repeat (first | refine blk_drewN ?_ _ | refine blk_drew ?_ | refine blk_alloc ?_ _));exact BK101.out⟩,⟨by repeat (first | (with_reducible first | exact HB.out | apply below_alloc | apply pw_below_drewN | apply below_drew1 | refine below_set ?_ GE101.out) | exact HB.out)⟩⟩
  case round =>
   clear H'
   try clear c1
   try clear p2
   try clear c3
   try clear hcz5_0
   try clear hcz5_1
   try clear hcz7_0
   try clear hcz7_1
   try clear hfz5_0
   try clear hfz5_1
   try clear hfz7_0
   try clear hfz7_1
   obtain ⟨x3_1,x10_1,rfl,HA,HK1,HO_3,BK101,HB⟩ := hrel
   cases gk with
   | zero => exact absurd HA.out (by simp [impl_VetoPlayers.l0])
   | succ k1 =>
    have H := HA.out
    clear HA
    simp only [impl_VetoPlayers.l0] at H
    by_cases c8 : x10_1 < a0_0
    ·rw [if_pos c8] at H
     have c8b0 : decide (x10_1 < a0_0) = true := decide_eq_true c8
     clear c8
     replace H := Option.bind_eq_some_iff.mp H
     obtain ⟨⟨t103,t104⟩,A90,H⟩ := H
     replace H : (if t104 = 0 then (if x3_1.length < 17592186044416 then (impl_VetoPlayers.l0 k1 (x3_1 ++ [x10_1]) a0_0 (wrap64 (x10_1 + 1)) a0_0 a0_1) else (none)) else (impl_VetoPlayers.l0 k1 x3_1 a0_0 (wrap64 (x10_1 + 1)) a0_0 a0_1)) = some r := H
     have A9 := aZ_ A90
     clear A90
     by_cases c10 : t104 = 0
     ·rw [if_pos c10] at H
      have c10b0 : (t104 == 0) = true := beq_iff_eq.mpr c10
      have c10b1 : (t104 != 0) = false := bne_eq_false_iff_eq.mpr c10
      clear c10
      by_cases c11 : x3_1.length < 17592186044416
      ·rw [if_pos c11] at H
       have LMc11 := aZ_ c11
       clear c11
       obtain ⟨y105,hy105⟩ : ∃ y_ : List Int,y_ = (x3_1 ++ [x10_1]) := ⟨_,rfl⟩
       replace H : (impl_VetoPlayers.l0 k1 y105 a0_0 (wrap64 (x10_1 + 1)) a0_0 a0_1) = some r := by first | (rw [hy105];with_reducible exact H) | (have H2_ := (Option.bind_some _ _).symm.trans H;rw [hy105];with_reducible exact H2_) | (have H2_ := (Option.bind_some _ _).symm.trans H;with_reducible exact H2_) | with_reducible exact H | (rw [hy105];exact H) | exact H
       have Ny105 := aZ_ hy105
       clear hy105
       have H' := aZ_ H
       clear H
       have hcz12_0 : wr.cell? ⟨gb101,0,none⟩ = some (.int .i64 a0_0) := (blk_cell BK101.out 0).trans rfl
       have hcz12_1 : wr.cell? ⟨gb101,1,none⟩ = some (.int .i64 a0_1) := (blk_cell BK101.out 1).trans rfl
       have hfz12_0 := blk_frozen BK101.out 0
       have hfz12_1 := blk_frozen BK101.out 1
       go_wp2_with (first | ((with_reducible refine gate_callee (f := 33) rfl ?_);refine goesL_ (some 15) rfl rfl Try.func33 T12_ rfl #[.agg #[.int .i64 a0_0,.int .i64 a0_1],.int .i64 x10_1,.int .i64 0] rfl T4_ ?_;(with_reducible refine (impl_Table_restrict.calls a0_0 a0_1 x10_1 0 t103 t104 _ A9.out).mono ?_);rintro e w13 ⟨rfl,hb⟩;refine ⟨_,rfl,?_⟩;have n0_ := aZ_ (Kd.R_below T17_ hb);have n1_ := aZ_ (blk_below (g := gb101) (o := .cells #[.int .i64 a0_0,.int .i64 a0_1] 25 (0,0)) T2_ hb);have n2_ := aZ_ (below_step T1_ hb);clear HO_3;clear BK101;clear HB;have HO_3 := n0_;have BK101 := n1_;have HB := n2_;clear n0_ n1_ n2_;(try clear hb);(try clear hb2);(try clear hk);(try clear hi)) | ((with_reducible refine gate_builtin (b := .append) (xs := #[.tmp 18,.tmp 20]) rfl ?_);at_builtin;refine Kd.R_append (Kd.int .i64) (w0 := w) w.heap.size rfl (.tmp 18) (.tmp 20) 27 3 (.int .i64 0) 8 rfl Try.underlying27 info3 rfl T35_ T50_ u3 x3_1 x10_1 [.int .i64 x10_1] (fun _ => True) (fun _ => False) rfl rfl ?aP (fun _ hk => hk.elim) ?aF ?aO ?aB ?aS ?aL ?_;(case aP => exact rfl);(case aB => exact T1_);(case aF => exact (fun _ _ => trivial));(case aO => exact T17_);(case aS => exact (below_size T1_));(case aL => have := LMc11.out;omega);intro v106 w14 ho hb hg hat;rw [← Ny105.out] at ho;have n0_ := aZ_ (blk_grown (g := gb101) (o := .cells #[.int .i64 a0_0,.int .i64 a0_1] 25 (0,0)) T2_ hg (Kd.R_ne HO_3.out BK101.out T35_));have n1_ := aZ_ (hb);have n2_ := aZ_ (ho);clear BK101;clear HB;clear HO_3;have BK101 := n0_;have HB := n1_;have HO107 := n2_;clear n0_ n1_ n2_;clear ho hb hg hat))
       go_roundg k1
       case measure => have := HK1.out;omega
       case rel => exact ⟨(y105),(wrap64 (x10_1 + 1)),T6_,H',⟨by have := HK1.out;omega⟩,⟨by (with_reducible repeat (first | apply Kd.R_alloc | apply Kd.R_drewN | apply Kd.R_drew));exact HO107.out⟩,⟨by (with_reducible repeat (first | refine blk_drewN ?_ _ | refine blk_drew ?_ | refine blk_alloc ?_ _));exact BK101.out⟩,⟨by repeat (first | (with_reducible first | exact HB.out | apply below_alloc | apply pw_below_drewN | apply below_drew1 | refine below_set ?_ GE101.out) | exact HB.out)⟩⟩
      ·rw [if_neg c11] at H
       exact absurd H T40_
     ·rw [if_neg c10] at H
      have c10b0 : (t104 == 0) = false := beq_eq_false_iff_ne.mpr c10
      have c10b1 : (t104 != 0) = true := bne_iff_ne.mpr c10
      have H' := aZ_ H
      clear H
      have hcz15_0 : wr.cell? ⟨gb101,0,none⟩ = some (.int .i64 a0_0) := (blk_cell BK101.out 0).trans rfl
      have hcz15_1 : wr.cell? ⟨gb101,1,none⟩ = some (.int .i64 a0_1) := (blk_cell BK101.out 1).trans rfl
      have hfz15_0 := blk_frozen BK101.out 0
      have hfz15_1 := blk_frozen BK101.out 1
      go_wp2_with (first | ((with_reducible refine gate_callee (f := 33) rfl ?_);refine goesL_ (some 15) rfl rfl Try.func33 T12_ rfl #[.agg #[.int .i64 a0_0,.int .i64 a0_1],.int .i64 x10_1,.int .i64 0] rfl T4_ ?_;(with_reducible refine (impl_Table_restrict.calls a0_0 a0_1 x10_1 0 t103 t104 _ A9.out).mono ?_);rintro e w16 ⟨rfl,hb⟩;refine ⟨_,rfl,?_⟩;have n0_ := aZ_ (Kd.R_below T17_ hb);have n1_ := aZ_ (blk_below (g := gb101) (o := .cells #[.int .i64 a0_0,.int .i64 a0_1] 25 (0,0)) T2_ hb);have n2_ := aZ_ (below_step T1_ hb);clear HO_3;clear BK101;clear HB;have HO_3 := n0_;have BK101 := n1_;have HB := n2_;clear n0_ n1_ n2_;(try clear hb);(try clear hb2);(try clear hk);(try clear hi)))
      go_roundg k1
      case measure => have := HK1.out;omega
      case rel => exact ⟨(x3_1),(wrap64 (x10_1 + 1)),T6_,H',⟨by have := HK1.out;omega⟩,⟨by (with_reducible repeat (first | apply Kd.R_alloc | apply Kd.R_drewN | apply Kd.R_drew));exact HO_3.out⟩,⟨by (with_reducible repeat (first | refine blk_drewN ?_ _ | refine blk_drew ?_ | refine blk_alloc ?_ _));exact BK101.out⟩,⟨by repeat (first | (with_reducible first | exact HB.out | apply below_alloc | apply pw_below_drewN | apply below_drew1 | refine below_set ?_ GE101.out) | exact HB.out)⟩⟩
    ·rw [if_neg c8] at H
     have c8b0 : decide (x10_1 < a0_0) = false := decide_eq_false c8
     clear c8
     obtain rfl := Option.some.inj H
     go_wp2
     go_ret
     exact ⟨_,by first | rfl | (simp [errW_none,errW_some] <;> rfl) | (simp [*,errW_none,errW_some] <;> rfl),by (with_reducible repeat (first | apply Kd.R_alloc | apply Kd.R_drewN | apply Kd.R_drew));exact HO_3.out,by repeat (first | (with_reducible first | exact HB.out | apply below_alloc | apply pw_below_drewN | apply below_drew1 | refine below_set ?_ GE101.out) | exact HB.out)⟩
 ·replace c3 := Bool.eq_false_iff.mpr c3
  subst c3
  have H1 : (some ([] : List Int)) = some r := by rw [if_neg (show ¬ (false = true) by decide)] at H;exact H
  clear H
  have H := H1
  clear H1
  obtain rfl := Option.some.inj H
  go_enter Try.func8,Try.ntmps8
  go_wp2_with (first | ((with_reducible refine gate_dst (N := 1) rfl ?_);refine box_event ?hg (N := 1) ?hd (cs := #[.int .i64 a0_0,.int .i64 a0_1]) (t := 25) ?hr ?_;(case hd => rfl);(case hg => rfl);(case hr => first | (go_simp;done) | (go_simp;rfl));intro gb101 hg w17 hbox hb;have n0_ := aZ_ (below_step T5_ hb);have n1_ := aZ_ (hbox);have n2_ := aZ_ ((T3_ : w.heap.size ≤ gb101));have n3_ := aZ_ ((T3_ : w.heap.size ≤ gb101));clear HB;have HB := n0_;have BK101 := n1_;have GW101 := n2_;have GE101 := n3_;clear n0_ n1_ n2_ n3_;clear hb hbox hg;have hcz18_0 : w17.cell? ⟨gb101,0,none⟩ = some (.int .i64 a0_0) := (blk_cell BK101.out 0).trans rfl;have hcz18_1 : w17.cell? ⟨gb101,1,none⟩ = some (.int .i64 a0_1) := (blk_cell BK101.out 1).trans rfl;have hfz18_0 := blk_frozen BK101.out 0;have hfz18_1 := blk_frozen BK101.out 1) | ((with_reducible refine gate_callee (f := 10) rfl ?_);refine goesL_ (some 6) rfl rfl Try.func10 T12_ rfl #[.agg #[.int .i64 a0_0,.int .i64 a0_1]] rfl T4_ ?_;(with_reducible refine (impl_IsSimpleGame.calls k a0_0 a0_1 false _ A2.out).mono ?_);rintro e w19 ⟨rfl,hb⟩;refine ⟨_,rfl,?_⟩;have n0_ := aZ_ (blk_below (g := gb101) (o := .cells #[.int .i64 a0_0,.int .i64 a0_1] 25 (0,0)) T2_ hb);have n1_ := aZ_ (below_step T1_ hb);clear BK101;clear HB;have BK101 := n0_;have HB := n1_;clear n0_ n1_;(try clear hb);(try clear hb2);(try clear hk);(try clear hi)))
  go_ret
  exact ⟨_,by first | rfl | (simp [errW_none,errW_some] <;> rfl) | (simp [*,errW_none,errW_some] <;> rfl),by first | exact Kd.R_nil _ _ _ _ _ | exact Kd.N_nil _ _ _ _ _ | exact Kd.V_nil _ _ _ _ _ | exact Kd.Q_nil _ _ _ _ _ | exact Kd.S_nil _ _ _ _ _,by repeat (first | (with_reducible first | exact HB.out | apply below_alloc | apply pw_below_drewN | apply below_drew1 | refine below_set ?_ GE101.out) | exact HB.out)⟩
def impl_DummyPlayers.l0 : Nat → List Int → Int → Int → Int → Int → Option (List Int)
 | 0,_,_,_,_,_ => none
 | k + 1,x3,x9,x10,x102000,x102001 => if x10 < x9 then ((impl_Table_depends.f x102000 x102001 x10).bind fun t103 => (if t103 = true then (impl_DummyPlayers.l0 k x3 x9 (wrap64 (x10 + 1)) x102000 x102001) else (if x3.length < 17592186044416 then (impl_DummyPlayers.l0 k (x3 ++ [x10]) x9 (wrap64 (x10 + 1)) x102000 x102001) else (none)))) else (some x3)
def impl_DummyPlayers.f (k : Nat) (a0_0 : Int) (a0_1 : Int) : Option (List Int) := (impl_IsSimpleGame.f k a0_0 a0_1).bind fun t102 => (if t102 = true then (impl_DummyPlayers.l0 k ([] : List Int) a0_0 0 a0_0 a0_1) else (some ([] : List Int)))
set_option maxHeartbeats 8000000 in
set_option maxRecDepth 100000 in
theorem impl_DummyPlayers.calls (k : Nat) (a0_0 : Int) (a0_1 : Int) (r : List Int) (w : World) (h : impl_DummyPlayers.f k a0_0 a0_1 = some r) :
  Calls Try.prog 9 #[.agg #[.int .i64 a0_0,.int .i64 a0_1]] w fun e w' => ∃ v0_ : Value,e = .returned (v0_) ∧ Kd.R (Kd.int .i64) 3 w' w.heap.size (fun _ => True) v0_ r ∧ Below w.heap.size w w' := by
 have hu25 := Try.underlying25
 have HB := aZ_ (Below.refl w.heap.size w)
 have H : ((impl_IsSimpleGame.f k a0_0 a0_1).bind fun t102 => (if t102 = true then (impl_DummyPlayers.l0 k ([] : List Int) a0_0 0 a0_0 a0_1) else (some ([] : List Int)))) = some r := h
 clear h
 replace H := Option.bind_eq_some_iff.mp H
 obtain ⟨t102,A20,H⟩ := H
 replace H : (if t102 = true then (impl_DummyPlayers.l0 k ([] : List Int) a0_0 0 a0_0 a0_1) else (some ([] : List Int))) = some r := H
 have A2 := aZ_ A20
 clear A20
 by_cases c3 : t102 = true
 ·subst c3
  have H1 : (impl_DummyPlayers.l0 k ([] : List Int) a0_0 0 a0_0 a0_1) = some r := by rw [if_pos rfl] at H;exact H
  clear H
  have H := H1
  clear H1
  have H' := aZ_ H
  clear H
  go_enter Try.func9,Try.ntmps9
  go_wp2_with (first | ((with_reducible refine gate_dst (N := 1) rfl ?_);refine box_event ?hg (N := 1) ?hd (cs := #[.int .i64 a0_0,.int .i64 a0_1]) (t := 25) ?hr ?_;(case hd => rfl);(case hg => rfl);(case hr => first | (go_simp;done) | (go_simp;rfl));intro gb101 hg w4 hbox hb;have n0_ := aZ_ (below_step T5_ hb);have n1_ := aZ_ (hbox);have n2_ := aZ_ ((T3_ : w.heap.size ≤ gb101));have n3_ := aZ_ ((T3_ : w.heap.size ≤ gb101));clear HB;have HB := n0_;have BK101 := n1_;have GW101 := n2_;have GE101 := n3_;clear n0_ n1_ n2_ n3_;clear hb hbox hg;have hcz5_0 : w4.cell? ⟨gb101,0,none⟩ = some (.int .i64 a0_0) := (blk_cell BK101.out 0).trans rfl;have hcz5_1 : w4.cell? ⟨gb101,1,none⟩ = some (.int .i64 a0_1) := (blk_cell BK101.out 1).trans rfl;have hfz5_0 := blk_frozen BK101.out 0;have hfz5_1 := blk_frozen BK101.out 1) | ((with_reducible refine gate_callee (f := 10) rfl ?_);refine goesL_ (some 6) rfl rfl Try.func10 T12_ rfl #[.agg #[.int .i64 a0_0,.int .i64 a0_1]] rfl T4_ ?_;(with_reducible refine (impl_IsSimpleGame.calls k a0_0 a0_1 true _ A2.out).mono ?_);rintro e w6 ⟨rfl,hb⟩;refine ⟨_,rfl,?_⟩;have n0_ := aZ_ (blk_below (g := gb101) (o := .cells #[.int .i64 a0_0,.int .i64 a0_1] 25 (0,0)) T2_ hb);have n1_ := aZ_ (below_step T1_ hb);clear BK101;clear HB;have BK101 := n0_;have HB := n1_;clear n0_ n1_;(try clear hb);(try clear hb2);(try clear hk);(try clear hi);have hcz7_0 : w6.cell? ⟨gb101,0,none⟩ = some (.int .i64 a0_0) := (blk_cell BK101.out 0).trans rfl;have hcz7_1 : w6.cell? ⟨gb101,1,none⟩ = some (.int .i64 a0_1) := (blk_cell BK101.out 1).trans rfl;have hfz7_0 := blk_frozen BK101.out 0;have hfz7_1 := blk_frozen BK101.out 1))
  go_loopg [3,10] k (fun kq v3 v10 w' => ∃ (x3_1 : List Int) (x10_1 : Int),v10 = .int .i64 x10_1 ∧ Aside0 (impl_DummyPlayers.l0 kq x3_1 a0_0 x10_1 a0_0 a0_1 = some r) ∧ Aside0 (kq ≤ k) ∧ Aside0 (Kd.R (Kd.int .i64) 3 w' w.heap.size (fun _ => True) v3 x3_1) ∧ Aside0 (w'.heap[gb101]? = some (.cells #[.int .i64 a0_0,.int .i64 a0_1] 25 (0,0))) ∧ Aside0 (Below w.heap.size w w'))
  case atStart => exact ⟨(([] : List Int)),(0),T6_,H',⟨Nat.le_refl _⟩,⟨by first | exact Kd.R_nil _ _ _ _ _ | exact Kd.N_nil _ _ _ _ _ | exact Kd.V_nil _ _ _ _ _ | exact Kd.Q_nil _ _ _ _ _ | exact Kd.S_nil _ _ _ _ _⟩,⟨by (with_reducible repeat (first | refine blk_drewN ?_ _ | refine blk_drew ?_ | refine blk_alloc ?_ _));exact BK101.out⟩,⟨by repeat (first | (with_reducible first | exact HB.out | apply below_alloc | apply pw_below_drewN | apply below_drew1 | refine below_set ?_ GE101.out) | exact HB.out)⟩⟩
  case round =>
   clear H'
   try clear c1
   try clear p2
   try clear c3
   try clear hcz5_0
   try clear hcz5_1
   try clear hcz7_0
   try clear hcz7_1
   try clear hfz5_0
   try clear hfz5_1
   try clear hfz7_0
   try clear hfz7_1
   obtain ⟨x3_1,x10_1,rfl,HA,HK1,HO_3,BK101,HB⟩ := hrel
   cases gk with
   | zero => exact absurd HA.out (by simp [impl_DummyPlayers.l0])
   | succ k1 =>
    have H := HA.out
    clear HA
    simp only [impl_DummyPlayers.l0] at H
    by_cases c8 : x10_1 < a0_0
    ·rw [if_pos c8] at H
     have c8b0 : decide (x10_1 < a0_0) = true := decide_eq_true c8
     clear c8
     replace H := Option.bind_eq_some_iff.mp H
     obtain ⟨t103,A90,H⟩ := H
     replace H : (if t103 = true then (impl_DummyPlayers.l0 k1 x3_1 a0_0 (wrap64 (x10_1 + 1)) a0_0 a0_1) else (if x3_1.length < 17592186044416 then (impl_DummyPlayers.l0 k1 (x3_1 ++ [x10_1]) a0_0 (wrap64 (x10_1 + 1)) a0_0 a0_1) else (none))) = some r := H
     have A9 := aZ_ A90
     clear A90
     by_cases c10 : t103 = true
     ·subst c10
      have H1 : (impl_DummyPlayers.l0 k1 x3_1 a0_0 (wrap64 (x10_1 + 1)) a0_0 a0_1) = some r := by rw [if_pos rfl] at H;exact H
      clear H
      have H := H1
      clear H1
      have H' := aZ_ H
      clear H
      have hcz11_0 : wr.cell? ⟨gb101,0,none⟩ = some (.int .i64 a0_0) := (blk_cell BK101.out 0).trans rfl
      have hcz11_1 : wr.cell? ⟨gb101,1,none⟩ = some (.int .i64 a0_1) := (blk_cell BK101.out 1).trans rfl
      have hfz11_0 := blk_frozen BK101.out 0
      have hfz11_1 := blk_frozen BK101.out 1
      go_wp2_with (first | ((with_reducible refine gate_callee (f := 34) rfl ?_);refine goesL_ (some 15) rfl rfl Try.func34 T12_ rfl #[.agg #[.int .i64 a0_0,.int .i64 a0_1],.int .i64 x10_1] rfl T4_ ?_;(with_reducible refine (impl_Table_depends.calls a0_0 a0_1 x10_1 true _ A9.out).mono ?_);rintro e w12 ⟨rfl,hb⟩;refine ⟨_,rfl,?_⟩;have n0_ := aZ_ (Kd.R_below T17_ hb);have n1_ := aZ_ (blk_below (g := gb101) (o := .cells #[.int .i64 a0_0,.int .i64 a0_1] 25 (0,0)) T2_ hb);have n2_ := aZ_ (below_step T1_ hb);clear HO_3;clear BK101;clear HB;have HO_3 := n0_;have BK101 := n1_;have HB := n2_;clear n0_ n1_ n2_;(try clear hb);(try clear hb2);(try clear hk);(try clear hi)))
      go_roundg k1
      case measure => have := HK1.out;omega
      case rel => exact ⟨(x3_1),(wrap64 (x10_1 + 1)),T6_,H',⟨by have := HK1.out;omega⟩,⟨by (with_reducible repeat (first | apply Kd.R_alloc | apply Kd.R_drewN | apply Kd.R_drew));exact HO_3.out⟩,⟨by (with_reducible repeat (first | refine blk_drewN ?_ _ | refine blk_drew ?_ | refine blk_alloc ?_ _));exact BK101.out⟩,⟨by repeat (first | (with_reducible first | exact HB.out | apply below_alloc | apply pw_below_drewN | apply below_drew1 | refine below_set ?_ GE101.out) | exact HB.out)⟩⟩
     ·replace c10 := Bool.eq_false_iff.mpr c10
      subst c10
      have H1 : (if x3_1.length < 17592186044416 then (impl_DummyPlayers.l0 k1 (x3_1 ++ [x10_1]) a0_0 (wrap64 (x10_1 + 1)) a0_0 a0_1) else (none)) = some r := by rw [if_neg (show ¬ (false = true) by decide)] at H;exact H
      clear H
      have H := H1
      clear H1
      by_cases c13 : x3_1.length < 17592186044416
      ·rw [if_pos c13] at H
       have LMc13 := aZ_ c13
       clear c13
       obtain ⟨y104,hy104⟩ : ∃ y_ : List Int,y_ = (x3_1 ++ [x10_1]) := ⟨_,rfl⟩
       replace H : (impl_DummyPlayers.l0 k1 y104 a0_0 (wrap64 (x10_1 + 1)) a0_0 a0_1) = some r := by first | (rw [hy104];with_reducible exact H) | (have H2_ := (Option.bind_some _ _).symm.trans H;rw [hy104];with_reducible exact H2_) | (have H2_ := (Option.bind_some _ _).symm.trans H;with_reducible exact H2_) | with_reducible exact H | (rw [hy104];exact H) | exact H
       have Ny104 := aZ_ hy104
       clear hy104
       have H' := aZ_ H
       clear H
       have hcz14_0 : wr.cell? ⟨gb101,0,none⟩ = some (.int .i64 a0_0) := (blk_cell BK101.out 0).trans rfl
       have hcz14_1 : wr.cell? ⟨gb101,1,none⟩ = some (.int .i64 a0_1) := (blk_cell BK101.out 1).trans rfl
       have hfz14_0 := blk_frozen BK101.out 0
       have hfz14_1 := blk_frozen BK101.out 1
       go_wp2_with (first | ((with_reducible refine gate_callee (f := 34) rfl ?_);refine goesL_ (some 15) rfl rfl Try.func34 T12_ rfl #[.agg #[.int .i64 a0_0,.int .i64 a0_1],.int .i64 x10_1] rfl T4_ ?_;(with_reducible refine (impl_Table_depends.calls a0_0 a0_1 x10_1 false _ A9.out).mono ?_);rintro e w15 ⟨rfl,hb⟩;refine ⟨_,rfl,?_⟩;have n0_ := aZ_ (Kd.R_below T17_ hb);have n1_ := aZ_ (blk_below (g := gb101) (o := .cells #[.int .i64 a0_0,.int .i64 a0_1] 25 (0,0)) T2_ hb);have n2_ := aZ_ (below_step T1_ hb);clear HO_3;clear BK101;clear HB;have HO_3 := n0_;have BK101 := n1_;have HB := n2_;clear n0_ n1_ n2_;(try clear hb);(try clear hb2);(try clear hk);(try clear hi)) | ((with_reducible refine gate_builtin (b := .append) (xs := #[.tmp 17,.tmp 19]) rfl ?_);at_builtin;refine Kd.R_append (Kd.int .i64) (w0 := w) w.heap.size rfl (.tmp 17) (.tmp 19) 27 3 (.int .i64 0) 8 rfl Try.underlying27 info3 rfl T35_ T50_ u3 x3_1 x10_1 [.int .i64 x10_1] (fun _ => True) (fun _ => False) rfl rfl ?aP (fun _ hk => hk.elim) ?aF ?aO ?aB ?aS ?aL ?_;(case aP => exact rfl);(case aB => exact T1_);(case aF => exact (fun _ _ => trivial));(case aO => exact T17_);(case aS => exact (below_size T1_));(case aL => have := LMc13.out;omega);intro v105 w16 ho hb hg hat;rw [← Ny104.out] at ho;have n0_ := aZ_ (blk_grown (g := gb101) (o := .cells #[.int .i64 a0_0,.int .i64 a0_1] 25 (0,0)) T2_ hg (Kd.R_ne HO_3.out BK101.out T35_));have n1_ := aZ_ (hb);have n2_ := aZ_ (ho);clear BK101;clear HB;clear HO_3;have BK101 := n0_;have HB := n1_;have HO106 := n2_;clear n0_ n1_ n2_;clear ho hb hg hat))
       go_roundg k1
       case measure => have := HK1.out;omega
       case rel => exact ⟨(y104),(wrap64 (x10_1 + 1)),T6_,H',⟨by have := HK1.out;omega⟩,⟨by (with_reducible repeat (first | apply Kd.R_alloc | apply Kd.R_drewN | apply Kd.R_drew));exact HO106.out⟩,⟨by (with_reducible repeat (first | refine blk_drewN ?_ _ | refine blk_drew ?_ | refine blk_alloc ?_ _));exact BK101.out⟩,⟨by repeat (first | (with_reducible first | exact HB.out | apply below_alloc | apply pw_below_drewN | apply below_drew1 | refine below_set ?_ GE101.out) | exact HB.out)⟩⟩
      ·rw [if_neg c13] at H
       exact absurd H T40_
    ·rw [if_neg c8] at H
     have c8b0 : decide (x10_1 < a0_0) = false := decide_eq_false c8
     clear c8
     obtain rfl := Option.some.inj H
     go_wp2
     go_ret
     exact ⟨_,by first | rfl | (simp [errW_none,errW_some] <;> rfl) | (simp [*,errW_none,errW_some] <;> rfl),by (with_reducible repeat (first | apply Kd.R_alloc | apply Kd.R_drewN | apply Kd.R_drew));exact HO_3.out,by repeat (first | (with_reducible first | exact HB.out | apply below_alloc | apply pw_below_drewN | apply below_drew1 | refine below_set ?_ GE101.out) | exact HB.out)⟩
 ·replace c3 := Bool.eq_false_iff.mpr c3
  subst c3
  have H1 : (some ([] : List Int)) = some r := by rw [if_neg (show ¬ (false = true) by decide)] at H;exact H
  clear H
  have H := H1
  clear H1
  obtain rfl := Option.some.inj H
  go_enter Try.func9,Try.ntmps9
  go_wp2_with (first | ((with_reducible refine gate_dst (N := 1) rfl ?_);refine box_event ?hg (N := 1) ?hd (cs := #[.int .i64 a0_0,.int .i64 a0_1]) (t := 25) ?hr ?_;(case hd => rfl);(case hg => rfl);(case hr => first | (go_simp;done) | (go_simp;rfl));intro gb101 hg w17 hbox hb;have n0_ := aZ_ (below_step T5_ hb);have n1_ := aZ_ (hbox);have n2_ := aZ_ ((T3_ : w.heap.size ≤ gb101));have n3_ := aZ_ ((T3_ : w.heap.size ≤ gb101));clear HB;have HB := n0_;have BK101 := n1_;have GW101 := n2_;have GE101 := n3_;clear n0_ n1_ n2_ n3_;clear hb hbox hg;have hcz18_0 : w17.cell? ⟨gb101,0,none⟩ = some (.int .i64 a0_0) := (blk_cell BK101.out 0).trans rfl;have hcz18_1 : w17.cell? ⟨gb101,1,none⟩ = some (.int .i64 a0_1) := (blk_cell BK101.out 1).trans rfl;have hfz18_0 := blk_frozen BK101.out 0;have hfz18_1 := blk_frozen BK101.out 1) | ((with_reducible refine gate_callee (f := 10) rfl ?_);refine goesL_ (some 6) rfl rfl Try.func10 T12_ rfl #[.agg #[.int .i64 a0_0,.int .i64 a0_1]] rfl T4_ ?_;(with_reducible refine (impl_IsSimpleGame.calls k a0_0 a0_1 false _ A2.out).mono ?_);rintro e w19 ⟨rfl,hb⟩;refine ⟨_,rfl,?_⟩;have n0_ := aZ_ (blk_below (g := gb101) (o := .cells #[.int .i64 a0_0,.int .i64 a0_1] 25 (0,0)) T2_ hb);have n1_ := aZ_ (below_step T1_ hb);clear BK101;clear HB;have BK101 := n0_;have HB := n1_;clear n0_ n1_;(try clear hb);(try clear hb2);(try clear hk);(try clear hi)))
  go_ret
  exact ⟨_,by first | rfl | (simp [errW_none,errW_some] <;> rfl) | (simp [*,errW_none,errW_some] <;> rfl),by first | exact Kd.R_nil _ _ _ _ _ | exact Kd.N_nil _ _ _ _ _ | exact Kd.V_nil _ _ _ _ _ | exact Kd.Q_nil _ _ _ _ _ | exact Kd.S_nil _ _ _ _ _,by repeat (first | (with_reducible first | exact HB.out | apply below_alloc | apply pw_below_drewN | apply below_drew1 | refine below_set ?_ GE101.out) | exact HB.out)⟩
end Go.Proofs.Ytmmdcbdchifniaa.F
