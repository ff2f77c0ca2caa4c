/- Walks of Go functions and lemmas on what they compute, for the row of FnTables (a part of several): each call ends as the Lean function of its name tells; the conditions are those of each theorem. -/
import Derived.Test.YtgojehaneegaeaaM1FnTables
import Derived.Test.YtgojehaneegaeaaM2FnTables
import Derived.Test.YtgojehaneegaeaaM3FnTables
import Derived.Test.YtgojehaneegaeaaM4FnTables
import Derived.Test.YtgojehaneegaeaaM5FnTables
import Derived.Test.YtgojehaneegaeaaM6FnTables
import Derived.Test.YtgojehaneegaeaaM8FnTables
namespace Go.Proofs.Ytgojehaneegaeaa.F
open Go.RowKit Go.Proofs.YtgojehaneegaeaaW.PrintWords Go.Proofs.YtgojehaneegaeaaW.PrintLast Go.Proofs.YtgojehaneegaeaaW.PrintMore
attribute [local go_sem] max2_int min2_int max_two min_two max_three min_three max_four min_four 
set_option linter.unusedVariables false
set_option linter.unusedSimpArgs false
def spec_l1Spoil.f (k : Nat) (s0_0 : List Int) (s0_1 : Int) (s0_2 : Int) (a1 : ByteArray) : Option (ByteArray × Int × Int) := if (a1.size : Int) = 0 then ((spec_l1Text.f k s0_0 s0_1 s0_2 3).bind fun bt101 => (some (bt101.1,bt101.2.1,bt101.2.2))) else ((spec_l1Below.f s0_0 s0_1 s0_2 (a1.size : Int)).bind fun bt104 => ((spec_l1Below.f s0_0 bt104.2.1 bt104.2.2 4).bind fun bt107 => (if bt107.1 = 0 then (if 0 ≤ bt104.1 then (if bt104.1 ≤ (a1.size : Int) then (if 0 ≤ (wrap64 (bt104.1 + 1)) then (if (wrap64 (bt104.1 + 1)) ≤ (a1.size : Int) then (if (a1.extract 0 (bt104.1 : Int).toNat).size + (a1.extract ((wrap64 (bt104.1 + 1)) : Int).toNat a1.size).size ≤ 9223372036854775807 then (some ((a1.extract 0 (bt104.1 : Int).toNat) ++ (a1.extract ((wrap64 (bt104.1 + 1)) : Int).toNat a1.size),bt107.2.1,bt107.2.2)) else (none)) else (none)) else (none)) else (none)) else (none)) else (if bt107.1 = 1 then (if 0 ≤ bt104.1 then (if bt104.1 ≤ (a1.size : Int) then ((spec_l1Byte.f s0_0 bt107.2.1 bt107.2.2).bind fun bt110 => ((some (([(bt110.1) % 256] : List Int) : List Int)).bind fun y113 => (if (a1.extract 0 (bt104.1 : Int).toNat).size + (strOfNums y113).size ≤ 9223372036854775807 then (if ((a1.extract 0 (bt104.1 : Int).toNat) ++ (strOfNums y113)).size + (a1.extract (bt104.1 : Int).toNat a1.size).size ≤ 9223372036854775807 then (some (((a1.extract 0 (bt104.1 : Int).toNat) ++ (strOfNums y113)) ++ (a1.extract (bt104.1 : Int).toNat a1.size),bt110.2.1,bt110.2.2)) else (none)) else (none)))) else (none)) else (none)) else (if bt107.1 = 2 then (if 0 ≤ bt104.1 then (if bt104.1 ≤ (a1.size : Int) then (some (a1.extract 0 (bt104.1 : Int).toNat,bt107.2.1,bt107.2.2)) else (none)) else (none)) else (if 0 ≤ bt104.1 then (if bt104.1 ≤ (a1.size : Int) then (if bt104.1 < (a1.size : Int) then ((spec_l1Below.f s0_0 bt107.2.1 bt107.2.2 255).bind fun bt116 => ((some (([(Go.bits .xor .i64 (wrap64 (bt a1 bt104.1)) (wrap64 (1 + bt116.1))) % 256] : List Int) : List Int)).bind fun y119 => (if (a1.extract 0 (bt104.1 : Int).toNat).size + (strOfNums y119).size ≤ 9223372036854775807 then (if 0 ≤ (wrap64 (bt104.1 + 1)) then (if (wrap64 (bt104.1 + 1)) ≤ (a1.size : Int) then (if ((a1.extract 0 (bt104.1 : Int).toNat) ++ (strOfNums y119)).size + (a1.extract ((wrap64 (bt104.1 + 1)) : Int).toNat a1.size).size ≤ 9223372036854775807 then (some (((a1.extract 0 (bt104.1 : Int).toNat) ++ (strOfNums y119)) ++ (a1.extract ((wrap64 (bt104.1 + 1)) : Int).toNat a1.size),bt116.2.1,bt116.2.2)) else (none)) else (none)) else (none)) else (none)))) else (none)) else (none)) else (none)))))))
def spec_l1Spoil.T6 : Bool × List (List Nat × List Nat) := (true,[([],[]),([],[]),([0,1],[0,1]),([],[]),([],[]),([4],[4]),([3,5],[3,5]),([2,6],[2,6]),([7,0,1,2,3,4,5,6,7],[7])])
def spec_l1Spoil.B6 : List Nat := [0,0,3,0,0,16,56,127,255]
theorem spec_l1Spoil.tab6 : rtab .any (opsOf Try.f50 6) = spec_l1Spoil.T6 := by kernel_rfl
theorem spec_l1Spoil.bits6 : waitsOk spec_l1Spoil.T6.2 spec_l1Spoil.B6 = true := by kernel_rfl
def spec_l1Spoil.T8 : Bool × List (List Nat × List Nat) := (true,[([],[]),([],[]),([0,1],[0,1]),([],[]),([3],[3]),([4],[4]),([5],[5]),([6],[6]),([2,7],[2,7]),([],[]),([],[]),([9,10],[9,10]),([8,11],[8,11]),([12,4,0,1,2,3,4,5,6,7,8,9,10,11,12],[12])])
def spec_l1Spoil.B8 : List Nat := [0,0,3,0,8,24,56,120,255,0,0,1536,4095,8191]
theorem spec_l1Spoil.tab8 : rtab .any (opsOf Try.f50 8) = spec_l1Spoil.T8 := by kernel_rfl
theorem spec_l1Spoil.bits8 : waitsOk spec_l1Spoil.T8.2 spec_l1Spoil.B8 = true := by kernel_rfl
def spec_l1Spoil.T11 : Bool × List (List Nat × List Nat) := (true,[([],[]),([],[]),([0,1],[0,1]),([],[]),([],[]),([3,4],[3,4]),([5],[5]),([],[]),([7],[7]),([8],[8]),([6,9],[6,9]),([10],[10]),([11],[11]),([12],[12]),([2,13],[2,13]),([],[]),([],[]),([16],[16]),([15,17],[15,17]),([14,18],[14,18]),([19,8,0,1,2,3,4,5,6,7,8,9,10,11,12,13,14,15,16,17,18,19],[19])])
def spec_l1Spoil.B11 : List Nat := [0,0,3,0,0,24,56,0,128,384,1016,2040,4088,8184,16383,0,0,65536,229376,524287,1048575]
theorem spec_l1Spoil.tab11 : rtab .any (opsOf Try.f50 11) = spec_l1Spoil.T11 := by kernel_rfl
theorem spec_l1Spoil.bits11 : waitsOk spec_l1Spoil.T11.2 spec_l1Spoil.B11 = true := by kernel_rfl
set_option maxHeartbeats 8000000 in
set_option maxRecDepth 100000 in
theorem spec_l1Spoil.calls (k : Nat) (g : Nat) (s0_0 : List Int) (s0_1 : Int) (s0_2 : Int) (a1 : ByteArray) (r1 : ByteArray) (r2 : Int) (r3 : Int) (w0 w : World) (hI : IsS66 w0 w g s0_0 s0_1 s0_2) (hB : Below w0.heap.size w0 w) (h : spec_l1Spoil.f k s0_0 s0_1 s0_2 a1 = some (r1,r2,r3)) :
  Calls Try.prog 50 #[.pointer (some ⟨g,0,none⟩),.string a1] w fun e w' => e = .returned (.string r1) ∧ IsS66 w0 w' g s0_0 r2 r3 ∧ Below w0.heap.size w0 w' ∧ KeepBut w w' g none := by
 have HI0 := aZ_ hI
 have HK := aZ_ (KeepBut.refl w g none)
 have HL := aZ_ hB.size
 clear hI
 have HW0 := aZ_ hB.size
 have HB := aZ_ hB
 clear hB
 have H : (if (a1.size : Int) = 0 then ((spec_l1Text.f k s0_0 s0_1 s0_2 3).bind fun bt101 => (some (bt101.1,bt101.2.1,bt101.2.2))) else ((spec_l1Below.f s0_0 s0_1 s0_2 (a1.size : Int)).bind fun bt104 => ((spec_l1Below.f s0_0 bt104.2.1 bt104.2.2 4).bind fun bt107 => (if bt107.1 = 0 then (if 0 ≤ bt104.1 then (if bt104.1 ≤ (a1.size : Int) then (if 0 ≤ (wrap64 (bt104.1 + 1)) then (if (wrap64 (bt104.1 + 1)) ≤ (a1.size : Int) then (if (a1.extract 0 (bt104.1 : Int).toNat).size + (a1.extract ((wrap64 (bt104.1 + 1)) : Int).toNat a1.size).size ≤ 9223372036854775807 then (some ((a1.extract 0 (bt104.1 : Int).toNat) ++ (a1.extract ((wrap64 (bt104.1 + 1)) : Int).toNat a1.size),bt107.2.1,bt107.2.2)) else (none)) else (none)) else (none)) else (none)) else (none)) else (if bt107.1 = 1 then (if 0 ≤ bt104.1 then (if bt104.1 ≤ (a1.size : Int) then ((spec_l1Byte.f s0_0 bt107.2.1 bt107.2.2).bind fun bt110 => ((some (([(bt110.1) % 256] : List Int) : List Int)).bind fun y113 => (if (a1.extract 0 (bt104.1 : Int).toNat).size + (strOfNums y113).size ≤ 9223372036854775807 then (if ((a1.extract 0 (bt104.1 : Int).toNat) ++ (strOfNums y113)).size + (a1.extract (bt104.1 : Int).toNat a1.size).size ≤ 9223372036854775807 then (some (((a1.extract 0 (bt104.1 : Int).toNat) ++ (strOfNums y113)) ++ (a1.extract (bt104.1 : Int).toNat a1.size),bt110.2.1,bt110.2.2)) else (none)) else (none)))) else (none)) else (none)) else (if bt107.1 = 2 then (if 0 ≤ bt104.1 then (if bt104.1 ≤ (a1.size : Int) then (some (a1.extract 0 (bt104.1 : Int).toNat,bt107.2.1,bt107.2.2)) else (none)) else (none)) else (if 0 ≤ bt104.1 then (if bt104.1 ≤ (a1.size : Int) then (if bt104.1 < (a1.size : Int) then ((spec_l1Below.f s0_0 bt107.2.1 bt107.2.2 255).bind fun bt116 => ((some (([(Go.bits .xor .i64 (wrap64 (bt a1 bt104.1)) (wrap64 (1 + bt116.1))) % 256] : List Int) : List Int)).bind fun y119 => (if (a1.extract 0 (bt104.1 : Int).toNat).size + (strOfNums y119).size ≤ 9223372036854775807 then (if 0 ≤ (wrap64 (bt104.1 + 1)) then (if (wrap64 (bt104.1 + 1)) ≤ (a1.size : Int) then (if ((a1.extract 0 (bt104.1 : Int).toNat) ++ (strOfNums y119)).size + (a1.extract ((wrap64 (bt104.1 + 1)) : Int).toNat a1.size).size ≤ 9223372036854775807 then (some (((a1.extract 0 (bt104.1 : Int).toNat) ++ (strOfNums y119)) ++ (a1.extract ((wrap64 (bt104.1 + 1)) : Int).toNat a1.size),bt116.2.1,bt116.2.2)) else (none)) else (none)) else (none)) else (none)))) else (none)) else (none)) else (none)))))))) = some (r1,r2,r3) := h
 clear h
 by_cases c3 : (a1.size : Int) = 0
 ·rw [if_pos c3] at H
  have c3b0 : ((a1.size : Int) == 0) = true := beq_iff_eq.mpr c3
  have c3b1 : ((a1.size : Int) != 0) = false := bne_eq_false_iff_eq.mpr c3
  clear c3
  replace H := Option.bind_eq_some_iff.mp H
  obtain ⟨⟨t101,t102,t103⟩,A40,H⟩ := H
  replace H : (some (t101,t102,t103)) = some (r1,r2,r3) := H
  have A4 := aZ_ A40
  clear A40
  simp only [Option.some.injEq,Prod.mk.injEq] at H
  obtain ⟨rfl,rfl,rfl⟩ := H
  go_enter Try.func50,Try.ntmps50
  go_wp2_with (first | ((with_reducible refine gate_callee (f := 61) rfl ?_);refine goesL_ (some 10) rfl rfl Try.func61 T17_ rfl #[.pointer (some ⟨g,0,none⟩),.int .i64 3] rfl T3_ ?_;(with_reducible refine (spec_l1Text.calls k g s0_0 s0_1 s0_2 3 t101 t102 t103 w0 _ ?side1 ?side2 A4.out).mono ?_);(case side1 => repeat (first | (with_reducible first | exact HI0.out | apply IsS66.alloc | apply IsS66.drewN | apply IsS66.drew | apply IsS66.set_1 | apply IsS66.set_2) | exact HI0.out));(case side2 => repeat (first | (with_reducible first | exact HB.out | apply below_alloc | apply pw_below_drewN | apply below_drew1 | refine below_set ?_ (IsS66.ge HI0.out)) | exact HB.out));rintro e w5 ⟨rfl,hi,hb,hk⟩;refine ⟨_,rfl,?_⟩;have n0_ := aZ_ (KeepBut.trans T10_ hk (.inl rfl));have n1_ := aZ_ (hb);have n2_ := aZ_ (hi);clear HK;clear HB;clear HI0;have HK := n0_;have HB := n1_;have HI0 := n2_;clear n0_ n1_ n2_;(try clear hb);(try clear hb2);(try clear hk);(try clear hi)))
  go_ret
  exact ⟨by first | rfl | (simp [errW_none,errW_some] <;> rfl) | (simp [*,errW_none,errW_some] <;> rfl),by repeat (first | (with_reducible first | exact HI0.out | apply IsS66.alloc | apply IsS66.drewN | apply IsS66.drew | apply IsS66.set_1 | apply IsS66.set_2) | exact HI0.out),by repeat (first | (with_reducible first | exact HB.out | apply below_alloc | apply pw_below_drewN | apply below_drew1 | refine below_set ?_ (IsS66.ge HI0.out)) | exact HB.out),by repeat (first | (with_reducible first | exact HK.out | apply KeepBut.set_ | apply keep_drewN | apply keep_drew | apply keep_alloc) | exact HK.out)⟩
 ·rw [if_neg c3] at H
  have c3b0 : ((a1.size : Int) == 0) = false := beq_eq_false_iff_ne.mpr c3
  have c3b1 : ((a1.size : Int) != 0) = true := bne_iff_ne.mpr c3
  replace H := Option.bind_eq_some_iff.mp H
  obtain ⟨⟨t104,t105,t106⟩,A60,H⟩ := H
  replace H : ((spec_l1Below.f s0_0 t105 t106 4).bind fun bt107 => (if bt107.1 = 0 then (if 0 ≤ t104 then (if t104 ≤ (a1.size : Int) then (if 0 ≤ (wrap64 (t104 + 1)) then (if (wrap64 (t104 + 1)) ≤ (a1.size : Int) then (if (a1.extract 0 (t104 : Int).toNat).size + (a1.extract ((wrap64 (t104 + 1)) : Int).toNat a1.size).size ≤ 9223372036854775807 then (some ((a1.extract 0 (t104 : Int).toNat) ++ (a1.extract ((wrap64 (t104 + 1)) : Int).toNat a1.size),bt107.2.1,bt107.2.2)) else (none)) else (none)) else (none)) else (none)) else (none)) else (if bt107.1 = 1 then (if 0 ≤ t104 then (if t104 ≤ (a1.size : Int) then ((spec_l1Byte.f s0_0 bt107.2.1 bt107.2.2).bind fun bt110 => ((some (([(bt110.1) % 256] : List Int) : List Int)).bind fun y113 => (if (a1.extract 0 (t104 : Int).toNat).size + (strOfNums y113).size ≤ 9223372036854775807 then (if ((a1.extract 0 (t104 : Int).toNat) ++ (strOfNums y113)).size + (a1.extract (t104 : Int).toNat a1.size).size ≤ 9223372036854775807 then (some (((a1.extract 0 (t104 : Int).toNat) ++ (strOfNums y113)) ++ (a1.extract (t104 : Int).toNat a1.size),bt110.2.1,bt110.2.2)) else (none)) else (none)))) else (none)) else (none)) else (if bt107.1 = 2 then (if 0 ≤ t104 then (if t104 ≤ (a1.size : Int) then (some (a1.extract 0 (t104 : Int).toNat,bt107.2.1,bt107.2.2)) else (none)) else (none)) else (if 0 ≤ t104 then (if t104 ≤ (a1.size : Int) then (if t104 < (a1.size : Int) then ((spec_l1Below.f s0_0 bt107.2.1 bt107.2.2 255).bind fun bt116 => ((some (([(Go.bits .xor .i64 (wrap64 (bt a1 t104)) (wrap64 (1 + bt116.1))) % 256] : List Int) : List Int)).bind fun y119 => (if (a1.extract 0 (t104 : Int).toNat).size + (strOfNums y119).size ≤ 9223372036854775807 then (if 0 ≤ (wrap64 (t104 + 1)) then (if (wrap64 (t104 + 1)) ≤ (a1.size : Int) then (if ((a1.extract 0 (t104 : Int).toNat) ++ (strOfNums y119)).size + (a1.extract ((wrap64 (t104 + 1)) : Int).toNat a1.size).size ≤ 9223372036854775807 then (some (((a1.extract 0 (t104 : Int).toNat) ++ (strOfNums y119)) ++ (a1.extract ((wrap64 (t104 + 1)) : Int).toNat a1.size),bt116.2.1,bt116.2.2)) else (none)) else (none)) else (none)) else (none)))) else (none)) else (none)) else (none)))))) = some (r1,r2,r3) := H
  have A6 := aZ_ A60
  clear A60
  replace H := Option.bind_eq_some_iff.mp H
  obtain ⟨⟨t107,t108,t109⟩,A70,H⟩ := H
  replace H : (if t107 = 0 then (if 0 ≤ t104 then (if t104 ≤ (a1.size : Int) then (if 0 ≤ (wrap64 (t104 + 1)) then (if (wrap64 (t104 + 1)) ≤ (a1.size : Int) then (if (a1.extract 0 (t104 : Int).toNat).size + (a1.extract ((wrap64 (t104 + 1)) : Int).toNat a1.size).size ≤ 9223372036854775807 then (some ((a1.extract 0 (t104 : Int).toNat) ++ (a1.extract ((wrap64 (t104 + 1)) : Int).toNat a1.size),t108,t109)) else (none)) else (none)) else (none)) else (none)) else (none)) else (if t107 = 1 then (if 0 ≤ t104 then (if t104 ≤ (a1.size : Int) then ((spec_l1Byte.f s0_0 t108 t109).bind fun bt110 => ((some (([(bt110.1) % 256] : List Int) : List Int)).bind fun y113 => (if (a1.extract 0 (t104 : Int).toNat).size + (strOfNums y113).size ≤ 9223372036854775807 then (if ((a1.extract 0 (t104 : Int).toNat) ++ (strOfNums y113)).size + (a1.extract (t104 : Int).toNat a1.size).size ≤ 9223372036854775807 then (some (((a1.extract 0 (t104 : Int).toNat) ++ (strOfNums y113)) ++ (a1.extract (t104 : Int).toNat a1.size),bt110.2.1,bt110.2.2)) else (none)) else (none)))) else (none)) else (none)) else (if t107 = 2 then (if 0 ≤ t104 then (if t104 ≤ (a1.size : Int) then (some (a1.extract 0 (t104 : Int).toNat,t108,t109)) else (none)) else (none)) else (if 0 ≤ t104 then (if t104 ≤ (a1.size : Int) then (if t104 < (a1.size : Int) then ((spec_l1Below.f s0_0 t108 t109 255).bind fun bt116 => ((some (([(Go.bits .xor .i64 (wrap64 (bt a1 t104)) (wrap64 (1 + bt116.1))) % 256] : List Int) : List Int)).bind fun y119 => (if (a1.extract 0 (t104 : Int).toNat).size + (strOfNums y119).size ≤ 9223372036854775807 then (if 0 ≤ (wrap64 (t104 + 1)) then (if (wrap64 (t104 + 1)) ≤ (a1.size : Int) then (if ((a1.extract 0 (t104 : Int).toNat) ++ (strOfNums y119)).size + (a1.extract ((wrap64 (t104 + 1)) : Int).toNat a1.size).size ≤ 9223372036854775807 then (some (((a1.extract 0 (t104 : Int).toNat) ++ (strOfNums y119)) ++ (a1.extract ((wrap64 (t104 + 1)) : Int).toNat a1.size),bt116.2.1,bt116.2.2)) else (none)) else (none)) else (none)) else (none)))) else (none)) else (none)) else (none))))) = some (r1,r2,r3) := H
  have A7 := aZ_ A70
  clear A70
  by_cases c8 : t107 = 0
  ·rw [if_pos c8] at H
   have c8b0 : (t107 == 0) = true := beq_iff_eq.mpr c8
   have c8b1 : (t107 != 0) = false := bne_eq_false_iff_eq.mpr c8
   clear c8
   by_cases c9 : 0 ≤ t104
   ·rw [if_pos c9] at H
    have c9b0 := eq_true c9
    have c9b1 : decide (0 ≤ t104) = true := decide_eq_true c9
    clear c9
    by_cases c10 : t104 ≤ (a1.size : Int)
    ·rw [if_pos c10] at H
     have c10b0 := eq_true c10
     have c10b1 : decide (t104 ≤ (a1.size : Int)) = true := decide_eq_true c10
     clear c10
     obtain ⟨ji11,hji11⟩ : ∃ j_ : Int,(wrap64 (t104 + 1)) = j_ := ⟨_,rfl⟩
     replace H : (if 0 ≤ (ji11) then (if (ji11) ≤ (a1.size : Int) then (if (a1.extract 0 (t104 : Int).toNat).size + (a1.extract ((ji11) : Int).toNat a1.size).size ≤ 9223372036854775807 then (some ((a1.extract 0 (t104 : Int).toNat) ++ (a1.extract ((ji11) : Int).toNat a1.size),t108,t109)) else (none)) else (none)) else (none)) = some (r1,r2,r3) := by first | (rw [hji11] at H;exact H) | (simp only [hji11] at H ⊢;exact H)
     (try rw [hji11] at A6)
     (try rw [hji11] at A7)
     have hji11w : (IntKind.i64.wrap (t104 + 1)) = ji11 := (i64_w _).trans hji11
     by_cases c12 : 0 ≤ (ji11)
     ·rw [if_pos c12] at H
      have c12b0 := eq_true c12
      have c12b1 : decide (0 ≤ (ji11)) = true := decide_eq_true c12
      clear c12
      by_cases c13 : (ji11) ≤ (a1.size : Int)
      ·rw [if_pos c13] at H
       have c13b0 := eq_true c13
       have c13b1 : decide ((ji11) ≤ (a1.size : Int)) = true := decide_eq_true c13
       clear c13
       by_cases c14 : (a1.extract 0 (t104 : Int).toNat).size + (a1.extract ((ji11) : Int).toNat a1.size).size ≤ 9223372036854775807
       ·rw [if_pos c14] at H
        have c14b0 := eq_true c14
        have c14b1 : decide ((a1.extract 0 (t104 : Int).toNat).size + (a1.extract ((ji11) : Int).toNat a1.size).size ≤ 9223372036854775807) = true := decide_eq_true c14
        try have c14b2 : (9223372036854775807 < (a1.extract 0 (t104 : Int).toNat).size + (a1.extract ((ji11) : Int).toNat a1.size).size) = False := eq_false (Nat.not_lt.2 c14)
        simp only [Option.some.injEq,Prod.mk.injEq] at H
        obtain ⟨rfl,rfl,rfl⟩ := H
        go_enter Try.func50,Try.ntmps50
        try go_wp2_with (first | ((with_reducible refine gate_callee (f := 51) rfl ?_);refine goesL_ (some 14) rfl rfl Try.func51 T17_ rfl #[.pointer (some ⟨g,0,none⟩),.int .i64 (a1.size : Int)] rfl T3_ ?_;(with_reducible refine (spec_l1Below.calls g s0_0 s0_1 s0_2 (a1.size : Int) t104 t105 t106 w0 _ ?side1 ?side2 A6.out).mono ?_);(case side1 => repeat (first | (with_reducible first | exact HI0.out | apply IsS66.alloc | apply IsS66.drewN | apply IsS66.drew | apply IsS66.set_1 | apply IsS66.set_2) | exact HI0.out));(case side2 => repeat (first | (with_reducible first | exact HB.out | apply below_alloc | apply pw_below_drewN | apply below_drew1 | refine below_set ?_ (IsS66.ge HI0.out)) | exact HB.out));rintro e w15 ⟨rfl,hi,hb,hk⟩;refine ⟨_,rfl,?_⟩;have n0_ := aZ_ (KeepBut.trans T10_ hk (.inl rfl));have n1_ := aZ_ (hb);have n2_ := aZ_ (hi);clear HK;clear HB;clear HI0;have HK := n0_;have HB := n1_;have HI0 := n2_;clear n0_ n1_ n2_;(try clear hb);(try clear hb2);(try clear hk);(try clear hi)) | ((with_reducible refine gate_callee (f := 51) rfl ?_);refine goesL_ (some 16) rfl rfl Try.func51 T17_ rfl #[.pointer (some ⟨g,0,none⟩),.int .i64 4] rfl T3_ ?_;(with_reducible refine (spec_l1Below.calls g s0_0 t105 t106 4 t107 t108 t109 w0 _ ?side1 ?side2 A7.out).mono ?_);(case side1 => repeat (first | (with_reducible first | exact HI0.out | apply IsS66.alloc | apply IsS66.drewN | apply IsS66.drew | apply IsS66.set_1 | apply IsS66.set_2) | exact HI0.out));(case side2 => repeat (first | (with_reducible first | exact HB.out | apply below_alloc | apply pw_below_drewN | apply below_drew1 | refine below_set ?_ (IsS66.ge HI0.out)) | exact HB.out));rintro e w16 ⟨rfl,hi,hb,hk⟩;refine ⟨_,rfl,?_⟩;have n0_ := aZ_ (KeepBut.trans T10_ hk (.inl rfl));have n1_ := aZ_ (hb);have n2_ := aZ_ (hi);clear HK;clear HB;clear HI0;have HK := n0_;have HB := n1_;have HI0 := n2_;clear n0_ n1_ n2_;(try clear hb);(try clear hb2);(try clear hk);(try clear hi)))
        have n0_ := aZ_ (IsS66.drew HI0.out)
        have n1_ := aZ_ (keep_drew HK.out)
        have n2_ := aZ_ (below_drew1 HB.out)
        clear HI0
        clear HK
        clear HB
        have HI0 := n0_
        have HK := n1_
        have HB := n2_
        clear n0_ n1_ n2_
        refine start_ (n := 9) (S := fun w' => True) (ds := []) #[false,false,false,false,false,false,false,false,false] T17_ rfl rfl trivial (fun hHeld => ?_);refine with_tabW spec_l1Spoil.tab6 spec_l1Spoil.bits6 (fun HT_ HW_ => ?_)
        generalize w16.drew = w17 at HI0 HK HB hHeld ⊢
        refine pure_ (i := 0) (N := some 19) (v := ?_) (a' := ?_) #[true,false,false,false,false,false,false,false,false] rfl rfl (any_of HT_.out T17_) (fun _ _ _ h => h) (Or.inl ⟨by rfl,?_⟩) ?_ ?_
        rotate_left
        ·intro w'
         go_simp
         first | done | with_reducible rfl | (rw [if_neg T16_])
        rotate_left
        ·simp only [Act.put,List.setIfInBounds_toArray,List.set_cons_zero,List.set_cons_succ,i64_w,i32_w]
         rfl
        refine pure_ (i := 1) (N := some 20) (v := ?_) (a' := ?_) #[true,true,false,false,false,false,false,false,false] rfl rfl (any_of HT_.out T17_) (fun _ _ _ h => h) (Or.inl ⟨by rfl,?_⟩) ?_ ?_
        rotate_left
        ·intro w'
         go_simp
         first | done | with_reducible rfl | (rw [if_neg T16_])
        rotate_left
        ·simp only [Act.put,List.setIfInBounds_toArray,List.set_cons_zero,List.set_cons_succ,i64_w,i32_w]
         rfl
        refine pure_ (i := 2) (N := some 21) (v := ?_) (a' := ?_) #[true,true,true,false,false,false,false,false,false] rfl rfl (any_of HT_.out T17_) (fun _ _ _ h => h) (Or.inl ⟨by rfl,?_⟩) ?_ ?_
        rotate_left
        ·intro w'
         go_simp
         first | done | with_reducible rfl | (rw [if_neg T16_])
        rotate_left
        ·simp only [Act.put,List.setIfInBounds_toArray,List.set_cons_zero,List.set_cons_succ,i64_w,i32_w]
         rfl
        refine pure_ (i := 3) (N := some 22) (v := ?_) (a' := ?_) #[true,true,true,true,false,false,false,false,false] rfl rfl (any_of HT_.out T17_) (fun _ _ _ h => h) (Or.inl ⟨by rfl,?_⟩) ?_ ?_
        rotate_left
        ·intro w'
         go_simp
         first | done | with_reducible rfl | (rw [if_neg T16_])
        rotate_left
        ·simp only [Act.put,List.setIfInBounds_toArray,List.set_cons_zero,List.set_cons_succ,i64_w,i32_w]
         rfl
        refine pure_ (i := 4) (N := some 23) (v := ?_) (a' := ?_) #[true,true,true,true,true,false,false,false,false] rfl rfl (any_of HT_.out T17_) (fun _ _ _ h => h) (Or.inl ⟨by rfl,?_⟩) ?_ ?_
        rotate_left
        ·intro w'
         go_simp
         first | done | with_reducible rfl | (rw [if_neg T16_])
        rotate_left
        ·simp only [Act.put,List.setIfInBounds_toArray,List.set_cons_zero,List.set_cons_succ,i64_w,i32_w]
         rfl
        refine pure_ (i := 5) (N := some 24) (v := ?_) (a' := ?_) #[true,true,true,true,true,true,false,false,false] rfl rfl (any_of HT_.out T17_) (fun _ _ _ h => h) (Or.inl ⟨by rfl,?_⟩) ?_ ?_
        rotate_left
        ·intro w'
         go_simp
         first | done | with_reducible rfl | (rw [if_neg T16_])
        rotate_left
        ·simp only [Act.put,List.setIfInBounds_toArray,List.set_cons_zero,List.set_cons_succ,i64_w,i32_w]
         rfl
        refine pure_ (i := 6) (N := some 25) (v := ?_) (a' := ?_) #[true,true,true,true,true,true,true,false,false] rfl rfl (any_of HT_.out T17_) (fun _ _ _ h => h) (Or.inl ⟨by rfl,?_⟩) ?_ ?_
        rotate_left
        ·intro w'
         go_simp
         first | done | with_reducible rfl | (rw [if_neg T16_])
        rotate_left
        ·simp only [Act.put,List.setIfInBounds_toArray,List.set_cons_zero,List.set_cons_succ,i64_w,i32_w]
         rfl
        refine pure_ (i := 7) (N := some 26) (v := ?_) (a' := ?_) #[true,true,true,true,true,true,true,true,false] rfl rfl (any_of HT_.out T17_) (fun _ _ _ h => h) (Or.inl ⟨by rfl,?_⟩) ?_ ?_
        rotate_left
        ·intro w'
         go_simp
         first | done | with_reducible rfl | (rw [if_neg T16_])
        rotate_left
        ·simp only [Act.put,List.setIfInBounds_toArray,List.set_cons_zero,List.set_cons_succ,i64_w,i32_w]
         rfl
        refine pure_ (i := 8) (N := some 4) (v := ?_) (a' := ?_) #[true,true,true,true,true,true,true,true,true] rfl rfl (any_of HT_.out T17_) (fun _ _ _ h => h) (Or.inl ⟨by rfl,?_⟩) ?_ ?_
        rotate_left
        ·intro w'
         go_simp
         first | done | with_reducible rfl | (rw [if_neg T16_])
        rotate_left
        ·simp only [Act.put,List.setIfInBounds_toArray,List.set_cons_zero,List.set_cons_succ,i64_w,i32_w]
         rfl
        refine done_ (done_of HT_.out T17_) ?_
        try go_wp2
        go_ret
        exact ⟨by first | rfl | (simp [errW_none,errW_some] <;> rfl) | (simp only [← hji11];first | rfl | (simp [errW_none,errW_some] <;> rfl)) | (simp [*,errW_none,errW_some] <;> rfl),by repeat (first | (with_reducible first | exact HI0.out | apply IsS66.alloc | apply IsS66.drewN | apply IsS66.drew | apply IsS66.set_1 | apply IsS66.set_2) | exact HI0.out),by repeat (first | (with_reducible first | exact HB.out | apply below_alloc | apply pw_below_drewN | apply below_drew1 | refine below_set ?_ (IsS66.ge HI0.out)) | exact HB.out),by repeat (first | (with_reducible first | exact HK.out | apply KeepBut.set_ | apply keep_drewN | apply keep_drew | apply keep_alloc) | exact HK.out)⟩
       ·rw [if_neg c14] at H
        exact absurd H (by simp)
      ·rw [if_neg c13] at H
       exact absurd H (by simp)
     ·rw [if_neg c12] at H
      exact absurd H (by simp)
    ·rw [if_neg c10] at H
     exact absurd H (by simp)
   ·rw [if_neg c9] at H
    exact absurd H (by simp)
  ·rw [if_neg c8] at H
   have c8b0 : (t107 == 0) = false := beq_eq_false_iff_ne.mpr c8
   have c8b1 : (t107 != 0) = true := bne_iff_ne.mpr c8
   by_cases c18 : t107 = 1
   ·rw [if_pos c18] at H
    have c18b0 : (t107 == 1) = true := beq_iff_eq.mpr c18
    have c18b1 : (t107 != 1) = false := bne_eq_false_iff_eq.mpr c18
    clear c18
    by_cases c19 : 0 ≤ t104
    ·rw [if_pos c19] at H
     have c19b0 := eq_true c19
     have c19b1 : decide (0 ≤ t104) = true := decide_eq_true c19
     clear c19
     by_cases c20 : t104 ≤ (a1.size : Int)
     ·rw [if_pos c20] at H
      have c20b0 := eq_true c20
      have c20b1 : decide (t104 ≤ (a1.size : Int)) = true := decide_eq_true c20
      clear c20
      replace H := Option.bind_eq_some_iff.mp H
      obtain ⟨⟨t110,t111,t112⟩,A210,H⟩ := H
      replace H : ((some (([(t110) % 256] : List Int) : List Int)).bind fun y113 => (if (a1.extract 0 (t104 : Int).toNat).size + (strOfNums y113).size ≤ 9223372036854775807 then (if ((a1.extract 0 (t104 : Int).toNat) ++ (strOfNums y113)).size + (a1.extract (t104 : Int).toNat a1.size).size ≤ 9223372036854775807 then (some (((a1.extract 0 (t104 : Int).toNat) ++ (strOfNums y113)) ++ (a1.extract (t104 : Int).toNat a1.size),t111,t112)) else (none)) else (none))) = some (r1,r2,r3) := H
      have A21 := aZ_ A210
      clear A210
      obtain ⟨y113,hy113⟩ : ∃ y_ : List Int,y_ = (([(t110) % 256] : List Int)) := ⟨_,rfl⟩
      replace H : (if (a1.extract 0 (t104 : Int).toNat).size + (strOfNums y113).size ≤ 9223372036854775807 then (if ((a1.extract 0 (t104 : Int).toNat) ++ (strOfNums y113)).size + (a1.extract (t104 : Int).toNat a1.size).size ≤ 9223372036854775807 then (some (((a1.extract 0 (t104 : Int).toNat) ++ (strOfNums y113)) ++ (a1.extract (t104 : Int).toNat a1.size),t111,t112)) else (none)) else (none)) = some (r1,r2,r3) := by first | (rw [hy113];with_reducible exact H) | (have H2_ := (Option.bind_some _ _).symm.trans H;rw [hy113];with_reducible exact H2_) | (have H2_ := (Option.bind_some _ _).symm.trans H;with_reducible exact H2_) | with_reducible exact H | (rw [hy113];exact H) | exact H
      have Ny113 := aZ_ hy113
      clear hy113
      by_cases c22 : (a1.extract 0 (t104 : Int).toNat).size + (strOfNums y113).size ≤ 9223372036854775807
      ·rw [if_pos c22] at H
       have c22b0 := eq_true c22
       have c22b1 : decide ((a1.extract 0 (t104 : Int).toNat).size + (strOfNums y113).size ≤ 9223372036854775807) = true := decide_eq_true c22
       try have c22b2 : (9223372036854775807 < (a1.extract 0 (t104 : Int).toNat).size + (strOfNums y113).size) = False := eq_false (Nat.not_lt.2 c22)
       have c23b0 := eq_true (of_decide_eq_true T44_ : 0 ≤ t104)
       have c24b0 := eq_true (of_decide_eq_true T44_ : t104 ≤ (a1.size : Int))
       by_cases c25 : ((a1.extract 0 (t104 : Int).toNat) ++ (strOfNums y113)).size + (a1.extract (t104 : Int).toNat a1.size).size ≤ 9223372036854775807
       ·rw [if_pos c25] at H
        have c25b0 := eq_true c25
        have c25b1 : decide (((a1.extract 0 (t104 : Int).toNat) ++ (strOfNums y113)).size + (a1.extract (t104 : Int).toNat a1.size).size ≤ 9223372036854775807) = true := decide_eq_true c25
        try have c25b2 : (9223372036854775807 < ((a1.extract 0 (t104 : Int).toNat) ++ (strOfNums y113)).size + (a1.extract (t104 : Int).toNat a1.size).size) = False := eq_false (Nat.not_lt.2 c25)
        simp only [Option.some.injEq,Prod.mk.injEq] at H
        obtain ⟨rfl,rfl,rfl⟩ := H
        go_enter Try.func50,Try.ntmps50
        try go_wp2_with (first | ((with_reducible refine gate_callee (f := 51) rfl ?_);refine goesL_ (some 14) rfl rfl Try.func51 T17_ rfl #[.pointer (some ⟨g,0,none⟩),.int .i64 (a1.size : Int)] rfl T3_ ?_;(with_reducible refine (spec_l1Below.calls g s0_0 s0_1 s0_2 (a1.size : Int) t104 t105 t106 w0 _ ?side1 ?side2 A6.out).mono ?_);(case side1 => repeat (first | (with_reducible first | exact HI0.out | apply IsS66.alloc | apply IsS66.drewN | apply IsS66.drew | apply IsS66.set_1 | apply IsS66.set_2) | exact HI0.out));(case side2 => repeat (first | (with_reducible first | exact HB.out | apply below_alloc | apply pw_below_drewN | apply below_drew1 | refine below_set ?_ (IsS66.ge HI0.out)) | exact HB.out));rintro e w26 ⟨rfl,hi,hb,hk⟩;refine ⟨_,rfl,?_⟩;have n0_ := aZ_ (KeepBut.trans T10_ hk (.inl rfl));have n1_ := aZ_ (hb);have n2_ := aZ_ (hi);clear HK;clear HB;clear HI0;have HK := n0_;have HB := n1_;have HI0 := n2_;clear n0_ n1_ n2_;(try clear hb);(try clear hb2);(try clear hk);(try clear hi)) | ((with_reducible refine gate_callee (f := 51) rfl ?_);refine goesL_ (some 16) rfl rfl Try.func51 T17_ rfl #[.pointer (some ⟨g,0,none⟩),.int .i64 4] rfl T3_ ?_;(with_reducible refine (spec_l1Below.calls g s0_0 t105 t106 4 t107 t108 t109 w0 _ ?side1 ?side2 A7.out).mono ?_);(case side1 => repeat (first | (with_reducible first | exact HI0.out | apply IsS66.alloc | apply IsS66.drewN | apply IsS66.drew | apply IsS66.set_1 | apply IsS66.set_2) | exact HI0.out));(case side2 => repeat (first | (with_reducible first | exact HB.out | apply below_alloc | apply pw_below_drewN | apply below_drew1 | refine below_set ?_ (IsS66.ge HI0.out)) | exact HB.out));rintro e w27 ⟨rfl,hi,hb,hk⟩;refine ⟨_,rfl,?_⟩;have n0_ := aZ_ (KeepBut.trans T10_ hk (.inl rfl));have n1_ := aZ_ (hb);have n2_ := aZ_ (hi);clear HK;clear HB;clear HI0;have HK := n0_;have HB := n1_;have HI0 := n2_;clear n0_ n1_ n2_;(try clear hb);(try clear hb2);(try clear hk);(try clear hi)))
        have n0_ := aZ_ (IsS66.drew HI0.out)
        have n1_ := aZ_ (keep_drew HK.out)
        have n2_ := aZ_ (below_drew1 HB.out)
        clear HI0
        clear HK
        clear HB
        have HI0 := n0_
        have HK := n1_
        have HB := n2_
        clear n0_ n1_ n2_
        refine start_ (n := 14) (S := fun w' => True) (ds := []) #[false,false,false,false,false,false,false,false,false,false,false,false,false,false] T17_ rfl rfl trivial (fun hHeld => ?_);refine with_tabW spec_l1Spoil.tab8 spec_l1Spoil.bits8 (fun HT_ HW_ => ?_)
        generalize w27.drew = w28 at HI0 HK HB hHeld ⊢
        refine pure_ (i := 0) (N := some 29) (v := ?_) (a' := ?_) #[true,false,false,false,false,false,false,false,false,false,false,false,false,false] rfl rfl (any_of HT_.out T17_) (fun _ _ _ h => h) (Or.inl ⟨by rfl,?_⟩) ?_ ?_
        rotate_left
        ·intro w'
         go_simp
         first | done | with_reducible rfl | (rw [if_neg T16_])
        rotate_left
        ·simp only [Act.put,List.setIfInBounds_toArray,List.set_cons_zero,List.set_cons_succ,i64_w,i32_w]
         rfl
        refine pure_ (i := 1) (N := some 30) (v := ?_) (a' := ?_) #[true,true,false,false,false,false,false,false,false,false,false,false,false,false] rfl rfl (any_of HT_.out T17_) (fun _ _ _ h => h) (Or.inl ⟨by rfl,?_⟩) ?_ ?_
        rotate_left
        ·intro w'
         go_simp
         first | done | with_reducible rfl | (rw [if_neg T16_])
        rotate_left
        ·simp only [Act.put,List.setIfInBounds_toArray,List.set_cons_zero,List.set_cons_succ,i64_w,i32_w]
         rfl
        refine pure_ (i := 2) (N := some 31) (v := ?_) (a' := ?_) #[true,true,true,false,false,false,false,false,false,false,false,false,false,false] rfl rfl (any_of HT_.out T17_) (fun _ _ _ h => h) (Or.inl ⟨by rfl,?_⟩) ?_ ?_
        rotate_left
        ·intro w'
         go_simp
         first | done | with_reducible rfl | (rw [if_neg T16_])
        rotate_left
        ·simp only [Act.put,List.setIfInBounds_toArray,List.set_cons_zero,List.set_cons_succ,i64_w,i32_w]
         rfl
        refine pure_ (i := 3) (N := some 32) (v := ?_) (a' := ?_) #[true,true,true,true,false,false,false,false,false,false,false,false,false,false] rfl rfl (any_of HT_.out T17_) (fun _ _ _ h => h) (Or.inl ⟨by rfl,?_⟩) ?_ ?_
        rotate_left
        ·intro w'
         go_simp
         first | done | with_reducible rfl | (rw [if_neg T16_])
        rotate_left
        ·simp only [Act.put,List.setIfInBounds_toArray,List.set_cons_zero,List.set_cons_succ,i64_w,i32_w]
         rfl
        refine pure_ (i := 9) (N := some 38) (v := ?_) (a' := ?_) #[true,true,true,true,false,false,false,false,false,true,false,false,false,false] rfl rfl (any_of HT_.out T17_) (fun _ _ _ h => h) (Or.inl ⟨by rfl,?_⟩) ?_ ?_
        rotate_left
        ·intro w'
         go_simp
         first | done | with_reducible rfl | (rw [if_neg T16_])
        rotate_left
        ·simp only [Act.put,List.setIfInBounds_toArray,List.set_cons_zero,List.set_cons_succ,i64_w,i32_w]
         rfl
        refine pure_ (i := 10) (N := some 39) (v := ?_) (a' := ?_) #[true,true,true,true,false,false,false,false,false,true,true,false,false,false] rfl rfl (any_of HT_.out T17_) (fun _ _ _ h => h) (Or.inl ⟨by rfl,?_⟩) ?_ ?_
        rotate_left
        ·intro w'
         go_simp
         first | done | with_reducible rfl | (rw [if_neg T16_])
        rotate_left
        ·simp only [Act.put,List.setIfInBounds_toArray,List.set_cons_zero,List.set_cons_succ,i64_w,i32_w]
         rfl
        refine pure_ (i := 11) (N := some 40) (v := ?_) (a' := ?_) #[true,true,true,true,false,false,false,false,false,true,true,true,false,false] rfl rfl (any_of HT_.out T17_) (fun _ _ _ h => h) (Or.inl ⟨by rfl,?_⟩) ?_ ?_
        rotate_left
        ·intro w'
         go_simp
         first | done | with_reducible rfl | (rw [if_neg T16_])
        rotate_left
        ·simp only [Act.put,List.setIfInBounds_toArray,List.set_cons_zero,List.set_cons_succ,i64_w,i32_w]
         rfl
        refine one_ (i := 4) (N := some 33) #[true,true,true,true,true,false,false,false,false,true,true,true,false,false] rfl rfl (one_of HT_.out T17_) T58_ (fun K hK => ?_)
        refine gZ_ Try.func62 #[.pointer (some ⟨g,0,none⟩)] ?_
        with_reducible refine (spec_l1Byte.calls g s0_0 t108 t109 t110 t111 t112 w0 _ ?side1 ?side2 A21.out).mono ?_
        (case side1 => repeat (first | (with_reducible first | exact HI0.out | apply IsS66.alloc | apply IsS66.drewN | apply IsS66.drew | apply IsS66.set_1 | apply IsS66.set_2) | exact HI0.out))
        (case side2 => repeat (first | (with_reducible first | exact HB.out | apply below_alloc | apply pw_below_drewN | apply below_drew1 | refine below_set ?_ (IsS66.ge HI0.out)) | exact HB.out))
        rintro e w29 ⟨rfl,hi,hb,hk⟩
        refine ⟨_,rfl,?_⟩
        have n0_ := aZ_ (KeepBut.trans T10_ hk (.inl rfl))
        have n1_ := aZ_ (hb)
        have n2_ := aZ_ (hi)
        clear HK
        clear HB
        clear HI0
        have HK := n0_
        have HB := n1_
        have HI0 := n2_
        clear n0_ n1_ n2_
        (try clear hb)
        (try clear hb2)
        (try clear hk)
        (try clear hi)
        refine hK.out _ _ trivial (fun hHeld => ?_)
        clear hK K
        refine norm_ (a' := ?_) ?_ ?_
        rotate_left
        ·show Act.put _ (some 33) _ = _
         simp only [Act.put,List.setIfInBounds_toArray,List.set_cons_zero,List.set_cons_succ,i64_w,i32_w]
         rfl
        refine pure_ (i := 5) (N := some 34) (v := ?_) (a' := ?_) #[true,true,true,true,true,true,false,false,false,true,true,true,false,false] rfl rfl (any_of HT_.out T17_) (fun _ _ _ h => h) (Or.inl ⟨by rfl,?_⟩) ?_ ?_
        rotate_left
        ·intro w'
         go_simp
         first | done | with_reducible rfl | (rw [if_neg T16_])
        rotate_left
        ·simp only [Act.put,List.setIfInBounds_toArray,List.set_cons_zero,List.set_cons_succ,i64_w,i32_w]
         rfl
        refine one_ (i := 6) (N := some 35) #[true,true,true,true,true,true,true,false,false,true,true,true,false,false] rfl rfl (one_of HT_.out T17_) T58_ (fun K hK => ?_)
        refine Kd.R_lit_step (Kd.int .u8) _ 5 ?hg (N := 35) ?hd (xs := ([(t110) % 256] : List Int)) (inner := [.int .u8 ((t110) % 256)]) (ok := fun _ => True) (okp := fun _ => True) ?hr ?hp (fun _ hk => hk) trivial (Below.refl _ _) (Nat.le_refl _) (by simp) ?_;(case hd => rfl);(case hg => rfl);(case hr => first | (go_simp;done) | (go_simp;rfl));(case hp => exact (Reps.one (show Kd.M (Kd.int .u8) _ _ _ ((t110) % 256) [.int .u8 ((t110) % 256)] from rfl) (Reps.none _ _)))
        intro v114 w30 ho31 hb hg_ hnew_
        clear hg_ hnew_
        (first | rw [← Ny113.out] at ho31 | (simp only [Int.reduceToNat] at ho31;rw [← Ny113.out] at ho31))
        have n0_ := aZ_ (Kd.R_lower ho31 (keep_size (w := w) (g := g) (row := none) T10_))
        have n1_ := aZ_ (IsS66.below T24_ hb)
        have n2_ := aZ_ (KeepBut.trans T10_ (KeepBut.of_below hb g none) (.inl rfl))
        have n3_ := aZ_ (below_step T20_ hb)
        clear HI0
        clear HK
        clear HB
        have HO115 := n0_
        have HI0 := n1_
        have HK := n2_
        have HB := n3_
        clear n0_ n1_ n2_ n3_
        clear hb ho31
        refine hK.out _ _ trivial (fun hHeld => ?_)
        clear hK K
        refine norm_ (a' := ?_) ?_ ?_
        rotate_left
        ·show Act.put _ (some 35) _ = _
         simp only [Act.put,List.setIfInBounds_toArray,List.set_cons_zero,List.set_cons_succ,i64_w,i32_w]
         rfl
        refine one_ (i := 7) (N := some 36) #[true,true,true,true,true,true,true,true,false,true,true,true,false,false] rfl rfl (one_of HT_.out T17_) T58_ (fun K hK => ?_)
        have hcv32 := own_string (P := Try.prog) Try.underlying22 Try.underlying5 Try.underlying9 (Kd.own_of_R HO115.out)
        refine value_ (w1 := ?_) (v := ?_) (by rfl) rfl ?_ ?_
        rotate_left 2
        ·go_simp
         constructor
         ·rfl
         ·rfl
        clear hcv32
        refine hK.out _ _ trivial (fun hHeld => ?_)
        clear hK K
        refine norm_ (a' := ?_) ?_ ?_
        rotate_left
        ·show Act.put _ (some 36) _ = _
         simp only [Act.put,List.setIfInBounds_toArray,List.set_cons_zero,List.set_cons_succ,i64_w,i32_w]
         rfl
        refine pure_ (i := 8) (N := some 37) (v := ?_) (a' := ?_) #[true,true,true,true,true,true,true,true,true,true,true,true,false,false] rfl rfl (any_of HT_.out T17_) (fun _ _ _ h => h) (Or.inl ⟨by rfl,?_⟩) ?_ ?_
        rotate_left
        ·intro w'
         go_simp
         first | done | with_reducible rfl | (rw [if_neg T16_])
        rotate_left
        ·simp only [Act.put,List.setIfInBounds_toArray,List.set_cons_zero,List.set_cons_succ,i64_w,i32_w]
         rfl
        refine pure_ (i := 12) (N := some 41) (v := ?_) (a' := ?_) #[true,true,true,true,true,true,true,true,true,true,true,true,true,false] rfl rfl (any_of HT_.out T17_) (fun _ _ _ h => h) (Or.inl ⟨by rfl,?_⟩) ?_ ?_
        rotate_left
        ·intro w'
         go_simp
         first | done | with_reducible rfl | (rw [if_neg T16_])
        rotate_left
        ·simp only [Act.put,List.setIfInBounds_toArray,List.set_cons_zero,List.set_cons_succ,i64_w,i32_w]
         rfl
        refine pure_ (i := 13) (N := some 4) (v := ?_) (a' := ?_) #[true,true,true,true,true,true,true,true,true,true,true,true,true,true] rfl rfl (any_of HT_.out T17_) (fun _ _ _ h => h) (Or.inl ⟨by rfl,?_⟩) ?_ ?_
        rotate_left
        ·intro w'
         go_simp
         first | done | with_reducible rfl | (rw [if_neg T16_])
        rotate_left
        ·simp only [Act.put,List.setIfInBounds_toArray,List.set_cons_zero,List.set_cons_succ,i64_w,i32_w]
         rfl
        refine done_ (done_of HT_.out T17_) ?_
        try go_wp2
        go_ret
        exact ⟨by first | rfl | (simp [errW_none,errW_some] <;> rfl) | (simp [*,errW_none,errW_some] <;> rfl),by repeat (first | (with_reducible first | exact HI0.out | apply IsS66.alloc | apply IsS66.drewN | apply IsS66.drew | apply IsS66.set_1 | apply IsS66.set_2) | exact HI0.out),by repeat (first | (with_reducible first | exact HB.out | apply below_alloc | apply pw_below_drewN | apply below_drew1 | refine below_set ?_ (IsS66.ge HI0.out)) | exact HB.out),by repeat (first | (with_reducible first | exact HK.out | apply KeepBut.set_ | apply keep_drewN | apply keep_drew | apply keep_alloc) | exact HK.out)⟩
       ·rw [if_neg c25] at H
        exact absurd H (by simp)
      ·rw [if_neg c22] at H
       exact absurd H (by simp)
     ·rw [if_neg c20] at H
      exact absurd H (by simp)
    ·rw [if_neg c19] at H
     exact absurd H (by simp)
   ·rw [if_neg c18] at H
    have c18b0 : (t107 == 1) = false := beq_eq_false_iff_ne.mpr c18
    have c18b1 : (t107 != 1) = true := bne_iff_ne.mpr c18
    by_cases c33 : t107 = 2
    ·rw [if_pos c33] at H
     have c33b0 : (t107 == 2) = true := beq_iff_eq.mpr c33
     have c33b1 : (t107 != 2) = false := bne_eq_false_iff_eq.mpr c33
     clear c33
     by_cases c34 : 0 ≤ t104
     ·rw [if_pos c34] at H
      have c34b0 := eq_true c34
      have c34b1 : decide (0 ≤ t104) = true := decide_eq_true c34
      clear c34
      by_cases c35 : t104 ≤ (a1.size : Int)
      ·rw [if_pos c35] at H
       have c35b0 := eq_true c35
       have c35b1 : decide (t104 ≤ (a1.size : Int)) = true := decide_eq_true c35
       clear c35
       simp only [Option.some.injEq,Prod.mk.injEq] at H
       obtain ⟨rfl,rfl,rfl⟩ := H
       go_enter Try.func50,Try.ntmps50
       go_wp2_with (first | ((with_reducible refine gate_callee (f := 51) rfl ?_);refine goesL_ (some 14) rfl rfl Try.func51 T17_ rfl #[.pointer (some ⟨g,0,none⟩),.int .i64 (a1.size : Int)] rfl T3_ ?_;(with_reducible refine (spec_l1Below.calls g s0_0 s0_1 s0_2 (a1.size : Int) t104 t105 t106 w0 _ ?side1 ?side2 A6.out).mono ?_);(case side1 => repeat (first | (with_reducible first | exact HI0.out | apply IsS66.alloc | apply IsS66.drewN | apply IsS66.drew | apply IsS66.set_1 | apply IsS66.set_2) | exact HI0.out));(case side2 => repeat (first | (with_reducible first | exact HB.out | apply below_alloc | apply pw_below_drewN | apply below_drew1 | refine below_set ?_ (IsS66.ge HI0.out)) | exact HB.out));rintro e w36 ⟨rfl,hi,hb,hk⟩;refine ⟨_,rfl,?_⟩;have n0_ := aZ_ (KeepBut.trans T10_ hk (.inl rfl));have n1_ := aZ_ (hb);have n2_ := aZ_ (hi);clear HK;clear HB;clear HI0;have HK := n0_;have HB := n1_;have HI0 := n2_;clear n0_ n1_ n2_;(try clear hb);(try clear hb2);(try clear hk);(try clear hi)) | ((with_reducible refine gate_callee (f := 51) rfl ?_);refine goesL_ (some 16) rfl rfl Try.func51 T17_ rfl #[.pointer (some ⟨g,0,none⟩),.int .i64 4] rfl T3_ ?_;(with_reducible refine (spec_l1Below.calls g s0_0 t105 t106 4 t107 t108 t109 w0 _ ?side1 ?side2 A7.out).mono ?_);(case side1 => repeat (first | (with_reducible first | exact HI0.out | apply IsS66.alloc | apply IsS66.drewN | apply IsS66.drew | apply IsS66.set_1 | apply IsS66.set_2) | exact HI0.out));(case side2 => repeat (first | (with_reducible first | exact HB.out | apply below_alloc | apply pw_below_drewN | apply below_drew1 | refine below_set ?_ (IsS66.ge HI0.out)) | exact HB.out));rintro e w37 ⟨rfl,hi,hb,hk⟩;refine ⟨_,rfl,?_⟩;have n0_ := aZ_ (KeepBut.trans T10_ hk (.inl rfl));have n1_ := aZ_ (hb);have n2_ := aZ_ (hi);clear HK;clear HB;clear HI0;have HK := n0_;have HB := n1_;have HI0 := n2_;clear n0_ n1_ n2_;(try clear hb);(try clear hb2);(try clear hk);(try clear hi)))
       go_ret
       exact ⟨by first | rfl | (simp [errW_none,errW_some] <;> rfl) | (simp [*,errW_none,errW_some] <;> rfl),by repeat (first | (with_reducible first | exact HI0.out | apply IsS66.alloc | apply IsS66.drewN | apply IsS66.drew | apply IsS66.set_1 | apply IsS66.set_2) | exact HI0.out),by repeat (first | (with_reducible first | exact HB.out | apply below_alloc | apply pw_below_drewN | apply below_drew1 | refine below_set ?_ (IsS66.ge HI0.out)) | exact HB.out),by repeat (first | (with_reducible first | exact HK.out | apply KeepBut.set_ | apply keep_drewN | apply keep_drew | apply keep_alloc) | exact HK.out)⟩
      ·rw [if_neg c35] at H
       exact absurd H (by simp)
     ·rw [if_neg c34] at H
      exact absurd H (by simp)
    ·rw [if_neg c33] at H
     have c33b0 : (t107 == 2) = false := beq_eq_false_iff_ne.mpr c33
     have c33b1 : (t107 != 2) = true := bne_iff_ne.mpr c33
     by_cases c38 : 0 ≤ t104
     ·rw [if_pos c38] at H
      have c38b0 := eq_true c38
      have c38b1 : decide (0 ≤ t104) = true := decide_eq_true c38
      clear c38
      by_cases c39 : t104 ≤ (a1.size : Int)
      ·rw [if_pos c39] at H
       have c39b0 := eq_true c39
       have c39b1 : decide (t104 ≤ (a1.size : Int)) = true := decide_eq_true c39
       clear c39
       by_cases c40 : t104 < (a1.size : Int)
       ·rw [if_pos c40] at H
        have c40b0 : decide (t104 < (a1.size : Int)) = true := decide_eq_true c40
        clear c40
        replace H := Option.bind_eq_some_iff.mp H
        obtain ⟨⟨t116,t117,t118⟩,A420,H⟩ := H
        replace H : ((some (([(Go.bits .xor .i64 (wrap64 (bt a1 t104)) (wrap64 (1 + t116))) % 256] : List Int) : List Int)).bind fun y119 => (if (a1.extract 0 (t104 : Int).toNat).size + (strOfNums y119).size ≤ 9223372036854775807 then (if 0 ≤ (wrap64 (t104 + 1)) then (if (wrap64 (t104 + 1)) ≤ (a1.size : Int) then (if ((a1.extract 0 (t104 : Int).toNat) ++ (strOfNums y119)).size + (a1.extract ((wrap64 (t104 + 1)) : Int).toNat a1.size).size ≤ 9223372036854775807 then (some (((a1.extract 0 (t104 : Int).toNat) ++ (strOfNums y119)) ++ (a1.extract ((wrap64 (t104 + 1)) : Int).toNat a1.size),t117,t118)) else (none)) else (none)) else (none)) else (none))) = some (r1,r2,r3) := H
        have A42 := aZ_ A420
        clear A420
        obtain ⟨y119,hy119⟩ : ∃ y_ : List Int,y_ = (([(Go.bits .xor .i64 (wrap64 (bt a1 t104)) (wrap64 (1 + t116))) % 256] : List Int)) := ⟨_,rfl⟩
        replace H : (if (a1.extract 0 (t104 : Int).toNat).size + (strOfNums y119).size ≤ 9223372036854775807 then (if 0 ≤ (wrap64 (t104 + 1)) then (if (wrap64 (t104 + 1)) ≤ (a1.size : Int) then (if ((a1.extract 0 (t104 : Int).toNat) ++ (strOfNums y119)).size + (a1.extract ((wrap64 (t104 + 1)) : Int).toNat a1.size).size ≤ 9223372036854775807 then (some (((a1.extract 0 (t104 : Int).toNat) ++ (strOfNums y119)) ++ (a1.extract ((wrap64 (t104 + 1)) : Int).toNat a1.size),t117,t118)) else (none)) else (none)) else (none)) else (none)) = some (r1,r2,r3) := by first | (rw [hy119];with_reducible exact H) | (have H2_ := (Option.bind_some _ _).symm.trans H;rw [hy119];with_reducible exact H2_) | (have H2_ := (Option.bind_some _ _).symm.trans H;with_reducible exact H2_) | with_reducible exact H | (rw [hy119];exact H) | exact H
        have Ny119 := aZ_ hy119
        clear hy119
        by_cases c43 : (a1.extract 0 (t104 : Int).toNat).size + (strOfNums y119).size ≤ 9223372036854775807
        ·rw [if_pos c43] at H
         have c43b0 := eq_true c43
         have c43b1 : decide ((a1.extract 0 (t104 : Int).toNat).size + (strOfNums y119).size ≤ 9223372036854775807) = true := decide_eq_true c43
         try have c43b2 : (9223372036854775807 < (a1.extract 0 (t104 : Int).toNat).size + (strOfNums y119).size) = False := eq_false (Nat.not_lt.2 c43)
         obtain ⟨ji44,hji44⟩ : ∃ j_ : Int,(wrap64 (t104 + 1)) = j_ := ⟨_,rfl⟩
         replace H : (if 0 ≤ (ji44) then (if (ji44) ≤ (a1.size : Int) then (if ((a1.extract 0 (t104 : Int).toNat) ++ (strOfNums y119)).size + (a1.extract ((ji44) : Int).toNat a1.size).size ≤ 9223372036854775807 then (some (((a1.extract 0 (t104 : Int).toNat) ++ (strOfNums y119)) ++ (a1.extract ((ji44) : Int).toNat a1.size),t117,t118)) else (none)) else (none)) else (none)) = some (r1,r2,r3) := by first | (rw [hji44] at H;exact H) | (simp only [hji44] at H ⊢;exact H)
         (try rw [hji44] at A6)
         (try rw [hji44] at A7)
         (try rw [hji44] at A42)
         have hji44w : (IntKind.i64.wrap (t104 + 1)) = ji44 := (i64_w _).trans hji44
         by_cases c45 : 0 ≤ (ji44)
         ·rw [if_pos c45] at H
          have c45b0 := eq_true c45
          have c45b1 : decide (0 ≤ (ji44)) = true := decide_eq_true c45
          clear c45
          by_cases c46 : (ji44) ≤ (a1.size : Int)
          ·rw [if_pos c46] at H
           have c46b0 := eq_true c46
           have c46b1 : decide ((ji44) ≤ (a1.size : Int)) = true := decide_eq_true c46
           clear c46
           by_cases c47 : ((a1.extract 0 (t104 : Int).toNat) ++ (strOfNums y119)).size + (a1.extract ((ji44) : Int).toNat a1.size).size ≤ 9223372036854775807
           ·rw [if_pos c47] at H
            have c47b0 := eq_true c47
            have c47b1 : decide (((a1.extract 0 (t104 : Int).toNat) ++ (strOfNums y119)).size + (a1.extract ((ji44) : Int).toNat a1.size).size ≤ 9223372036854775807) = true := decide_eq_true c47
            try have c47b2 : (9223372036854775807 < ((a1.extract 0 (t104 : Int).toNat) ++ (strOfNums y119)).size + (a1.extract ((ji44) : Int).toNat a1.size).size) = False := eq_false (Nat.not_lt.2 c47)
            simp only [Option.some.injEq,Prod.mk.injEq] at H
            obtain ⟨rfl,rfl,rfl⟩ := H
            go_enter Try.func50,Try.ntmps50
            try go_wp2_with (first | ((with_reducible refine gate_callee (f := 51) rfl ?_);refine goesL_ (some 14) rfl rfl Try.func51 T17_ rfl #[.pointer (some ⟨g,0,none⟩),.int .i64 (a1.size : Int)] rfl T3_ ?_;(with_reducible refine (spec_l1Below.calls g s0_0 s0_1 s0_2 (a1.size : Int) t104 t105 t106 w0 _ ?side1 ?side2 A6.out).mono ?_);(case side1 => repeat (first | (with_reducible first | exact HI0.out | apply IsS66.alloc | apply IsS66.drewN | apply IsS66.drew | apply IsS66.set_1 | apply IsS66.set_2) | exact HI0.out));(case side2 => repeat (first | (with_reducible first | exact HB.out | apply below_alloc | apply pw_below_drewN | apply below_drew1 | refine below_set ?_ (IsS66.ge HI0.out)) | exact HB.out));rintro e w48 ⟨rfl,hi,hb,hk⟩;refine ⟨_,rfl,?_⟩;have n0_ := aZ_ (KeepBut.trans T10_ hk (.inl rfl));have n1_ := aZ_ (hb);have n2_ := aZ_ (hi);clear HK;clear HB;clear HI0;have HK := n0_;have HB := n1_;have HI0 := n2_;clear n0_ n1_ n2_;(try clear hb);(try clear hb2);(try clear hk);(try clear hi)) | ((with_reducible refine gate_callee (f := 51) rfl ?_);refine goesL_ (some 16) rfl rfl Try.func51 T17_ rfl #[.pointer (some ⟨g,0,none⟩),.int .i64 4] rfl T3_ ?_;(with_reducible refine (spec_l1Below.calls g s0_0 t105 t106 4 t107 t108 t109 w0 _ ?side1 ?side2 A7.out).mono ?_);(case side1 => repeat (first | (with_reducible first | exact HI0.out | apply IsS66.alloc | apply IsS66.drewN | apply IsS66.drew | apply IsS66.set_1 | apply IsS66.set_2) | exact HI0.out));(case side2 => repeat (first | (with_reducible first | exact HB.out | apply below_alloc | apply pw_below_drewN | apply below_drew1 | refine below_set ?_ (IsS66.ge HI0.out)) | exact HB.out));rintro e w49 ⟨rfl,hi,hb,hk⟩;refine ⟨_,rfl,?_⟩;have n0_ := aZ_ (KeepBut.trans T10_ hk (.inl rfl));have n1_ := aZ_ (hb);have n2_ := aZ_ (hi);clear HK;clear HB;clear HI0;have HK := n0_;have HB := n1_;have HI0 := n2_;clear n0_ n1_ n2_;(try clear hb);(try clear hb2);(try clear hk);(try clear hi)))
            have n0_ := aZ_ (IsS66.drew HI0.out)
            have n1_ := aZ_ (keep_drew HK.out)
            have n2_ := aZ_ (below_drew1 HB.out)
            clear HI0
            clear HK
            clear HB
            have HI0 := n0_
            have HK := n1_
            have HB := n2_
            clear n0_ n1_ n2_
            have p41 : 0 ≤ (t104 : Int) := of_decide_eq_true T44_
            have q41 : t104 < (a1.size : Int) := of_decide_eq_true T44_
            have hx41 := bt_at a1 t104
            replace p41 := eq_true p41
            replace q41 := eq_true q41
            refine start_ (n := 21) (S := fun w' => True) (ds := []) #[false,false,false,false,false,false,false,false,false,false,false,false,false,false,false,false,false,false,false,false,false] T17_ rfl rfl trivial (fun hHeld => ?_);refine with_tabW spec_l1Spoil.tab11 spec_l1Spoil.bits11 (fun HT_ HW_ => ?_)
            generalize w49.drew = w50 at HI0 HK HB hHeld ⊢
            refine pure_ (i := 0) (N := some 47) (v := ?_) (a' := ?_) #[true,false,false,false,false,false,false,false,false,false,false,false,false,false,false,false,false,false,false,false,false] rfl rfl (any_of HT_.out T17_) (fun _ _ _ h => h) (Or.inl ⟨by rfl,?_⟩) ?_ ?_
            rotate_left
            ·intro w'
             go_simp
             first | done | with_reducible rfl | (rw [if_neg T16_])
            rotate_left
            ·simp only [Act.put,List.setIfInBounds_toArray,List.set_cons_zero,List.set_cons_succ,i64_w,i32_w]
             rfl
            refine pure_ (i := 1) (N := some 48) (v := ?_) (a' := ?_) #[true,true,false,false,false,false,false,false,false,false,false,false,false,false,false,false,false,false,false,false,false] rfl rfl (any_of HT_.out T17_) (fun _ _ _ h => h) (Or.inl ⟨by rfl,?_⟩) ?_ ?_
            rotate_left
            ·intro w'
             go_simp
             first | done | with_reducible rfl | (rw [if_neg T16_])
            rotate_left
            ·simp only [Act.put,List.setIfInBounds_toArray,List.set_cons_zero,List.set_cons_succ,i64_w,i32_w]
             rfl
            refine pure_ (i := 2) (N := some 49) (v := ?_) (a' := ?_) #[true,true,true,false,false,false,false,false,false,false,false,false,false,false,false,false,false,false,false,false,false] rfl rfl (any_of HT_.out T17_) (fun _ _ _ h => h) (Or.inl ⟨by rfl,?_⟩) ?_ ?_
            rotate_left
            ·intro w'
             go_simp
             first | done | with_reducible rfl | (rw [if_neg T16_])
            rotate_left
            ·simp only [Act.put,List.setIfInBounds_toArray,List.set_cons_zero,List.set_cons_succ,i64_w,i32_w]
             rfl
            refine pure_ (i := 3) (N := some 50) (v := ?_) (a' := ?_) #[true,true,true,true,false,false,false,false,false,false,false,false,false,false,false,false,false,false,false,false,false] rfl rfl (any_of HT_.out T17_) (fun _ _ _ h => h) (Or.inl ⟨by rfl,?_⟩) ?_ ?_
            rotate_left
            ·intro w'
             go_simp
             first | done | with_reducible rfl | (rw [if_neg T16_])
            rotate_left
            ·simp only [Act.put,List.setIfInBounds_toArray,List.set_cons_zero,List.set_cons_succ,i64_w,i32_w]
             rfl
            refine pure_ (i := 4) (N := some 51) (v := ?_) (a' := ?_) #[true,true,true,true,true,false,false,false,false,false,false,false,false,false,false,false,false,false,false,false,false] rfl rfl (any_of HT_.out T17_) (fun _ _ _ h => h) (Or.inl ⟨by rfl,?_⟩) ?_ ?_
            rotate_left
            ·intro w'
             go_simp
             first | done | with_reducible rfl | (rw [if_neg T16_])
            rotate_left
            ·simp only [Act.put,List.setIfInBounds_toArray,List.set_cons_zero,List.set_cons_succ,i64_w,i32_w]
             rfl
            refine pure_ (i := 7) (N := some 54) (v := ?_) (a' := ?_) #[true,true,true,true,true,false,false,true,false,false,false,false,false,false,false,false,false,false,false,false,false] rfl rfl (any_of HT_.out T17_) (fun _ _ _ h => h) (Or.inl ⟨by rfl,?_⟩) ?_ ?_
            rotate_left
            ·intro w'
             go_simp
             first | done | with_reducible rfl | (rw [if_neg T16_])
            rotate_left
            ·simp only [Act.put,List.setIfInBounds_toArray,List.set_cons_zero,List.set_cons_succ,i64_w,i32_w]
             rfl
            refine pure_ (i := 15) (N := some 62) (v := ?_) (a' := ?_) #[true,true,true,true,true,false,false,true,false,false,false,false,false,false,false,true,false,false,false,false,false] rfl rfl (any_of HT_.out T17_) (fun _ _ _ h => h) (Or.inl ⟨by rfl,?_⟩) ?_ ?_
            rotate_left
            ·intro w'
             go_simp
             first | done | with_reducible rfl | (rw [if_neg T16_])
            rotate_left
            ·simp only [Act.put,List.setIfInBounds_toArray,List.set_cons_zero,List.set_cons_succ,i64_w,i32_w]
             rfl
            refine pure_ (i := 16) (N := some 63) (v := ?_) (a' := ?_) #[true,true,true,true,true,false,false,true,false,false,false,false,false,false,false,true,true,false,false,false,false] rfl rfl (any_of HT_.out T17_) (fun _ _ _ h => h) (Or.inl ⟨by rfl,?_⟩) ?_ ?_
            rotate_left
            ·intro w'
             go_simp
             first | done | with_reducible rfl | (rw [if_neg T16_])
            rotate_left
            ·simp only [Act.put,List.setIfInBounds_toArray,List.set_cons_zero,List.set_cons_succ,i64_w,i32_w]
             rfl
            refine pure_ (i := 17) (N := some 64) (v := ?_) (a' := ?_) #[true,true,true,true,true,false,false,true,false,false,false,false,false,false,false,true,true,true,false,false,false] rfl rfl (any_of HT_.out T17_) (fun _ _ _ h => h) (Or.inl ⟨by rfl,?_⟩) ?_ ?_
            rotate_left
            ·intro w'
             go_simp
             first | done | with_reducible rfl | (rw [if_neg T16_])
            rotate_left
            ·simp only [Act.put,List.setIfInBounds_toArray,List.set_cons_zero,List.set_cons_succ,i64_w,i32_w]
             rfl
            refine pure_ (i := 18) (N := some 65) (v := ?_) (a' := ?_) #[true,true,true,true,true,false,false,true,false,false,false,false,false,false,false,true,true,true,true,false,false] rfl rfl (any_of HT_.out T17_) (fun _ _ _ h => h) (Or.inl ⟨by rfl,?_⟩) ?_ ?_
            rotate_left
            ·intro w'
             go_simp
             first | done | with_reducible rfl | (rw [if_neg T16_])
            rotate_left
            ·simp only [Act.put,List.setIfInBounds_toArray,List.set_cons_zero,List.set_cons_succ,i64_w,i32_w]
             rfl
            refine take_ (i := 5) (N := some 52) (v := ?_) (a' := ?_) #[true,true,true,true,true,true,false,true,false,false,false,false,false,false,false,true,true,true,true,false,false] rfl rfl (take_ofW HT_.out HW_.out T17_) (fun _ _ _ h => h) (Or.inl ⟨by rfl,?_⟩) hHeld ?_ ?_
            rotate_left
            ·intro w' _
             go_simp
             first | done | with_reducible rfl | (rw [if_neg T16_])
            rotate_left
            ·simp only [Act.put,List.setIfInBounds_toArray,List.set_cons_zero,List.set_cons_succ,i64_w,i32_w]
             rfl
            refine pure_ (i := 6) (N := some 53) (v := ?_) (a' := ?_) #[true,true,true,true,true,true,true,true,false,false,false,false,false,false,false,true,true,true,true,false,false] rfl rfl (any_of HT_.out T17_) (fun _ _ _ h => h) (Or.inl ⟨by rfl,?_⟩) ?_ ?_
            rotate_left
            ·intro w'
             go_simp
             first | done | with_reducible rfl | (rw [if_neg T16_])
            rotate_left
            ·simp only [Act.put,List.setIfInBounds_toArray,List.set_cons_zero,List.set_cons_succ,i64_w,i32_w]
             rfl
            refine one_ (i := 8) (N := some 55) #[true,true,true,true,true,true,true,true,true,false,false,false,false,false,false,true,true,true,true,false,false] rfl rfl (one_of HT_.out T17_) T58_ (fun K hK => ?_)
            refine gZ_ Try.func51 #[.pointer (some ⟨g,0,none⟩),.int .i64 255] ?_
            with_reducible refine (spec_l1Below.calls g s0_0 t108 t109 255 t116 t117 t118 w0 _ ?side1 ?side2 A42.out).mono ?_
            (case side1 => repeat (first | (with_reducible first | exact HI0.out | apply IsS66.alloc | apply IsS66.drewN | apply IsS66.drew | apply IsS66.set_1 | apply IsS66.set_2) | exact HI0.out))
            (case side2 => repeat (first | (with_reducible first | exact HB.out | apply below_alloc | apply pw_below_drewN | apply below_drew1 | refine below_set ?_ (IsS66.ge HI0.out)) | exact HB.out))
            rintro e w51 ⟨rfl,hi,hb,hk⟩
            refine ⟨_,rfl,?_⟩
            have n0_ := aZ_ (KeepBut.trans T10_ hk (.inl rfl))
            have n1_ := aZ_ (hb)
            have n2_ := aZ_ (hi)
            clear HK
            clear HB
            clear HI0
            have HK := n0_
            have HB := n1_
            have HI0 := n2_
            clear n0_ n1_ n2_
            (try clear hb)
            (try clear hb2)
            (try clear hk)
            (try clear hi)
            refine hK.out _ _ trivial (fun hHeld => ?_)
            clear hK K
            refine norm_ (a' := ?_) ?_ ?_
            rotate_left
            ·show Act.put _ (some 55) _ = _
             simp only [Act.put,List.setIfInBounds_toArray,List.set_cons_zero,List.set_cons_succ,i64_w,i32_w]
             rfl
            refine pure_ (i := 9) (N := some 56) (v := ?_) (a' := ?_) #[true,true,true,true,true,true,true,true,true,true,false,false,false,false,false,true,true,true,true,false,false] rfl rfl (any_of HT_.out T17_) (fun _ _ _ h => h) (Or.inl ⟨by rfl,?_⟩) ?_ ?_
            rotate_left
            ·intro w'
             go_simp
             first | done | with_reducible rfl | (rw [if_neg T16_])
            rotate_left
            ·simp only [Act.put,List.setIfInBounds_toArray,List.set_cons_zero,List.set_cons_succ,i64_w,i32_w]
             rfl
            refine pure_ (i := 10) (N := some 57) (v := ?_) (a' := ?_) #[true,true,true,true,true,true,true,true,true,true,true,false,false,false,false,true,true,true,true,false,false] rfl rfl (any_of HT_.out T17_) (fun _ _ _ h => h) (Or.inl ⟨by rfl,?_⟩) ?_ ?_
            rotate_left
            ·intro w'
             go_simp
             first | done | with_reducible rfl | (rw [if_neg T16_])
            rotate_left
            ·simp only [Act.put,List.setIfInBounds_toArray,List.set_cons_zero,List.set_cons_succ,i64_w,i32_w]
             rfl
            refine pure_ (i := 11) (N := some 58) (v := ?_) (a' := ?_) #[true,true,true,true,true,true,true,true,true,true,true,true,false,false,false,true,true,true,true,false,false] rfl rfl (any_of HT_.out T17_) (fun _ _ _ h => h) (Or.inl ⟨by rfl,?_⟩) ?_ ?_
            rotate_left
            ·intro w'
             go_simp
             first | done | with_reducible rfl | (rw [if_neg T16_])
            rotate_left
            ·simp only [Act.put,List.setIfInBounds_toArray,List.set_cons_zero,List.set_cons_succ,i64_w,i32_w]
             rfl
            refine one_ (i := 12) (N := some 59) #[true,true,true,true,true,true,true,true,true,true,true,true,true,false,false,true,true,true,true,false,false] rfl rfl (one_of HT_.out T17_) T58_ (fun K hK => ?_)
            refine Kd.R_lit_step (Kd.int .u8) _ 5 ?hg (N := 59) ?hd (xs := ([(Go.bits .xor .i64 (wrap64 (bt a1 t104)) (wrap64 (1 + t116))) % 256] : List Int)) (inner := [.int .u8 ((Go.bits .xor .i64 (wrap64 (bt a1 t104)) (wrap64 (1 + t116))) % 256)]) (ok := fun _ => True) (okp := fun _ => True) ?hr ?hp (fun _ hk => hk) trivial (Below.refl _ _) (Nat.le_refl _) (by simp) ?_;(case hd => rfl);(case hg => rfl);(case hr => first | (go_simp;done) | (go_simp;rfl));(case hp => exact (Reps.one (show Kd.M (Kd.int .u8) _ _ _ ((Go.bits .xor .i64 (wrap64 (bt a1 t104)) (wrap64 (1 + t116))) % 256) [.int .u8 ((Go.bits .xor .i64 (wrap64 (bt a1 t104)) (wrap64 (1 + t116))) % 256)] from rfl) (Reps.none _ _)))
            intro v120 w52 ho53 hb hg_ hnew_
            clear hg_ hnew_
            (first | rw [← Ny119.out] at ho53 | (simp only [Int.reduceToNat] at ho53;rw [← Ny119.out] at ho53))
            have n0_ := aZ_ (Kd.R_lower ho53 (keep_size (w := w) (g := g) (row := none) T10_))
            have n1_ := aZ_ (IsS66.below T24_ hb)
            have n2_ := aZ_ (KeepBut.trans T10_ (KeepBut.of_below hb g none) (.inl rfl))
            have n3_ := aZ_ (below_step T20_ hb)
            clear HI0
            clear HK
            clear HB
            have HO121 := n0_
            have HI0 := n1_
            have HK := n2_
            have HB := n3_
            clear n0_ n1_ n2_ n3_
            clear hb ho53
            refine hK.out _ _ trivial (fun hHeld => ?_)
            clear hK K
            refine norm_ (a' := ?_) ?_ ?_
            rotate_left
            ·show Act.put _ (some 59) _ = _
             simp only [Act.put,List.setIfInBounds_toArray,List.set_cons_zero,List.set_cons_succ,i64_w,i32_w]
             rfl
            refine one_ (i := 13) (N := some 60) #[true,true,true,true,true,true,true,true,true,true,true,true,true,true,false,true,true,true,true,false,false] rfl rfl (one_of HT_.out T17_) T58_ (fun K hK => ?_)
            have hcv54 := own_string (P := Try.prog) Try.underlying22 Try.underlying5 Try.underlying9 (Kd.own_of_R HO121.out)
            refine value_ (w1 := ?_) (v := ?_) (by rfl) rfl ?_ ?_
            rotate_left 2
            ·go_simp
             constructor
             ·rfl
             ·rfl
            clear hcv54
            refine hK.out _ _ trivial (fun hHeld => ?_)
            clear hK K
            refine norm_ (a' := ?_) ?_ ?_
            rotate_left
            ·show Act.put _ (some 60) _ = _
             simp only [Act.put,List.setIfInBounds_toArray,List.set_cons_zero,List.set_cons_succ,i64_w,i32_w]
             rfl
            refine pure_ (i := 14) (N := some 61) (v := ?_) (a' := ?_) #[true,true,true,true,true,true,true,true,true,true,true,true,true,true,true,true,true,true,true,false,false] rfl rfl (any_of HT_.out T17_) (fun _ _ _ h => h) (Or.inl ⟨by rfl,?_⟩) ?_ ?_
            rotate_left
            ·intro w'
             go_simp
             first | done | with_reducible rfl | (rw [if_neg T16_])
            rotate_left
            ·simp only [Act.put,List.setIfInBounds_toArray,List.set_cons_zero,List.set_cons_succ,i64_w,i32_w]
             rfl
            refine pure_ (i := 19) (N := some 66) (v := ?_) (a' := ?_) #[true,true,true,true,true,true,true,true,true,true,true,true,true,true,true,true,true,true,true,true,false] rfl rfl (any_of HT_.out T17_) (fun _ _ _ h => h) (Or.inl ⟨by rfl,?_⟩) ?_ ?_
            rotate_left
            ·intro w'
             go_simp
             first | done | with_reducible rfl | (rw [if_neg T16_])
            rotate_left
            ·simp only [Act.put,List.setIfInBounds_toArray,List.set_cons_zero,List.set_cons_succ,i64_w,i32_w]
             rfl
            refine pure_ (i := 20) (N := some 4) (v := ?_) (a' := ?_) #[true,true,true,true,true,true,true,true,true,true,true,true,true,true,true,true,true,true,true,true,true] rfl rfl (any_of HT_.out T17_) (fun _ _ _ h => h) (Or.inl ⟨by rfl,?_⟩) ?_ ?_
            rotate_left
            ·intro w'
             go_simp
             first | done | with_reducible rfl | (rw [if_neg T16_])
            rotate_left
            ·simp only [Act.put,List.setIfInBounds_toArray,List.set_cons_zero,List.set_cons_succ,i64_w,i32_w]
             rfl
            refine done_ (done_of HT_.out T17_) ?_
            try go_wp2
            go_ret
            exact ⟨by first | rfl | (simp [errW_none,errW_some] <;> rfl) | (simp only [← hji44];first | rfl | (simp [errW_none,errW_some] <;> rfl)) | (simp [*,errW_none,errW_some] <;> rfl),by repeat (first | (with_reducible first | exact HI0.out | apply IsS66.alloc | apply IsS66.drewN | apply IsS66.drew | apply IsS66.set_1 | apply IsS66.set_2) | exact HI0.out),by repeat (first | (with_reducible first | exact HB.out | apply below_alloc | apply pw_below_drewN | apply below_drew1 | refine below_set ?_ (IsS66.ge HI0.out)) | exact HB.out),by repeat (first | (with_reducible first | exact HK.out | apply KeepBut.set_ | apply keep_drewN | apply keep_drew | apply keep_alloc) | exact HK.out)⟩
           ·rw [if_neg c47] at H
            exact absurd H (by simp)
          ·rw [if_neg c46] at H
           exact absurd H (by simp)
         ·rw [if_neg c45] at H
          exact absurd H (by simp)
        ·rw [if_neg c43] at H
         exact absurd H (by simp)
       ·rw [if_neg c40] at H
        exact absurd H (by simp)
      ·rw [if_neg c39] at H
       exact absurd H (by simp)
     ·rw [if_neg c38] at H
      exact absurd H (by simp)
def spec_DrawParseTable.f (k : Nat) (l0 : List Int) : Option (ByteArray) := (spec_l1New.f k l0).bind fun bt101 => ((spec_l2Any.f k bt101.1 bt101.2.1 bt101.2.2).bind fun bt105 => ((spec_FormatTable.f k bt105.1 bt105.2.1).bind fun t109 => ((spec_l1Once.f bt101.1 bt105.2.2.1 bt105.2.2.2 4).bind fun bt110 => (if bt110.1 = true then ((spec_l1Spoil.f k bt101.1 bt110.2.1 bt110.2.2 t109).bind fun bt113 => (some bt113.1)) else (some t109)))))
set_option maxHeartbeats 8000000 in
set_option maxRecDepth 100000 in
theorem spec_DrawParseTable.calls (k : Nat) (A0 : Option Addr) (c0 : Nat) (l0 : List Int) (r : ByteArray) (w : World) (hr0 : Kd.C (Kd.int .u8) w A0 l0.length l0) (hc0 : l0.length ≤ c0) (h : spec_DrawParseTable.f k l0 = some r) :
  Calls Try.prog 20 #[.slice A0 l0.length c0] w fun e w' => e = .returned (.string r) ∧ Below w.heap.size w w' := by
 have HR0 := aZ_ hr0
 have HC0 := aZ_ hc0
 clear hr0 hc0
 have HB := aZ_ (Below.refl w.heap.size w)
 have H : ((spec_l1New.f k l0).bind fun bt101 => ((spec_l2Any.f k bt101.1 bt101.2.1 bt101.2.2).bind fun bt105 => ((spec_FormatTable.f k bt105.1 bt105.2.1).bind fun t109 => ((spec_l1Once.f bt101.1 bt105.2.2.1 bt105.2.2.2 4).bind fun bt110 => (if bt110.1 = true then ((spec_l1Spoil.f k bt101.1 bt110.2.1 bt110.2.2 t109).bind fun bt113 => (some bt113.1)) else (some t109)))))) = some r := h
 clear h
 replace H := Option.bind_eq_some_iff.mp H
 obtain ⟨⟨t101,t102,t103⟩,A20,H⟩ := H
 replace H : ((spec_l2Any.f k t101 t102 t103).bind fun bt105 => ((spec_FormatTable.f k bt105.1 bt105.2.1).bind fun t109 => ((spec_l1Once.f t101 bt105.2.2.1 bt105.2.2.2 4).bind fun bt110 => (if bt110.1 = true then ((spec_l1Spoil.f k t101 bt110.2.1 bt110.2.2 t109).bind fun bt113 => (some bt113.1)) else (some t109))))) = some r := H
 have A2 := aZ_ A20
 clear A20
 replace H := Option.bind_eq_some_iff.mp H
 obtain ⟨⟨t105,t106,t107,t108⟩,A30,H⟩ := H
 replace H : ((spec_FormatTable.f k t105 t106).bind fun t109 => ((spec_l1Once.f t101 t107 t108 4).bind fun bt110 => (if bt110.1 = true then ((spec_l1Spoil.f k t101 bt110.2.1 bt110.2.2 t109).bind fun bt113 => (some bt113.1)) else (some t109)))) = some r := H
 have A3 := aZ_ A30
 clear A30
 replace H := Option.bind_eq_some_iff.mp H
 obtain ⟨t109,A40,H⟩ := H
 replace H : ((spec_l1Once.f t101 t107 t108 4).bind fun bt110 => (if bt110.1 = true then ((spec_l1Spoil.f k t101 bt110.2.1 bt110.2.2 t109).bind fun bt113 => (some bt113.1)) else (some t109))) = some r := H
 have A4 := aZ_ A40
 clear A40
 replace H := Option.bind_eq_some_iff.mp H
 obtain ⟨⟨t110,t111,t112⟩,A50,H⟩ := H
 replace H : (if t110 = true then ((spec_l1Spoil.f k t101 t111 t112 t109).bind fun bt113 => (some bt113.1)) else (some t109)) = some r := H
 have A5 := aZ_ A50
 clear A50
 by_cases c6 : t110 = true
 ·subst c6
  have H1 : ((spec_l1Spoil.f k t101 t111 t112 t109).bind fun bt113 => (some bt113.1)) = some r := by rw [if_pos rfl] at H;exact H
  clear H
  have H := H1
  clear H1
  replace H := Option.bind_eq_some_iff.mp H
  obtain ⟨⟨t113,t114,t115⟩,A70,H⟩ := H
  replace H : (some t113) = some r := H
  have A7 := aZ_ A70
  clear A70
  obtain rfl := Option.some.inj H
  go_enter Try.func20,Try.ntmps20
  go_wp2_with (first | ((with_reducible refine gate_callee (f := 47) rfl ?_);refine goesL_ (some 6) rfl rfl Try.func47 T17_ rfl #[.slice A0 l0.length c0] rfl T3_ ?_;(with_reducible refine (spec_l1New.calls k _ _ l0 t101 t102 t103 w _ ?side1 ?side2 ?side3 A2.out).mono ?_);(case side1 => repeat (first | (with_reducible first | exact HB.out | apply below_alloc | apply pw_below_drewN | apply below_drew1) | exact HB.out));(case side2 => exact HR0.out);(case side3 => exact HC0.out);rintro e w8 ⟨g104,rfl,hi,hb,hb2⟩;refine ⟨_,rfl,?_⟩;have n0_ := aZ_ (hb);have n1_ := aZ_ (hi);clear HB;have HB := n0_;have HI104 := n1_;clear n0_ n1_;(try clear hb);(try clear hb2);(try clear hk);(try clear hi)) | ((with_reducible refine gate_callee (f := 48) rfl ?_);refine goesL_ (some 8) rfl rfl Try.func48 T17_ rfl #[.pointer (some ⟨g104,0,none⟩)] rfl T3_ ?_;(with_reducible refine (spec_l2Any.calls k g104 t101 t102 t103 t105 t106 t107 t108 w _ ?side1 ?side2 A3.out).mono ?_);(case side1 => repeat (first | (with_reducible first | exact HI104.out | apply IsS66.alloc | apply IsS66.drewN | apply IsS66.drew | apply IsS66.set_1 | apply IsS66.set_2) | exact HI104.out));(case side2 => repeat (first | (with_reducible first | exact HB.out | apply below_alloc | apply pw_below_drewN | apply below_drew1 | refine below_set ?_ (IsS66.ge HI104.out)) | exact HB.out));rintro e w9 ⟨rfl,hi,hb,hk⟩;refine ⟨_,rfl,?_⟩;have n0_ := aZ_ (hb);have n1_ := aZ_ (hi);clear HB;clear HI104;have HB := n0_;have HI104 := n1_;clear n0_ n1_;(try clear hb);(try clear hb2);(try clear hk);(try clear hi)) | ((with_reducible refine gate_callee (f := 17) rfl ?_);refine goesL_ (some 9) rfl rfl Try.func17 T17_ rfl #[.agg #[.int .i64 t105,.int .i64 t106]] rfl T3_ ?_;(with_reducible refine (spec_FormatTable.calls k t105 t106 t109 _ A4.out).mono ?_);rintro e w10 ⟨rfl,hb⟩;refine ⟨_,rfl,?_⟩;have n0_ := aZ_ (IsS66.below T67_ hb);have n1_ := aZ_ (below_step T66_ hb);clear HI104;clear HB;have HI104 := n0_;have HB := n1_;clear n0_ n1_;(try clear hb);(try clear hb2);(try clear hk);(try clear hi)) | ((with_reducible refine gate_callee (f := 49) rfl ?_);refine goesL_ (some 11) rfl rfl Try.func49 T17_ rfl #[.pointer (some ⟨g104,0,none⟩),.int .i64 4] rfl T3_ ?_;(with_reducible refine (spec_l1Once.calls g104 t101 t107 t108 4 true t111 t112 w _ ?side1 ?side2 A5.out).mono ?_);(case side1 => repeat (first | (with_reducible first | exact HI104.out | apply IsS66.alloc | apply IsS66.drewN | apply IsS66.drew | apply IsS66.set_1 | apply IsS66.set_2) | exact HI104.out));(case side2 => repeat (first | (with_reducible first | exact HB.out | apply below_alloc | apply pw_below_drewN | apply below_drew1 | refine below_set ?_ (IsS66.ge HI104.out)) | exact HB.out));rintro e w11 ⟨rfl,hi,hb,hk⟩;refine ⟨_,rfl,?_⟩;have n0_ := aZ_ (hb);have n1_ := aZ_ (hi);clear HB;clear HI104;have HB := n0_;have HI104 := n1_;clear n0_ n1_;(try clear hb);(try clear hb2);(try clear hk);(try clear hi)) | ((with_reducible refine gate_callee (f := 50) rfl ?_);refine goesL_ (some 14) rfl rfl Try.func50 T17_ rfl #[.pointer (some ⟨g104,0,none⟩),.string t109] rfl T3_ ?_;(with_reducible refine (spec_l1Spoil.calls k g104 t101 t111 t112 t109 t113 t114 t115 w _ ?side1 ?side2 A7.out).mono ?_);(case side1 => repeat (first | (with_reducible first | exact HI104.out | apply IsS66.alloc | apply IsS66.drewN | apply IsS66.drew | apply IsS66.set_1 | apply IsS66.set_2) | exact HI104.out));(case side2 => repeat (first | (with_reducible first | exact HB.out | apply below_alloc | apply pw_below_drewN | apply below_drew1 | refine below_set ?_ (IsS66.ge HI104.out)) | exact HB.out));rintro e w12 ⟨rfl,hi,hb,hk⟩;refine ⟨_,rfl,?_⟩;have n0_ := aZ_ (hb);have n1_ := aZ_ (hi);clear HB;clear HI104;have HB := n0_;have HI104 := n1_;clear n0_ n1_;(try clear hb);(try clear hb2);(try clear hk);(try clear hi)))
  go_ret
  exact ⟨by first | rfl | (simp [errW_none,errW_some] <;> rfl) | (simp [*,errW_none,errW_some] <;> rfl),by repeat (first | (with_reducible first | exact HB.out | apply below_alloc | apply pw_below_drewN | apply below_drew1 | refine below_set ?_ (IsS66.ge HI104.out)) | exact HB.out)⟩
 ·replace c6 := Bool.eq_false_iff.mpr c6
  subst c6
  have H1 : (some t109) = some r := by rw [if_neg (show ¬ (false = true) by decide)] at H;exact H
  clear H
  have H := H1
  clear H1
  obtain rfl := Option.some.inj H
  go_enter Try.func20,Try.ntmps20
  go_wp2_with (first | ((with_reducible refine gate_callee (f := 47) rfl ?_);refine goesL_ (some 6) rfl rfl Try.func47 T17_ rfl #[.slice A0 l0.length c0] rfl T3_ ?_;(with_reducible refine (spec_l1New.calls k _ _ l0 t101 t102 t103 w _ ?side1 ?side2 ?side3 A2.out).mono ?_);(case side1 => repeat (first | (with_reducible first | exact HB.out | apply below_alloc | apply pw_below_drewN | apply below_drew1) | exact HB.out));(case side2 => exact HR0.out);(case side3 => exact HC0.out);rintro e w13 ⟨g104,rfl,hi,hb,hb2⟩;refine ⟨_,rfl,?_⟩;have n0_ := aZ_ (hb);have n1_ := aZ_ (hi);clear HB;have HB := n0_;have HI104 := n1_;clear n0_ n1_;(try clear hb);(try clear hb2);(try clear hk);(try clear hi)) | ((with_reducible refine gate_callee (f := 48) rfl ?_);refine goesL_ (some 8) rfl rfl Try.func48 T17_ rfl #[.pointer (some ⟨g104,0,none⟩)] rfl T3_ ?_;(with_reducible refine (spec_l2Any.calls k g104 t101 t102 t103 t105 t106 t107 t108 w _ ?side1 ?side2 A3.out).mono ?_);(case side1 => repeat (first | (with_reducible first | exact HI104.out | apply IsS66.alloc | apply IsS66.drewN | apply IsS66.drew | apply IsS66.set_1 | apply IsS66.set_2) | exact HI104.out));(case side2 => repeat (first | (with_reducible first | exact HB.out | apply below_alloc | apply pw_below_drewN | apply below_drew1 | refine below_set ?_ (IsS66.ge HI104.out)) | exact HB.out));rintro e w14 ⟨rfl,hi,hb,hk⟩;refine ⟨_,rfl,?_⟩;have n0_ := aZ_ (hb);have n1_ := aZ_ (hi);clear HB;clear HI104;have HB := n0_;have HI104 := n1_;clear n0_ n1_;(try clear hb);(try clear hb2);(try clear hk);(try clear hi)) | ((with_reducible refine gate_callee (f := 17) rfl ?_);refine goesL_ (some 9) rfl rfl Try.func17 T17_ rfl #[.agg #[.int .i64 t105,.int .i64 t106]] rfl T3_ ?_;(with_reducible refine (spec_FormatTable.calls k t105 t106 t109 _ A4.out).mono ?_);rintro e w15 ⟨rfl,hb⟩;refine ⟨_,rfl,?_⟩;have n0_ := aZ_ (IsS66.below T67_ hb);have n1_ := aZ_ (below_step T66_ hb);clear HI104;clear HB;have HI104 := n0_;have HB := n1_;clear n0_ n1_;(try clear hb);(try clear hb2);(try clear hk);(try clear hi)) | ((with_reducible refine gate_callee (f := 49) rfl ?_);refine goesL_ (some 11) rfl rfl Try.func49 T17_ rfl #[.pointer (some ⟨g104,0,none⟩),.int .i64 4] rfl T3_ ?_;(with_reducible refine (spec_l1Once.calls g104 t101 t107 t108 4 false t111 t112 w _ ?side1 ?side2 A5.out).mono ?_);(case side1 => repeat (first | (with_reducible first | exact HI104.out | apply IsS66.alloc | apply IsS66.drewN | apply IsS66.drew | apply IsS66.set_1 | apply IsS66.set_2) | exact HI104.out));(case side2 => repeat (first | (with_reducible first | exact HB.out | apply below_alloc | apply pw_below_drewN | apply below_drew1 | refine below_set ?_ (IsS66.ge HI104.out)) | exact HB.out));rintro e w16 ⟨rfl,hi,hb,hk⟩;refine ⟨_,rfl,?_⟩;have n0_ := aZ_ (hb);have n1_ := aZ_ (hi);clear HB;clear HI104;have HB := n0_;have HI104 := n1_;clear n0_ n1_;(try clear hb);(try clear hb2);(try clear hk);(try clear hi)))
  go_ret
  exact ⟨by first | rfl | (simp [errW_none,errW_some] <;> rfl) | (simp [*,errW_none,errW_some] <;> rfl),by repeat (first | (with_reducible first | exact HB.out | apply below_alloc | apply pw_below_drewN | apply below_drew1 | refine below_set ?_ (IsS66.ge HI104.out)) | exact HB.out)⟩
mutual
def spec_ParseTable.l0 : Nat → ByteArray → Int → Option (Int × Int × Bool)
 | 0,_,_ => none
 | k + 1,x0,x4 => if x4 ≤ 5 then (if 0 ≤ x4 then (if (x0.size : Int) = (shl .i64 1 x4) then (spec_ParseTable.l1 k x0 x4 0 0) else (spec_ParseTable.l0 k x0 (wrap64 (x4 + 1)))) else (none)) else (some (0,0,false))
def spec_ParseTable.l1 : Nat → ByteArray → Int → Int → Int → Option (Int × Int × Bool)
 | 0,_,_,_,_ => none
 | k + 1,x0,x4,x5,x6 => if x6 < (x0.size : Int) then (if 0 ≤ x6 then (if (bt x0 x6) = 49 then (spec_ParseTable.l1 k x0 x4 (Go.bits .or .i64 x5 (shl .i64 1 x6)) (wrap64 (x6 + 1))) else (if (bt x0 x6) = 48 then (spec_ParseTable.l1 k x0 x4 x5 (wrap64 (x6 + 1))) else (some (0,0,false)))) else (none)) else (some (x4,x5,true))
end
def spec_ParseTable.f (k : Nat) (a0 : ByteArray) : Option (Int × Int × Bool) := spec_ParseTable.l0 k a0 0
set_option maxHeartbeats 8000000 in
set_option maxRecDepth 100000 in
theorem spec_ParseTable.calls (k : Nat) (a0 : ByteArray) (r1 : Int) (r2 : Int) (r3 : Bool) (w : World) (h : spec_ParseTable.f k a0 = some (r1,r2,r3)) :
  Calls Try.prog 21 #[.string a0] w fun e w' => e = .returned (.tuple #[.agg #[.int .i64 r1,.int .i64 r2],.bool r3]) ∧ Below w.heap.size w w' := by
 have hu25 := Try.underlying25
 have HB := aZ_ (Below.refl w.heap.size w)
 have H : (spec_ParseTable.l0 k a0 0) = some (r1,r2,r3) := h
 clear h
 have H' := aZ_ H
 clear H
 go_enter Try.func21,Try.ntmps21
 go_wp2_with (first | ((with_reducible refine gate_dst (N := 2) rfl ?_);refine box_event ?hg (N := 2) ?hd (cs := #[.int .i64 0,.int .i64 0]) (t := 25) ?hr ?_;(case hd => rfl);(case hg => rfl);(case hr => first | (go_simp;done) | (go_simp;rfl));intro gb101 hg w2 hbox hb;have n0_ := aZ_ (below_step T6_ hb);have n1_ := aZ_ (hbox);have n2_ := aZ_ ((T1_ : w.heap.size ≤ gb101));have n3_ := aZ_ ((T1_ : w.heap.size ≤ gb101));clear HB;have HB := n0_;have BK101 := n1_;have GW101 := n2_;have GE101 := n3_;clear n0_ n1_ n2_ n3_;clear hb hbox hg))
 go_loopg [4] k (fun kq v4 w' => ∃ (x4_1 : Int) (x102000_1 : Int) (x102001_1 : Int),v4 = .int .i64 x4_1 ∧ Aside0 (spec_ParseTable.l0 kq a0 x4_1 = some (r1,r2,r3)) ∧ Aside0 (kq ≤ k) ∧ Aside0 (w'.heap[gb101]? = some (.cells #[.int .i64 x102000_1,.int .i64 x102001_1] 25 (0,0))) ∧ Aside0 (Below w.heap.size w w'))
 case atStart => exact ⟨(0),(0),(0),T29_,H',⟨Nat.le_refl _⟩,⟨by (with_reducible repeat (first | refine blk_drewN ?_ _ | refine blk_drew ?_ | refine blk_alloc ?_ _));exact BK101.out⟩,⟨by repeat (first | (with_reducible first | exact HB.out | apply below_alloc | apply pw_below_drewN | apply below_drew1 | refine below_set ?_ GE101.out) | exact HB.out)⟩⟩
 case round =>
  clear H'
  try clear c2
  try clear p2
  obtain ⟨x4_1,x102000_1,x102001_1,rfl,HA,HK1,BK101,HB⟩ := hrel
  cases gk with
  | zero => exact absurd HA.out (by simp [spec_ParseTable.l0])
  | succ k1 =>
   have H := HA.out
   clear HA
   simp only [spec_ParseTable.l0] at H
   by_cases c3 : x4_1 ≤ 5
   ·rw [if_pos c3] at H
    have c3b0 : decide (x4_1 ≤ 5) = true := decide_eq_true c3
    clear c3
    by_cases c4 : 0 ≤ x4_1
    ·rw [if_pos c4] at H
     have c4b0 := eq_true c4
     have c4b1 : decide (0 ≤ x4_1) = true := decide_eq_true c4
     clear c4
     obtain ⟨ji5,hji5⟩ : ∃ j_ : Int,(shl .i64 1 x4_1) = j_ := ⟨_,rfl⟩
     replace H : (if (a0.size : Int) = (ji5) then (spec_ParseTable.l1 k1 a0 x4_1 0 0) else (spec_ParseTable.l0 k1 a0 (wrap64 (x4_1 + 1)))) = some (r1,r2,r3) := by first | (rw [hji5] at H;exact H) | (simp only [hji5] at H ⊢;exact H)
     have hji5_ : (IntKind.i64.wrap (1 * 2 ^ min x4_1.toNat 64)) = ji5 := hji5
     have hji5z : x4_1 ≤ 64 → (IntKind.i64.wrap (1 * 2 ^ x4_1.toNat)) = ji5 := shl_small hji5
     have hji5u : (IntKind.i64.wrap (2 ^ min x4_1.toNat 64)) = ji5 := by have h_ := hji5_;rw [Int.one_mul] at h_;exact h_
     have hji5v : x4_1 ≤ 64 → (IntKind.i64.wrap (2 ^ x4_1.toNat)) = ji5 := fun hle_ => by have h_ := hji5z hle_;rw [Int.one_mul] at h_;exact h_
     have hji5y : (wrap64 (1 * 2 ^ min x4_1.toNat 64)) = ji5 := (i64_w _).symm.trans hji5_
     have hji5x : x4_1 ≤ 64 → (wrap64 (1 * 2 ^ x4_1.toNat)) = ji5 := fun h_ => (i64_w _).symm.trans (hji5z h_)
     by_cases c6 : (a0.size : Int) = (ji5)
     ·rw [if_pos c6] at H
      have c6b0 : ((a0.size : Int) == (ji5)) = true := beq_iff_eq.mpr c6
      have c6b1 : ((a0.size : Int) != (ji5)) = false := bne_eq_false_iff_eq.mpr c6
      clear c6
      have H' := aZ_ H
      clear H
      go_wp2
      go_loopg [5,6] k1 (fun kq v5 v6 w' => ∃ (x5_2 : Int) (x6_2 : Int) (x102000_2 : Int) (x102001_2 : Int),v5 = .int .i64 x5_2 ∧ v6 = .int .i64 x6_2 ∧ Aside0 (spec_ParseTable.l1 kq a0 x4_1 x5_2 x6_2 = some (r1,r2,r3)) ∧ Aside0 (kq ≤ k1) ∧ Aside0 (w'.heap[gb101]? = some (.cells #[.int .i64 x102000_2,.int .i64 x102001_2] 25 (0,0))) ∧ Aside0 (Below w.heap.size w w'))
      case atStart => exact ⟨(0),(0),(x102000_1),(x102001_1),T29_,T29_,H',⟨Nat.le_refl _⟩,⟨by (with_reducible repeat (first | refine blk_drewN ?_ _ | refine blk_drew ?_ | refine blk_alloc ?_ _));exact BK101.out⟩,⟨by repeat (first | (with_reducible first | exact HB.out | apply below_alloc | apply pw_below_drewN | apply below_drew1 | refine below_set ?_ GE101.out) | exact HB.out)⟩⟩
      case round =>
       clear H'
       try clear c2
       try clear p2
       try clear c3
       try clear c3b0
       try clear c4
       try clear c4b0
       try clear c4b1
       try clear c6
       try clear c6b0
       try clear c6b1
       try clear p6
       try clear p2
       obtain ⟨x5_2,x6_2,x102000_2,x102001_2,rfl,rfl,HA,HK2,BK101,HB⟩ := hrel
       cases gk with
       | zero => exact absurd HA.out (by simp [spec_ParseTable.l1])
       | succ k2 =>
        have H := HA.out
        clear HA
        simp only [spec_ParseTable.l1] at H
        by_cases c7 : x6_2 < (a0.size : Int)
        ·rw [if_pos c7] at H
         have c7b0 : decide (x6_2 < (a0.size : Int)) = true := decide_eq_true c7
         clear c7
         by_cases c8 : 0 ≤ x6_2
         ·rw [if_pos c8] at H
          have c8b0 : decide (0 ≤ x6_2) = true := decide_eq_true c8
          clear c8
          by_cases c10 : (bt a0 x6_2) = 49
          ·rw [if_pos c10] at H
           have c10b0 : ((bt a0 x6_2) == 49) = true := beq_iff_eq.mpr c10
           have c10b1 : ((bt a0 x6_2) != 49) = false := bne_eq_false_iff_eq.mpr c10
           clear c10
           have c11b0 := eq_true (of_decide_eq_true T44_ : 0 ≤ x6_2)
           obtain ⟨ji12,hji12⟩ : ∃ j_ : Int,(shl .i64 1 x6_2) = j_ := ⟨_,rfl⟩
           replace H : (spec_ParseTable.l1 k2 a0 x4_1 (Go.bits .or .i64 x5_2 (ji12)) (wrap64 (x6_2 + 1))) = some (r1,r2,r3) := by first | (rw [hji12] at H;exact H) | (simp only [hji12] at H ⊢;exact H)
           have hji12_ : (IntKind.i64.wrap (1 * 2 ^ min x6_2.toNat 64)) = ji12 := hji12
           have hji12z : x6_2 ≤ 64 → (IntKind.i64.wrap (1 * 2 ^ x6_2.toNat)) = ji12 := shl_small hji12
           have hji12u : (IntKind.i64.wrap (2 ^ min x6_2.toNat 64)) = ji12 := by have h_ := hji12_;rw [Int.one_mul] at h_;exact h_
           have hji12v : x6_2 ≤ 64 → (IntKind.i64.wrap (2 ^ x6_2.toNat)) = ji12 := fun hle_ => by have h_ := hji12z hle_;rw [Int.one_mul] at h_;exact h_
           have hji12y : (wrap64 (1 * 2 ^ min x6_2.toNat 64)) = ji12 := (i64_w _).symm.trans hji12_
           have hji12x : x6_2 ≤ 64 → (wrap64 (1 * 2 ^ x6_2.toNat)) = ji12 := fun h_ => (i64_w _).symm.trans (hji12z h_)
           have H' := aZ_ H
           clear H
           have p9 : 0 ≤ (x6_2 : Int) := of_decide_eq_true T44_
           have q9 : x6_2 < (a0.size : Int) := of_decide_eq_true T44_
           have hx9 := bt_at a0 x6_2
           replace p9 := eq_true p9
           replace q9 := eq_true q9
           go_wp2
           go_roundg k2
           case measure => have := HK1.out;have := HK2.out;omega
           case rel => exact ⟨(Go.bits .or .i64 x5_2 (ji12)),(wrap64 (x6_2 + 1)),(x102000_2),(x102001_2),(by first | rfl | (simp;done) | (simp only [← hji12] <;> (first | rfl | simp)) | (simp [*];done)),T29_,H',⟨by have := HK1.out;have := HK2.out;omega⟩,⟨by (with_reducible repeat (first | refine blk_drewN ?_ _ | refine blk_drew ?_ | refine blk_alloc ?_ _));exact BK101.out⟩,⟨by repeat (first | (with_reducible first | exact HB.out | apply below_alloc | apply pw_below_drewN | apply below_drew1 | refine below_set ?_ GE101.out) | exact HB.out)⟩⟩
          ·rw [if_neg c10] at H
           have c10b0 : ((bt a0 x6_2) == 49) = false := beq_eq_false_iff_ne.mpr c10
           have c10b1 : ((bt a0 x6_2) != 49) = true := bne_iff_ne.mpr c10
           by_cases c13 : (bt a0 x6_2) = 48
           ·rw [if_pos c13] at H
            have c13b0 : ((bt a0 x6_2) == 48) = true := beq_iff_eq.mpr c13
            have c13b1 : ((bt a0 x6_2) != 48) = false := bne_eq_false_iff_eq.mpr c13
            clear c13
            have H' := aZ_ H
            clear H
            have p9 : 0 ≤ (x6_2 : Int) := of_decide_eq_true T44_
            have q9 : x6_2 < (a0.size : Int) := of_decide_eq_true T44_
            have hx9 := bt_at a0 x6_2
            replace p9 := eq_true p9
            replace q9 := eq_true q9
            go_wp2
            go_roundg k2
            case measure => have := HK1.out;have := HK2.out;omega
            case rel => exact ⟨(x5_2),(wrap64 (x6_2 + 1)),(x102000_2),(x102001_2),T29_,T29_,H',⟨by have := HK1.out;have := HK2.out;omega⟩,⟨by (with_reducible repeat (first | refine blk_drewN ?_ _ | refine blk_drew ?_ | refine blk_alloc ?_ _));exact BK101.out⟩,⟨by repeat (first | (with_reducible first | exact HB.out | apply below_alloc | apply pw_below_drewN | apply below_drew1 | refine below_set ?_ GE101.out) | exact HB.out)⟩⟩
           ·rw [if_neg c13] at H
            have c13b0 : ((bt a0 x6_2) == 48) = false := beq_eq_false_iff_ne.mpr c13
            have c13b1 : ((bt a0 x6_2) != 48) = true := bne_iff_ne.mpr c13
            simp only [Option.some.injEq,Prod.mk.injEq] at H
            obtain ⟨rfl,rfl,rfl⟩ := H
            have p9 : 0 ≤ (x6_2 : Int) := of_decide_eq_true T44_
            have q9 : x6_2 < (a0.size : Int) := of_decide_eq_true T44_
            have hx9 := bt_at a0 x6_2
            replace p9 := eq_true p9
            replace q9 := eq_true q9
            have hcz14_0 : wr.cell? ⟨gb101,0,none⟩ = some (.int .i64 x102000_2) := (blk_cell BK101.out 0).trans rfl
            have hcz14_1 : wr.cell? ⟨gb101,1,none⟩ = some (.int .i64 x102001_2) := (blk_cell BK101.out 1).trans rfl
            have hfz14_0 := blk_frozen BK101.out 0
            have hfz14_1 := blk_frozen BK101.out 1
            go_wp2
            refine bodyPost_ret (results_ct rfl _ _ gb101 25 #[.int .i64 0,.int .i64 0] (0,0) _ rfl (by (with_reducible repeat (first | refine blk_drewN ?_ _ | refine blk_drew ?_ | refine blk_alloc ?_ _));refine blk_put (cs := #[.int .i64 0,.int .i64 x102001_2]) ?_ 1 _ rfl;(with_reducible repeat (first | refine blk_drewN ?_ _ | refine blk_drew ?_ | refine blk_alloc ?_ _));refine blk_put (cs := #[.int .i64 x102000_2,.int .i64 x102001_2]) ?_ 0 _ rfl;(with_reducible repeat (first | refine blk_drewN ?_ _ | refine blk_drew ?_ | refine blk_alloc ?_ _));exact BK101.out) Try.underlying25 rfl T17_) rfl ?_
            exact ⟨by first | rfl | (simp [errW_none,errW_some] <;> rfl) | (simp only [← hji5];first | rfl | (simp [errW_none,errW_some] <;> rfl)) | (simp [*,errW_none,errW_some] <;> rfl),by repeat (first | (with_reducible first | exact HB.out | apply below_alloc | apply pw_below_drewN | apply below_drew1 | refine below_set ?_ GE101.out) | exact HB.out)⟩
         ·rw [if_neg c8] at H
          exact absurd H (by simp)
        ·rw [if_neg c7] at H
         have c7b0 : decide (x6_2 < (a0.size : Int)) = false := decide_eq_false c7
         clear c7
         simp only [Option.some.injEq,Prod.mk.injEq] at H
         obtain ⟨rfl,rfl,rfl⟩ := H
         have hcz15_0 : wr.cell? ⟨gb101,0,none⟩ = some (.int .i64 x102000_2) := (blk_cell BK101.out 0).trans rfl
         have hcz15_1 : wr.cell? ⟨gb101,1,none⟩ = some (.int .i64 x102001_2) := (blk_cell BK101.out 1).trans rfl
         have hfz15_0 := blk_frozen BK101.out 0
         have hfz15_1 := blk_frozen BK101.out 1
         go_wp2
         refine bodyPost_ret (results_ct rfl _ _ gb101 25 #[.int .i64 x4_1,.int .i64 x5_2] (0,0) _ rfl (by (with_reducible repeat (first | refine blk_drewN ?_ _ | refine blk_drew ?_ | refine blk_alloc ?_ _));refine blk_put (cs := #[.int .i64 x4_1,.int .i64 x102001_2]) ?_ 1 _ rfl;(with_reducible repeat (first | refine blk_drewN ?_ _ | refine blk_drew ?_ | refine blk_alloc ?_ _));refine blk_put (cs := #[.int .i64 x102000_2,.int .i64 x102001_2]) ?_ 0 _ rfl;(with_reducible repeat (first | refine blk_drewN ?_ _ | refine blk_drew ?_ | refine blk_alloc ?_ _));exact BK101.out) Try.underlying25 rfl T17_) rfl ?_
         exact ⟨by first | rfl | (simp [errW_none,errW_some] <;> rfl) | (simp only [← hji5];first | rfl | (simp [errW_none,errW_some] <;> rfl)) | (simp [*,errW_none,errW_some] <;> rfl),by repeat (first | (with_reducible first | exact HB.out | apply below_alloc | apply pw_below_drewN | apply below_drew1 | refine below_set ?_ GE101.out) | exact HB.out)⟩
     ·rw [if_neg c6] at H
      have c6b0 : ((a0.size : Int) == (ji5)) = false := beq_eq_false_iff_ne.mpr c6
      have c6b1 : ((a0.size : Int) != (ji5)) = true := bne_iff_ne.mpr c6
      have H' := aZ_ H
      clear H
      go_wp2
      go_roundg k1
      case measure => have := HK1.out;omega
      case rel => exact ⟨(wrap64 (x4_1 + 1)),(x102000_1),(x102001_1),T29_,H',⟨by have := HK1.out;omega⟩,⟨by (with_reducible repeat (first | refine blk_drewN ?_ _ | refine blk_drew ?_ | refine blk_alloc ?_ _));exact BK101.out⟩,⟨by repeat (first | (with_reducible first | exact HB.out | apply below_alloc | apply pw_below_drewN | apply below_drew1 | refine below_set ?_ GE101.out) | exact HB.out)⟩⟩
    ·rw [if_neg c4] at H
     exact absurd H (by simp)
   ·rw [if_neg c3] at H
    have c3b0 : decide (x4_1 ≤ 5) = false := decide_eq_false c3
    clear c3
    simp only [Option.some.injEq,Prod.mk.injEq] at H
    obtain ⟨rfl,rfl,rfl⟩ := H
    have hcz16_0 : wr.cell? ⟨gb101,0,none⟩ = some (.int .i64 x102000_1) := (blk_cell BK101.out 0).trans rfl
    have hcz16_1 : wr.cell? ⟨gb101,1,none⟩ = some (.int .i64 x102001_1) := (blk_cell BK101.out 1).trans rfl
    have hfz16_0 := blk_frozen BK101.out 0
    have hfz16_1 := blk_frozen BK101.out 1
    go_wp2
    refine bodyPost_ret (results_ct rfl _ _ gb101 25 #[.int .i64 0,.int .i64 0] (0,0) _ rfl (by (with_reducible repeat (first | refine blk_drewN ?_ _ | refine blk_drew ?_ | refine blk_alloc ?_ _));refine blk_put (cs := #[.int .i64 0,.int .i64 x102001_1]) ?_ 1 _ rfl;(with_reducible repeat (first | refine blk_drewN ?_ _ | refine blk_drew ?_ | refine blk_alloc ?_ _));refine blk_put (cs := #[.int .i64 x102000_1,.int .i64 x102001_1]) ?_ 0 _ rfl;(with_reducible repeat (first | refine blk_drewN ?_ _ | refine blk_drew ?_ | refine blk_alloc ?_ _));exact BK101.out) Try.underlying25 rfl T17_) rfl ?_
    exact ⟨by first | rfl | (simp [errW_none,errW_some] <;> rfl) | (simp [*,errW_none,errW_some] <;> rfl),by repeat (first | (with_reducible first | exact HB.out | apply below_alloc | apply pw_below_drewN | apply below_drew1 | refine below_set ?_ GE101.out) | exact HB.out)⟩
def spec_DrawValueAt.f (k : Nat) (l0 : List Int) : Option (Int × Int × Int) := (spec_l1New.f k l0).bind fun bt102 => ((spec_l2Any.f k bt102.1 bt102.2.1 bt102.2.2).bind fun bt106 => ((spec_l1Below.f bt102.1 bt106.2.2.1 bt106.2.2.2 18).bind fun bt111 => (some (bt106.1,bt106.2.1,wrap64 (bt111.1 - 1)))))
set_option maxHeartbeats 8000000 in
set_option maxRecDepth 100000 in
theorem spec_DrawValueAt.calls (k : Nat) (A0 : Option Addr) (c0 : Nat) (l0 : List Int) (r1 : Int) (r2 : Int) (r3 : Int) (w : World) (hr0 : Kd.C (Kd.int .u8) w A0 l0.length l0) (hc0 : l0.length ≤ c0) (h : spec_DrawValueAt.f k l0 = some (r1,r2,r3)) :
  Calls Try.prog 22 #[.slice A0 l0.length c0] w fun e w' => e = .returned (.tuple #[.agg #[.int .i64 r1,.int .i64 r2],.int .i64 r3]) ∧ Below w.heap.size w w' := by
 have hu25 := Try.underlying25
 have HR0 := aZ_ hr0
 have HC0 := aZ_ hc0
 clear hr0 hc0
 have HB := aZ_ (Below.refl w.heap.size w)
 have H : ((spec_l1New.f k l0).bind fun bt102 => ((spec_l2Any.f k bt102.1 bt102.2.1 bt102.2.2).bind fun bt106 => ((spec_l1Below.f bt102.1 bt106.2.2.1 bt106.2.2.2 18).bind fun bt111 => (some (bt106.1,bt106.2.1,wrap64 (bt111.1 - 1)))))) = some (r1,r2,r3) := h
 clear h
 replace H := Option.bind_eq_some_iff.mp H
 obtain ⟨⟨t102,t103,t104⟩,A20,H⟩ := H
 replace H : ((spec_l2Any.f k t102 t103 t104).bind fun bt106 => ((spec_l1Below.f t102 bt106.2.2.1 bt106.2.2.2 18).bind fun bt111 => (some (bt106.1,bt106.2.1,wrap64 (bt111.1 - 1))))) = some (r1,r2,r3) := H
 have A2 := aZ_ A20
 clear A20
 replace H := Option.bind_eq_some_iff.mp H
 obtain ⟨⟨t106,t107,t108,t109⟩,A30,H⟩ := H
 replace H : ((spec_l1Below.f t102 t108 t109 18).bind fun bt111 => (some (t106,t107,wrap64 (bt111.1 - 1)))) = some (r1,r2,r3) := H
 have A3 := aZ_ A30
 clear A30
 replace H := Option.bind_eq_some_iff.mp H
 obtain ⟨⟨t111,t112,t113⟩,A40,H⟩ := H
 replace H : (some (t106,t107,wrap64 (t111 - 1))) = some (r1,r2,r3) := H
 have A4 := aZ_ A40
 clear A40
 simp only [Option.some.injEq,Prod.mk.injEq] at H
 obtain ⟨rfl,rfl,rfl⟩ := H
 go_enter Try.func22,Try.ntmps22
 try go_wp2_with (first | ((with_reducible refine gate_dst (N := 2) rfl ?_);refine box_event ?hg (N := 2) ?hd (cs := #[.int .i64 0,.int .i64 0]) (t := 25) ?hr ?_;(case hd => rfl);(case hg => rfl);(case hr => first | (go_simp;done) | (go_simp;rfl));intro gb101 hg w5 hbox hb;have n0_ := aZ_ (below_step T6_ hb);have n1_ := aZ_ (hbox);have n2_ := aZ_ ((T1_ : w.heap.size ≤ gb101));have n3_ := aZ_ ((T1_ : w.heap.size ≤ gb101));clear HB;have HB := n0_;have BK101 := n1_;have GW101 := n2_;have GE101 := n3_;clear n0_ n1_ n2_ n3_;clear hb hbox hg) | ((with_reducible refine gate_callee (f := 47) rfl ?_);refine goesL_ (some 7) rfl rfl Try.func47 T17_ rfl #[.slice A0 l0.length c0] rfl T3_ ?_;(with_reducible refine (spec_l1New.calls k _ _ l0 t102 t103 t104 w _ ?side1 ?side2 ?side3 A2.out).mono ?_);(case side1 => repeat (first | (with_reducible first | exact HB.out | apply below_alloc | apply pw_below_drewN | apply below_drew1 | refine below_set ?_ GE101.out) | exact HB.out));(case side2 => exact HR0.out);(case side3 => exact HC0.out);rintro e w6 ⟨g105,rfl,hi,hb,hb2⟩;refine ⟨_,rfl,?_⟩;have n0_ := aZ_ (blk_below (g := gb101) (o := .cells #[.int .i64 0,.int .i64 0] 25 (0,0)) T2_ hb2);have n1_ := aZ_ (hb);have n2_ := aZ_ (hi);have n3_ := aZ_ (IsS66.ne_blk hi (blk_below (g := gb101) (o := .cells #[.int .i64 0,.int .i64 0] 25 (0,0)) T2_ hb2) T58_);have n4_ := aZ_ (Ne.symm (IsS66.ne_blk hi (blk_below (g := gb101) (o := .cells #[.int .i64 0,.int .i64 0] 25 (0,0)) T2_ hb2) T58_));clear BK101;clear HB;have BK101 := n0_;have HB := n1_;have HI105 := n2_;have NB105_101 := n3_;have NB101_105 := n4_;clear n0_ n1_ n2_ n3_ n4_;(try clear hb);(try clear hb2);(try clear hk);(try clear hi)) | ((with_reducible refine gate_callee (f := 48) rfl ?_);refine goesL_ (some 9) rfl rfl Try.func48 T17_ rfl #[.pointer (some ⟨g105,0,none⟩)] rfl T3_ ?_;(with_reducible refine (spec_l2Any.calls k g105 t102 t103 t104 t106 t107 t108 t109 w _ ?side1 ?side2 A3.out).mono ?_);(case side1 => repeat (first | (with_reducible first | exact HI105.out | apply IsS66.alloc | apply IsS66.drewN | apply IsS66.drew | apply IsS66.set_1 | apply IsS66.set_2 | refine IsS66.far ?_ NB105_101.out _) | exact HI105.out));(case side2 => repeat (first | (with_reducible first | exact HB.out | apply below_alloc | apply pw_below_drewN | apply below_drew1 | refine below_set ?_ (IsS66.ge HI105.out) | refine below_set ?_ GE101.out) | exact HB.out));rintro e w7 ⟨rfl,hi,hb,hk⟩;refine ⟨_,rfl,?_⟩;have n0_ := aZ_ (KeepBut.blk hk (g' := gb101) (o := .cells #[.int .i64 0,.int .i64 0] 25 (0,0)) T2_ NB101_105.out (by simp));have n1_ := aZ_ (hb);have n2_ := aZ_ (hi);clear BK101;clear HB;clear HI105;have BK101 := n0_;have HB := n1_;have HI105 := n2_;clear n0_ n1_ n2_;(try clear hb);(try clear hb2);(try clear hk);(try clear hi)) | ((with_reducible refine gate_dst (N := 5) rfl ?_);refine box_event ?hg (N := 5) ?hd (cs := #[.int .i64 0,.int .i64 0]) (t := 25) ?hr ?_;(case hd => rfl);(case hg => rfl);(case hr => first | (go_simp;done) | (go_simp;rfl));intro gb110 hg w8 hbox hb;have n0_ := aZ_ (blk_below (g := gb101) (o := .cells #[.int .i64 0,.int .i64 0] 25 (0,0)) T2_ hb);have n1_ := aZ_ (IsS66.below (by repeat (first | (with_reducible first | exact HI105.out | apply IsS66.alloc | apply IsS66.drewN | apply IsS66.drew | apply IsS66.set_1 | apply IsS66.set_2 | refine IsS66.far ?_ NB105_101.out _) | exact HI105.out)) hb);have n2_ := aZ_ (below_step (by repeat (first | (with_reducible first | exact HB.out | apply below_alloc | apply pw_below_drewN | apply below_drew1 | refine below_set ?_ (IsS66.ge HI105.out) | refine below_set ?_ GE101.out) | exact HB.out)) hb);have n3_ := aZ_ (hbox);have n4_ := aZ_ ((T59_ : w.heap.size ≤ gb110));have n5_ := aZ_ ((T59_ : w.heap.size ≤ gb110));have n6_ := aZ_ ((T26_ : gb101 ≠ gb110));have n7_ := aZ_ ((T27_ : gb110 ≠ gb101));have n8_ := aZ_ ((by rw [hg];exact Nat.ne_of_lt (IsS66.lt (show IsS66 w _ g105 t102 t108 t109 from by repeat (first | (with_reducible first | exact HI105.out | apply IsS66.alloc | apply IsS66.drewN | apply IsS66.drew | apply IsS66.set_1 | apply IsS66.set_2 | refine IsS66.far ?_ NB105_101.out _) | exact HI105.out))) : g105 ≠ gb110));have n9_ := aZ_ ((by rw [hg];exact Nat.ne_of_gt (IsS66.lt (show IsS66 w _ g105 t102 t108 t109 from by repeat (first | (with_reducible first | exact HI105.out | apply IsS66.alloc | apply IsS66.drewN | apply IsS66.drew | apply IsS66.set_1 | apply IsS66.set_2 | refine IsS66.far ?_ NB105_101.out _) | exact HI105.out))) : gb110 ≠ g105));clear BK101;clear HI105;clear HB;have BK101 := n0_;have HI105 := n1_;have HB := n2_;have BK110 := n3_;have GW110 := n4_;have GE110 := n5_;have NB101_110 := n6_;have NB110_101 := n7_;have NB105_110 := n8_;have NB110_105 := n9_;clear n0_ n1_ n2_ n3_ n4_ n5_ n6_ n7_ n8_ n9_;clear hb hbox hg;have hnb9 := NB110_101.out;have hnc9 := NB101_110.out;have hnb10 := NB110_105.out;have hnc10 := NB105_110.out;have hcz11_0 : w8.cell? ⟨gb110,0,none⟩ = some (.int .i64 0) := (blk_cell BK110.out 0).trans rfl;have hcz11_1 : w8.cell? ⟨gb110,1,none⟩ = some (.int .i64 0) := (blk_cell BK110.out 1).trans rfl;have hfz11_0 := blk_frozen BK110.out 0;have hfz11_1 := blk_frozen BK110.out 1))
 have n0_ : Aside0 (((w8.setCell ⟨gb110,0,none⟩ (.int .i64 t106)).setCell ⟨gb110,1,none⟩ (.int .i64 t107)).heap[gb101]? = some (.cells #[.int .i64 0,.int .i64 0] 25 (0,0))) := ⟨by (with_reducible repeat (first | refine blk_drewN ?_ _ | refine blk_drew ?_ | refine blk_alloc ?_ _));refine blk_far ?_ NB101_110.out _;(with_reducible repeat (first | refine blk_drewN ?_ _ | refine blk_drew ?_ | refine blk_alloc ?_ _));refine blk_far ?_ NB101_110.out _;(with_reducible repeat (first | refine blk_drewN ?_ _ | refine blk_drew ?_ | refine blk_alloc ?_ _));exact BK101.out⟩
 have n1_ : Aside0 (((w8.setCell ⟨gb110,0,none⟩ (.int .i64 t106)).setCell ⟨gb110,1,none⟩ (.int .i64 t107)).heap[gb110]? = some (.cells #[.int .i64 t106,.int .i64 t107] 25 (0,0))) := ⟨by (with_reducible repeat (first | refine blk_drewN ?_ _ | refine blk_drew ?_ | refine blk_alloc ?_ _));refine blk_put (cs := #[.int .i64 t106,.int .i64 0]) ?_ 1 _ rfl;(with_reducible repeat (first | refine blk_drewN ?_ _ | refine blk_drew ?_ | refine blk_alloc ?_ _));refine blk_put (cs := #[.int .i64 0,.int .i64 0]) ?_ 0 _ rfl;(with_reducible repeat (first | refine blk_drewN ?_ _ | refine blk_drew ?_ | refine blk_alloc ?_ _));exact BK110.out⟩
 have n2_ : Aside0 (IsS66 w ((w8.setCell ⟨gb110,0,none⟩ (.int .i64 t106)).setCell ⟨gb110,1,none⟩ (.int .i64 t107)) g105 t102 t108 t109) := ⟨by repeat (first | (with_reducible first | exact HI105.out | apply IsS66.alloc | apply IsS66.drewN | apply IsS66.drew | apply IsS66.set_1 | apply IsS66.set_2 | refine IsS66.far ?_ NB105_101.out _ | refine IsS66.far ?_ NB105_110.out _) | exact HI105.out)⟩
 have n3_ : Aside0 (Below w.heap.size w ((w8.setCell ⟨gb110,0,none⟩ (.int .i64 t106)).setCell ⟨gb110,1,none⟩ (.int .i64 t107))) := ⟨by repeat (first | (with_reducible first | exact HB.out | apply below_alloc | apply pw_below_drewN | apply below_drew1 | refine below_set ?_ (IsS66.ge HI105.out) | refine below_set ?_ GE101.out | refine below_set ?_ GE110.out) | exact HB.out)⟩
 (try clear BK101)
 (try clear BK110)
 (try clear HI105)
 (try clear HB)
 generalize ((w8.setCell ⟨gb110,0,none⟩ (.int .i64 t106)).setCell ⟨gb110,1,none⟩ (.int .i64 t107)) = w12 at n0_ n1_ n2_ n3_ ⊢
 have BK101 := n0_
 have BK110 := n1_
 have HI105 := n2_
 have HB := n3_
 clear n0_ n1_ n2_ n3_
 have n0_ := aZ_ (blk_drew BK101.out)
 have n1_ := aZ_ (blk_drew BK110.out)
 have n2_ := aZ_ (IsS66.drew HI105.out)
 have n3_ := aZ_ (below_drew1 HB.out)
 clear BK101
 clear BK110
 clear HI105
 clear HB
 have BK101 := n0_
 have BK110 := n1_
 have HI105 := n2_
 have HB := n3_
 clear n0_ n1_ n2_ n3_
 refine start_ (n := 6) (S := fun w' => w'.cell? ⟨gb110,0,none⟩ = some (.int .i64 t106) ∧ w'.cell? ⟨gb110,1,none⟩ = some (.int .i64 t107)) (ds := []) #[false,false,false,false,false,false] T17_ rfl rfl ⟨(blk_cell BK110.out 0).trans rfl,(blk_cell BK110.out 1).trans rfl⟩ (fun hHeld => ?_)
 generalize w12.drew = w13 at BK101 BK110 HI105 HB hHeld ⊢
 refine pZ_ 1 (some 11) #[false,true,false,false,false,false] ?_
 refine tZ2_ 0 (some 10) #[true,true,false,false,false,false] hHeld ?_
 refine one_ (i := 2) (N := some 12) #[true,true,true,false,false,false] rfl rfl T17_ T58_ (fun K hK => ?_)
 refine gZ_ Try.func51 #[.pointer (some ⟨g105,0,none⟩),.int .i64 18] ?_
 with_reducible refine (spec_l1Below.calls g105 t102 t108 t109 18 t111 t112 t113 w _ ?side1 ?side2 A4.out).mono ?_
 (case side1 => repeat (first | (with_reducible first | exact HI105.out | apply IsS66.alloc | apply IsS66.drewN | apply IsS66.drew | apply IsS66.set_1 | apply IsS66.set_2 | refine IsS66.far ?_ NB105_101.out _ | refine IsS66.far ?_ NB105_110.out _) | exact HI105.out))
 (case side2 => repeat (first | (with_reducible first | exact HB.out | apply below_alloc | apply pw_below_drewN | apply below_drew1 | refine below_set ?_ (IsS66.ge HI105.out) | refine below_set ?_ GE101.out | refine below_set ?_ GE110.out) | exact HB.out))
 rintro e w14 ⟨rfl,hi,hb,hk⟩
 refine ⟨_,rfl,?_⟩
 have n0_ := aZ_ (KeepBut.blk hk (g' := gb101) (o := .cells #[.int .i64 0,.int .i64 0] 25 (0,0)) T2_ NB101_105.out (by simp))
 have n1_ := aZ_ (KeepBut.blk hk (g' := gb110) (o := .cells #[.int .i64 t106,.int .i64 t107] 25 (0,0)) (by (with_reducible repeat (first | refine blk_drewN ?_ _ | refine blk_drew ?_ | refine blk_alloc ?_ _));exact BK110.out) NB110_105.out (by simp))
 have n2_ := aZ_ (hb)
 have n3_ := aZ_ (hi)
 clear BK101
 clear BK110
 clear HB
 clear HI105
 have BK101 := n0_
 have BK110 := n1_
 have HB := n2_
 have HI105 := n3_
 clear n0_ n1_ n2_ n3_
 (try clear hb)
 (try clear hb2)
 (try clear hk)
 (try clear hi)
 refine hK.out _ _ ⟨(blk_cell BK110.out 0).trans rfl,(blk_cell BK110.out 1).trans rfl⟩ (fun hHeld => ?_)
 clear hK K
 refine norm_ (a' := ?_) ?_ ?_
 rotate_left
 ·show Act.put _ (some 12) _ = _
  simp only [Act.put,List.setIfInBounds_toArray,List.set_cons_zero,List.set_cons_succ,i64_w,i32_w]
  rfl
 refine pZ_ 3 (some 13) #[true,true,true,true,false,false] ?_
 refine one_ (i := 4) (N := none) #[true,true,true,true,true,false] rfl rfl T17_ T58_ (fun K hK => ?_)
 have hs15 : w14.cell? ⟨gb101,0,none⟩ = some (.int .i64 0) := (blk_cell BK101.out 0).trans rfl
 have hfs15 := blk_frozen BK101.out 0
 have hns15_1 := NB110_101.out
 have hms15_1 := NB101_110.out
 have hs16 : w14.cell? ⟨gb101,1,none⟩ = some (.int .i64 0) := (blk_cell BK101.out 1).trans rfl
 have hfs16 := blk_frozen BK101.out 1
 have hns16_1 := NB110_101.out
 have hms16_1 := NB101_110.out
 refine skip_ (w1 := ?_) (by rfl) rfl ?_ ?_
 rotate_left
 ·go_simp
  rfl
 refine hK.out _ _ ⟨((cell_far (p := ⟨gb101,_,none⟩) NB110_101.out _).trans (((cell_far (p := ⟨gb101,_,none⟩) NB110_101.out _).trans (hHeld.1)))),((cell_far (p := ⟨gb101,_,none⟩) NB110_101.out _).trans (((cell_far (p := ⟨gb101,_,none⟩) NB110_101.out _).trans (hHeld.2))))⟩ (fun hHeld => ?_)
 clear hK K
 refine pZ_ 5 (some 3) #[true,true,true,true,true,true] ?_
 refine done_ T17_ ?_
 try go_wp2
 refine bodyPost_ret (results_ct rfl _ _ gb101 25 #[.int .i64 t106,.int .i64 t107] (0,0) _ rfl T40_ Try.underlying25 rfl T17_) rfl ?_
 exact ⟨by first | rfl | (simp [errW_none,errW_some] <;> rfl) | (simp [*,errW_none,errW_some] <;> rfl),by repeat (first | (with_reducible first | exact HB.out | apply below_alloc | apply pw_below_drewN | apply below_drew1 | refine below_set ?_ (IsS66.ge HI105.out) | refine below_set ?_ GE101.out | refine below_set ?_ GE110.out) | exact HB.out)⟩
end Go.Proofs.Ytgojehaneegaeaa.F
