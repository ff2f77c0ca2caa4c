/- Walks of Go functions and lemmas on what they compute, for the row of FnSpectra (a part of several): each call ends as the Lean function of its name tells; the conditions are those of each theorem. -/
import Derived.Test.YtflacbjpeecjcaaM1FnSpectra
import Derived.Test.YtflacbjpeecjcaaM2FnSpectra
import Derived.Test.YtflacbjpeecjcaaM3FnSpectra
import Derived.Test.YtflacbjpeecjcaaM4FnSpectra
import Derived.Test.YtflacbjpeecjcaaM6FnSpectra
import Derived.Test.YtflacbjpeecjcaaM7FnSpectra
namespace Go.Proofs.Ytflacbjpeecjcaa.F
open Go.RowKit Go.Proofs.YtflacbjpeecjcaaW.PrintWords Go.Proofs.YtflacbjpeecjcaaW.PrintLast Go.Proofs.YtflacbjpeecjcaaW.PrintMore
attribute [local go_sem] max2_int min2_int max_two min_two max_three min_three max_four min_four 
set_option linter.unusedVariables false
set_option linter.unusedSimpArgs false
def spec_l1Once.f (s0_0 : List Int) (s0_1 : Int) (s0_2 : Int) (a1 : Int) : Option (Bool × Int × Int) := (spec_l1Below.f s0_0 s0_1 s0_2 a1).bind fun bt101 => (some ((bt101.1 == 0),bt101.2.1,bt101.2.2))
set_option maxHeartbeats 8000000 in
set_option maxRecDepth 100000 in
theorem spec_l1Once.calls (g : Nat) (s0_0 : List Int) (s0_1 : Int) (s0_2 : Int) (a1 : Int) (r1 : Bool) (r2 : Int) (r3 : Int) (w0 w : World) (hI : IsS58 w0 w g s0_0 s0_1 s0_2) (hB : Below w0.heap.size w0 w) (h : spec_l1Once.f s0_0 s0_1 s0_2 a1 = some (r1,r2,r3)) :
  Calls Try.prog 45 #[.pointer (some ⟨g,0,none⟩),.int .i64 a1] w fun e w' => e = .returned (.bool r1) ∧ IsS58 w0 w' g s0_0 r2 r3 ∧ Below w0.heap.size w0 w' ∧ KeepBut w w' g none := by
 have HI0 := aZ_ hI
 have HK := aZ_ (KeepBut.refl w g none)
 have HL := aZ_ hB.size
 clear hI
 have HW0 := aZ_ hB.size
 have HB := aZ_ hB
 clear hB
 have H : ((spec_l1Below.f s0_0 s0_1 s0_2 a1).bind fun bt101 => (some ((bt101.1 == 0),bt101.2.1,bt101.2.2))) = some (r1,r2,r3) := h
 clear h
 replace H := Option.bind_eq_some_iff.mp H
 obtain ⟨⟨t101,t102,t103⟩,A30,H⟩ := H
 replace H : (some ((t101 == 0),t102,t103)) = some (r1,r2,r3) := H
 have A3 := aZ_ A30
 clear A30
 simp only [Option.some.injEq,Prod.mk.injEq] at H
 obtain ⟨rfl,rfl,rfl⟩ := H
 go_enter Try.func45,Try.ntmps45
 go_wp2_with (first | ((with_reducible refine gate_callee (f := 47) rfl ?_);refine goesL_ (some 7) rfl rfl Try.func47 T16_ rfl #[.pointer (some ⟨g,0,none⟩),.int .i64 a1] rfl T3_ ?_;(with_reducible refine (spec_l1Below.calls g s0_0 s0_1 s0_2 a1 t101 t102 t103 w0 _ ?side1 ?side2 A3.out).mono ?_);(case side1 => repeat (first | (with_reducible first | exact HI0.out | apply IsS58.alloc | apply IsS58.drewN | apply IsS58.drew | apply IsS58.set_1 | apply IsS58.set_2) | exact HI0.out));(case side2 => repeat (first | (with_reducible first | exact HB.out | apply below_alloc | apply pw_below_drewN | apply below_drew1 | refine below_set ?_ (IsS58.ge HI0.out)) | exact HB.out));rintro e w4 ⟨rfl,hi,hb,hk⟩;refine ⟨_,rfl,?_⟩;have n0_ := aZ_ (KeepBut.trans T15_ hk (.inl rfl));have n1_ := aZ_ (hb);have n2_ := aZ_ (hi);clear HK;clear HB;clear HI0;have HK := n0_;have HB := n1_;have HI0 := n2_;clear n0_ n1_ n2_;(try clear hb);(try clear hb2);(try clear hk);(try clear hi)))
 go_ret
 exact ⟨by first | rfl | (simp [errW_none,errW_some] <;> rfl) | (simp [*,errW_none,errW_some] <;> rfl),by repeat (first | (with_reducible first | exact HI0.out | apply IsS58.alloc | apply IsS58.drewN | apply IsS58.drew | apply IsS58.set_1 | apply IsS58.set_2) | exact HI0.out),by repeat (first | (with_reducible first | exact HB.out | apply below_alloc | apply pw_below_drewN | apply below_drew1 | refine below_set ?_ (IsS58.ge HI0.out)) | exact HB.out),by repeat (first | (with_reducible first | exact HK.out | apply KeepBut.set_ | apply keep_drewN | apply keep_drew | apply keep_alloc) | exact HK.out)⟩
def spec_DrawTableOfSpectrum.j0 : Nat → List Int → Bool → List Int → Int → Int → Option (List Int)
 | 0,_,_,_,_,_ => none
 | k + 1,x4,x16,x105000,x105001,x105002 => if x16 = true then ((spec_l1Below.f x105000 x105001 x105002 (x4.length : Int)).bind fun bt115 => ((spec_l1PickInt.f x105000 bt115.2.1 bt115.2.2 (([0,2,(-2),33,(-9223372036854775808)] : List Int))).bind fun bt121 => (if 0 ≤ bt115.1 then (if bt115.1 < (x4.length : Int) then (some (x4.set (bt115.1 : Int).toNat bt121.1)) else (none)) else (none)))) else (some x4)
def spec_DrawTableOfSpectrum.f (k : Nat) (l0 : List Int) : Option (List Int) := (spec_l1New.f k l0).bind fun bt101 => ((spec_l2Any.f k bt101.1 bt101.2.1 bt101.2.2).bind fun bt105 => ((spec_SpectrumOf.f k bt105.1 bt105.2.1).bind fun t109 => (if (t109.length : Int) > 0 then ((spec_l1Once.f bt101.1 bt105.2.2.1 bt105.2.2.2 4).bind fun bt112 => (spec_DrawTableOfSpectrum.j0 k t109 bt112.1 bt101.1 bt112.2.1 bt112.2.2)) else (spec_DrawTableOfSpectrum.j0 k t109 false bt101.1 bt105.2.2.1 bt105.2.2.2))))
set_option maxHeartbeats 8000000 in
set_option maxRecDepth 100000 in
theorem spec_DrawTableOfSpectrum.calls (k : Nat) (A0 : Option Addr) (c0 : Nat) (l0 : List Int) (r : List Int) (w : World) (hr0 : Kd.C (Kd.int .u8) w A0 l0.length l0) (hc0 : l0.length ≤ c0) (h : spec_DrawTableOfSpectrum.f k l0 = some r) :
  Calls Try.prog 22 #[.slice A0 l0.length c0] w fun e w' => ∃ v0_ : Value,e = .returned (v0_) ∧ Kd.R (Kd.int .i64) 3 w' w.heap.size (fun _ => True) v0_ r ∧ Below w.heap.size w w' := by
 have HR0 := aZ_ hr0
 have HC0 := aZ_ hc0
 clear hr0 hc0
 have HB := aZ_ (Below.refl w.heap.size w)
 have H : ((spec_l1New.f k l0).bind fun bt101 => ((spec_l2Any.f k bt101.1 bt101.2.1 bt101.2.2).bind fun bt105 => ((spec_SpectrumOf.f k bt105.1 bt105.2.1).bind fun t109 => (if (t109.length : Int) > 0 then ((spec_l1Once.f bt101.1 bt105.2.2.1 bt105.2.2.2 4).bind fun bt112 => (spec_DrawTableOfSpectrum.j0 k t109 bt112.1 bt101.1 bt112.2.1 bt112.2.2)) else (spec_DrawTableOfSpectrum.j0 k t109 false bt101.1 bt105.2.2.1 bt105.2.2.2))))) = some r := h
 clear h
 replace H := Option.bind_eq_some_iff.mp H
 obtain ⟨⟨t101,t102,t103⟩,A20,H⟩ := H
 replace H : ((spec_l2Any.f k t101 t102 t103).bind fun bt105 => ((spec_SpectrumOf.f k bt105.1 bt105.2.1).bind fun t109 => (if (t109.length : Int) > 0 then ((spec_l1Once.f t101 bt105.2.2.1 bt105.2.2.2 4).bind fun bt112 => (spec_DrawTableOfSpectrum.j0 k t109 bt112.1 t101 bt112.2.1 bt112.2.2)) else (spec_DrawTableOfSpectrum.j0 k t109 false t101 bt105.2.2.1 bt105.2.2.2)))) = some r := H
 have A2 := aZ_ A20
 clear A20
 replace H := Option.bind_eq_some_iff.mp H
 obtain ⟨⟨t105,t106,t107,t108⟩,A30,H⟩ := H
 replace H : ((spec_SpectrumOf.f k t105 t106).bind fun t109 => (if (t109.length : Int) > 0 then ((spec_l1Once.f t101 t107 t108 4).bind fun bt112 => (spec_DrawTableOfSpectrum.j0 k t109 bt112.1 t101 bt112.2.1 bt112.2.2)) else (spec_DrawTableOfSpectrum.j0 k t109 false t101 t107 t108))) = some r := H
 have A3 := aZ_ A30
 clear A30
 replace H := Option.bind_eq_some_iff.mp H
 obtain ⟨t109,A40,H⟩ := H
 replace H : (if (t109.length : Int) > 0 then ((spec_l1Once.f t101 t107 t108 4).bind fun bt112 => (spec_DrawTableOfSpectrum.j0 k t109 bt112.1 t101 bt112.2.1 bt112.2.2)) else (spec_DrawTableOfSpectrum.j0 k t109 false t101 t107 t108)) = some r := H
 have A4 := aZ_ A40
 clear A40
 have HC5 := aZ_ H
 clear H
 go_enter Try.func22,Try.ntmps22
 go_upto_region 3 with (first | ((with_reducible refine gate_callee (f := 31) rfl ?_);refine goesL_ (some 6) rfl rfl Try.func31 T16_ rfl #[.slice A0 l0.length c0] rfl T3_ ?_;(with_reducible refine (spec_l1New.calls k _ _ l0 t101 t102 t103 w _ ?side1 ?side2 ?side3 A2.out).mono ?_);(case side1 => repeat (first | (with_reducible first | exact HB.out | apply below_alloc | apply pw_below_drewN | apply below_drew1) | exact HB.out));(case side2 => exact HR0.out);(case side3 => exact HC0.out);rintro e w6 ⟨g104,rfl,hi,hb,hb2⟩;refine ⟨_,rfl,?_⟩;have n0_ := aZ_ (hb);have n1_ := aZ_ (hi);clear HB;have HB := n0_;have HI104 := n1_;clear n0_ n1_;(try clear hb);(try clear hb2);(try clear hk);(try clear hi)) | ((with_reducible refine gate_callee (f := 30) rfl ?_);refine goesL_ (some 8) rfl rfl Try.func30 T16_ rfl #[.pointer (some ⟨g104,0,none⟩)] rfl T3_ ?_;(with_reducible refine (spec_l2Any.calls k g104 t101 t102 t103 t105 t106 t107 t108 w _ ?side1 ?side2 A3.out).mono ?_);(case side1 => repeat (first | (with_reducible first | exact HI104.out | apply IsS58.alloc | apply IsS58.drewN | apply IsS58.drew | apply IsS58.set_1 | apply IsS58.set_2) | exact HI104.out));(case side2 => repeat (first | (with_reducible first | exact HB.out | apply below_alloc | apply pw_below_drewN | apply below_drew1 | refine below_set ?_ (IsS58.ge HI104.out)) | exact HB.out));rintro e w7 ⟨rfl,hi,hb,hk⟩;refine ⟨_,rfl,?_⟩;have n0_ := aZ_ (hb);have n1_ := aZ_ (hi);clear HB;clear HI104;have HB := n0_;have HI104 := n1_;clear n0_ n1_;(try clear hb);(try clear hb2);(try clear hk);(try clear hi)) | ((with_reducible refine gate_callee (f := 8) rfl ?_);refine goesL_ (some 9) rfl rfl Try.func8 T16_ rfl #[.agg #[.int .i64 t105,.int .i64 t106]] rfl T3_ ?_;(with_reducible refine (spec_SpectrumOf.calls k t105 t106 t109 _ A4.out).mono ?_);rintro e w8 ⟨v110,rfl,ho0,hb⟩;refine ⟨_,rfl,?_⟩;have n0_ := aZ_ (Kd.R_lower ho0 (below_size T34_));have n1_ := aZ_ (IsS58.below T38_ hb);have n2_ := aZ_ (below_step T34_ hb);clear HI104;clear HB;have HO111 := n0_;have HI104 := n1_;have HB := n2_;clear n0_ n1_ n2_;(try clear hb);(try clear hb2);(try clear hk);(try clear hi);(try clear ho0)))
 (try simp only [Act.put,List.setIfInBounds_toArray,List.set_cons_zero,List.set_cons_succ])
 go_cut [16] (fun v16 wc => ∃ (kq : Nat) (x16_4 : Bool) (x105001_4 : Int) (x105002_4 : Int),v16 = .bool x16_4 ∧ Aside0 (spec_DrawTableOfSpectrum.j0 kq t109 x16_4 t101 x105001_4 x105002_4 = some r) ∧ Aside0 (kq ≤ k) ∧ Aside0 (Kd.R (Kd.int .i64) 3 wc w.heap.size (fun _ => True) v110 t109) ∧ Aside0 (IsS58 w wc g104 t101 x105001_4 x105002_4) ∧ Aside0 (Below w.heap.size w wc))
 case first =>
  have H := HC5.out
  clear HC5
  by_cases c9 : (t109.length : Int) > 0
  ·rw [if_pos c9] at H
   have c9b0 : decide (0 < (t109.length : Int)) = true := decide_eq_true c9
   have c9b1 : decide (0 < t109.length) = true := decide_eq_true T48_
   clear c9
   (first | rw [c9b0] | (simp only [i64_w,i32_w];rw [c9b0]) | skip)
   replace H := Option.bind_eq_some_iff.mp H
   obtain ⟨⟨t112,t113,t114⟩,A100,H⟩ := H
   replace H : (spec_DrawTableOfSpectrum.j0 k t109 t112 t101 t113 t114) = some r := H
   have A10 := aZ_ A100
   clear A100
   have H' := aZ_ H
   clear H
   obtain ⟨Ao11,co11,eo11⟩ := Kd.R_slice HO111.out
   subst eo11
   go_wp2_with (first | (go_at_call 45;(with_reducible refine (spec_l1Once.calls g104 t101 t107 t108 4 t112 t113 t114 w _ ?side1 ?side2 A10.out).mono ?_);(case side1 => repeat (first | (with_reducible first | exact HI104.out | apply IsS58.alloc | apply IsS58.drewN | apply IsS58.drew | apply IsS58.set_1 | apply IsS58.set_2) | exact HI104.out));(case side2 => repeat (first | (with_reducible first | exact HB.out | apply below_alloc | apply pw_below_drewN | apply below_drew1 | refine below_set ?_ (IsS58.ge HI104.out)) | exact HB.out));rintro e w12 ⟨rfl,hi,hb,hk⟩;have n0_ := aZ_ (Kd.R_mono (Kd.R_keep (IsS58.apart (show IsS58 w _ g104 t101 t107 t108 from by repeat (first | (with_reducible first | exact HI104.out | apply IsS58.alloc | apply IsS58.drewN | apply IsS58.drew | apply IsS58.set_1 | apply IsS58.set_2) | exact HI104.out)) (by (with_reducible repeat (first | apply Kd.R_alloc | apply Kd.R_drewN | apply Kd.R_drew));exact HO111.out) T43_) hk (fun _ h => h.2)) (fun _ h => h.1));have n1_ := aZ_ (hb);have n2_ := aZ_ (hi);clear HO111;clear HB;clear HI104;have HO111 := n0_;have HB := n1_;have HI104 := n2_;clear n0_ n1_ n2_;(try clear hb);(try clear hb2);(try clear hk);(try clear hi)))
   go_meet
   case rel => exact ⟨_,(t112),(t113),(t114),T6_,H',⟨by first | omega | exact Nat.le_refl _⟩,⟨by (with_reducible repeat (first | apply Kd.R_alloc | apply Kd.R_drewN | apply Kd.R_drew));exact HO111.out⟩,⟨by repeat (first | (with_reducible first | exact HI104.out | apply IsS58.alloc | apply IsS58.drewN | apply IsS58.drew | apply IsS58.set_1 | apply IsS58.set_2) | exact HI104.out)⟩,⟨by repeat (first | (with_reducible first | exact HB.out | apply below_alloc | apply pw_below_drewN | apply below_drew1 | refine below_set ?_ (IsS58.ge HI104.out)) | exact HB.out)⟩⟩
  ·rw [if_neg c9] at H
   have c9b0 : decide (0 < (t109.length : Int)) = false := decide_eq_false c9
   have c9b1 : decide (0 < t109.length) = false := decide_eq_false T48_
   clear c9
   (first | rw [c9b0] | (simp only [i64_w,i32_w];rw [c9b0]) | skip)
   have H' := aZ_ H
   clear H
   obtain ⟨Ao13,co13,eo13⟩ := Kd.R_slice HO111.out
   subst eo13
   go_wp2
   go_meet
   case rel => exact ⟨_,(false),(t107),(t108),T6_,H',⟨by first | omega | exact Nat.le_refl _⟩,⟨by (with_reducible repeat (first | apply Kd.R_alloc | apply Kd.R_drewN | apply Kd.R_drew));exact HO111.out⟩,⟨by repeat (first | (with_reducible first | exact HI104.out | apply IsS58.alloc | apply IsS58.drewN | apply IsS58.drew | apply IsS58.set_1 | apply IsS58.set_2) | exact HI104.out)⟩,⟨by repeat (first | (with_reducible first | exact HB.out | apply below_alloc | apply pw_below_drewN | apply below_drew1 | refine below_set ?_ (IsS58.ge HI104.out)) | exact HB.out)⟩⟩
 case rest =>
  clear HC5
  try clear c2
  try clear p2
  try clear c3
  try clear c8
  try clear c9
  try clear c9b0
  try clear c9b1
  obtain ⟨kq,x16_4,x105001_4,x105002_4,rfl,HA,HJ4,HO_4,HI104,HB⟩ := hcut
  cases kq with
  | zero => exact absurd HA.out (by simp [spec_DrawTableOfSpectrum.j0])
  | succ kj4 =>
   have H := HA.out
   clear HA
   simp only [spec_DrawTableOfSpectrum.j0] at H
   by_cases c14 : x16_4 = true
   ·subst c14
    have H1 : ((spec_l1Below.f t101 x105001_4 x105002_4 (t109.length : Int)).bind fun bt115 => ((spec_l1PickInt.f t101 bt115.2.1 bt115.2.2 (([0,2,(-2),33,(-9223372036854775808)] : List Int))).bind fun bt121 => (if 0 ≤ bt115.1 then (if bt115.1 < (t109.length : Int) then (some (t109.set (bt115.1 : Int).toNat bt121.1)) else (none)) else (none)))) = some r := by rw [if_pos rfl] at H;exact H
    clear H
    have H := H1
    clear H1
    replace H := Option.bind_eq_some_iff.mp H
    obtain ⟨⟨t115,t116,t117⟩,A150,H⟩ := H
    replace H : ((spec_l1PickInt.f t101 t116 t117 (([0,2,(-2),33,(-9223372036854775808)] : List Int))).bind fun bt121 => (if 0 ≤ t115 then (if t115 < (t109.length : Int) then (some (t109.set (t115 : Int).toNat bt121.1)) else (none)) else (none))) = some r := H
    have A15 := aZ_ A150
    clear A150
    obtain ⟨y118,hy118⟩ : ∃ y_ : List Int,y_ = (([0,2,(-2),33,(-9223372036854775808)] : List Int)) := ⟨_,rfl⟩
    replace H : ((spec_l1PickInt.f t101 t116 t117 y118).bind fun bt121 => (if 0 ≤ t115 then (if t115 < (t109.length : Int) then (some (t109.set (t115 : Int).toNat bt121.1)) else (none)) else (none))) = some r := by first | (rw [hy118];with_reducible exact H) | (have H2_ := (Option.bind_some _ _).symm.trans H;rw [hy118];with_reducible exact H2_) | (have H2_ := (Option.bind_some _ _).symm.trans H;with_reducible exact H2_) | with_reducible exact H | (rw [hy118];exact H) | exact H
    have Ny118 := aZ_ hy118
    clear hy118
    replace H := Option.bind_eq_some_iff.mp H
    obtain ⟨⟨t121,t122,t123⟩,A160,H⟩ := H
    replace H : (if 0 ≤ t115 then (if t115 < (t109.length : Int) then (some (t109.set (t115 : Int).toNat t121)) else (none)) else (none)) = some r := H
    have A16 := aZ_ A160
    clear A160
    by_cases c17 : 0 ≤ t115
    ·rw [if_pos c17] at H
     have c17b0 : decide (0 ≤ t115) = true := decide_eq_true c17
     clear c17
     by_cases c18 : t115 < (t109.length : Int)
     ·rw [if_pos c18] at H
      have c18b0 : decide (t115 < (t109.length : Int)) = true := decide_eq_true c18
      clear c18
      obtain ⟨y124,hy124⟩ : ∃ y_ : List Int,y_ = (t109.set (t115 : Int).toNat t121) := ⟨_,rfl⟩
      replace H : (some y124) = some r := by first | (rw [hy124];with_reducible exact H) | (have H2_ := (Option.bind_some _ _).symm.trans H;rw [hy124];with_reducible exact H2_) | (have H2_ := (Option.bind_some _ _).symm.trans H;with_reducible exact H2_) | with_reducible exact H | (rw [hy124];exact H) | exact H
      have Ny124 := aZ_ hy124
      clear hy124
      obtain rfl := Option.some.inj H
      obtain ⟨Ao20,co20,eo20⟩ := Kd.R_slice HO_4.out
      subst eo20
      go_wp2_with (first | ((with_reducible refine gate_callee (f := 47) rfl ?_);refine goesL_ (some 21) rfl rfl Try.func47 T16_ rfl #[.pointer (some ⟨g104,0,none⟩),.int .i64 (t109.length : Int)] rfl T3_ ?_;(with_reducible refine (spec_l1Below.calls g104 t101 x105001_4 x105002_4 (t109.length : Int) t115 t116 t117 w _ ?side1 ?side2 A15.out).mono ?_);(case side1 => repeat (first | (with_reducible first | exact HI104.out | apply IsS58.alloc | apply IsS58.drewN | apply IsS58.drew | apply IsS58.set_1 | apply IsS58.set_2) | exact HI104.out));(case side2 => repeat (first | (with_reducible first | exact HB.out | apply below_alloc | apply pw_below_drewN | apply below_drew1 | refine below_set ?_ (IsS58.ge HI104.out)) | exact HB.out));rintro e w21 ⟨rfl,hi,hb,hk⟩;refine ⟨_,rfl,?_⟩;have n0_ := aZ_ (Kd.R_mono (Kd.R_keep (IsS58.apart (show IsS58 w _ g104 t101 x105001_4 x105002_4 from by repeat (first | (with_reducible first | exact HI104.out | apply IsS58.alloc | apply IsS58.drewN | apply IsS58.drew | apply IsS58.set_1 | apply IsS58.set_2) | exact HI104.out)) T44_ T43_) hk (fun _ h => h.2)) (fun _ h => h.1));have n1_ := aZ_ (hb);have n2_ := aZ_ (hi);clear HO_4;clear HB;clear HI104;have HO_4 := n0_;have HB := n1_;have HI104 := n2_;clear n0_ n1_ n2_;(try clear hb);(try clear hb2);(try clear hk);(try clear hi)) | ((with_reducible refine gate_dst (N := 23) rfl ?_);refine Kd.R_lit (Kd.int .i64) _ 3 ?hg (N := 23) ?hd (xs := ([0,2,(-2),33,(-9223372036854775808)] : List Int)) (inner := [.int .i64 0,.int .i64 2,.int .i64 (-2),.int .i64 33,.int .i64 (-9223372036854775808)]) (ok := fun _ => True) (okp := fun _ => True) ?hr ?hp (fun _ hk => hk) trivial (Below.refl _ _) (Nat.le_refl _) T42_ ?_;(case hd => rfl);(case hg => rfl);(case hr => first | (go_simp;done) | (go_simp;rfl));(case hp => exact (Reps.one (show Kd.M (Kd.int .i64) _ _ _ 0 [.int .i64 0] from rfl) (Reps.one (show Kd.M (Kd.int .i64) _ _ _ 2 [.int .i64 2] from rfl) (Reps.one (show Kd.M (Kd.int .i64) _ _ _ (-2) [.int .i64 (-2)] from rfl) (Reps.one (show Kd.M (Kd.int .i64) _ _ _ 33 [.int .i64 33] from rfl) (Reps.one (show Kd.M (Kd.int .i64) _ _ _ (-9223372036854775808) [.int .i64 (-9223372036854775808)] from rfl) (Reps.none _ _)))))));intro v119 w22 ho23 hb hg_ hnew_;clear hg_ hnew_;(first | rw [← Ny118.out] at ho23 | (simp only [Int.reduceToNat] at ho23;rw [← Ny118.out] at ho23));have n0_ := aZ_ (Kd.R_elder' T44_ (Kd.R_base ho23) hb);have n1_ := aZ_ (Kd.R_lower (Kd.R_new' ho23 (Kd.R_lt T44_)) (below_size T34_));have n2_ := aZ_ (IsS58.below T38_ hb);have n3_ := aZ_ (below_step T34_ hb);clear HO_4;clear HI104;clear HB;have HO_4 := n0_;have HO120 := n1_;have HI104 := n2_;have HB := n3_;clear n0_ n1_ n2_ n3_;clear hb ho23;obtain ⟨Ao24,co24,eo24⟩ := Kd.R_slice HO120.out;subst eo24) | ((with_reducible refine gate_callee (f := 46) rfl ?_);refine goesL_ (some 24) rfl rfl Try.func46 T16_ rfl #[.pointer (some ⟨g104,0,none⟩),.slice Ao24 y118.length co24] rfl T3_ ?_;(with_reducible refine (spec_l1PickInt.calls g104 t101 t116 t117 _ _ y118 t121 t122 t123 w _ ?side1 ?side2 ?side3 ?side4 ?side5 A16.out).mono ?_);(case side1 => repeat (first | (with_reducible first | exact HI104.out | apply IsS58.alloc | apply IsS58.drewN | apply IsS58.drew | apply IsS58.set_1 | apply IsS58.set_2) | exact HI104.out));(case side2 => repeat (first | (with_reducible first | exact HB.out | apply below_alloc | apply pw_below_drewN | apply below_drew1 | refine below_set ?_ (IsS58.ge HI104.out)) | exact HB.out));(case side3 => repeat (first | exact (Kd.R_reads' HO120.out).2.2 | (with_reducible refine Kd.C_alloc ?_ _) | (with_reducible refine Kd.C_drewN ?_ _) | (with_reducible refine Kd.C_drew ?_)));(case side4 => exact (Kd.R_reads' HO120.out).2.1);(case side5 => exact far_slice (IsS58.own_ne HI104.out HO120.out T43_));rintro e w25 ⟨rfl,hi,hb,hk⟩;refine ⟨_,rfl,?_⟩;have n0_ := aZ_ (Kd.R_mono (Kd.R_keep (IsS58.apart (show IsS58 w _ g104 t101 t116 t117 from by repeat (first | (with_reducible first | exact HI104.out | apply IsS58.alloc | apply IsS58.drewN | apply IsS58.drew | apply IsS58.set_1 | apply IsS58.set_2) | exact HI104.out)) T44_ T43_) hk (fun _ h => h.2)) (fun _ h => h.1));have n1_ := aZ_ (Kd.R_mono (Kd.R_keep (IsS58.apart (show IsS58 w _ g104 t101 t116 t117 from by repeat (first | (with_reducible first | exact HI104.out | apply IsS58.alloc | apply IsS58.drewN | apply IsS58.drew | apply IsS58.set_1 | apply IsS58.set_2) | exact HI104.out)) (by (with_reducible repeat (first | apply Kd.R_alloc | apply Kd.R_drewN | apply Kd.R_drew));exact HO120.out) T43_) hk (fun _ h => h.2)) (fun _ h => h.1));have n2_ := aZ_ (hb);have n3_ := aZ_ (hi);clear HO_4;clear HO120;clear HB;clear HI104;have HO_4 := n0_;have HO120 := n1_;have HB := n2_;have HI104 := n3_;clear n0_ n1_ n2_ n3_;(try clear hb);(try clear hb2);(try clear hk);(try clear hi);have p19 : 0 ≤ (t115 : Int) := of_decide_eq_true T10_;have q19 : (t115 : Int) < ((t109.length : Int) : Int) := of_decide_eq_true T10_;obtain ⟨go19,co19,eo19,gb19,gl19,cl19,HG19⟩ := Kd.R_form HO_4.out T48_;(first | cases eo19 | (injection eo19 with ea_ en_ ec_;(first | subst ea_ | (injection ea_ with ea_;subst ea_));subst ec_;clear en_));have GB19 := aZ_ gb19;have GG19 := aZ_ HG19;clear gb19 gl19 HG19;obtain ⟨hx19_0,hf19_0⟩ := Kd.R_celln 0 HO_4.out (t115 : Int) p19 q19;replace p19 := eq_true p19;replace q19 := eq_true q19;have n_ := aZ_ (Kd.R_mono (ok' := (fun k_ => some k_ ≠ (.slice Ao24 y118.length co24 : Value).ownBlock)) HO_4.out (fun k_ hk => hk.2));clear HO_4;have HO_4 := n_;clear n_;obtain ⟨hy26_,hz26_⟩ := Kd.R_celln 0 HO_4.out (t115 : Int) (of_decide_eq_true T10_) (of_decide_eq_true T10_);have HP26 := Kd.R_putg HO_4.out (t115 : Int) t121) | ((with_reducible refine gate_store (t := 3) (p := 25) rfl ?_);refine store_event (t := 3) (p := 25) (v := ?vo_w27) (w1 := (w25.setCell ⟨go19,(t115 : Int).toNat,none⟩ (.int .i64 t121))) ?hg ?ho ?hn ?hr ?_;(case ho => rfl);(case hg => rfl);(case hn => rfl);(case hr => first | (go_simp;done) | (go_simp;rfl));intro w27 hw;have hg : w25.grownBy w27 (some go19) := (by rw [hw];exact HP26.2);have hp_ : Kd.R (Kd.int .i64) 3 w27 w.heap.size (fun k_ => some k_ ≠ (.slice Ao24 y118.length co24 : Value).ownBlock) (.slice (some ⟨go19,0,none⟩) t109.length co20) y124 := (by rw [hw,Ny124.out];exact HP26.1);clear HP26;have n0_ := aZ_ (hp_);have n1_ := aZ_ (IsS58.grown T38_ hg (IsS58.own_ne HI104.out HO_4.out T43_));have n2_ := aZ_ (Kd.R_after (v := (.slice (some ⟨go19,0,none⟩) t109.length co20)) (v1 := (.slice (some ⟨go19,0,none⟩) t109.length co20)) (ok := (fun _ => True)) (by (with_reducible repeat (first | apply Kd.R_alloc | apply Kd.R_drewN | apply Kd.R_drew));exact HO120.out) hg (.inl rfl));have n3_ := aZ_ ((by rw [hw];exact below_set (HB.out) GB19.out : Below w.heap.size w w27));clear HO_4;clear HI104;clear HO120;clear HB;have HO_4 := n0_;have HI104 := n1_;have HO120 := n2_;have HB := n3_;clear n0_ n1_ n2_ n3_;clear hg hw hp_))
      go_ret
      exact ⟨_,by first | rfl | (simp [errW_none,errW_some] <;> rfl) | (simp [*,errW_none,errW_some] <;> rfl),by (with_reducible repeat (first | apply Kd.R_alloc | apply Kd.R_drewN | apply Kd.R_drew));exact Kd.R_mono HO_4.out (fun _ hk => trivial),by repeat (first | (with_reducible first | exact HB.out | apply below_alloc | apply pw_below_drewN | apply below_drew1 | refine below_set ?_ (IsS58.ge HI104.out)) | exact HB.out)⟩
     ·rw [if_neg c18] at H
      exact absurd H T42_
    ·rw [if_neg c17] at H
     exact absurd H T42_
   ·replace c14 := Bool.eq_false_iff.mpr c14
    subst c14
    have H1 : (some t109) = some r := by rw [if_neg (show ¬ (false = true) by decide)] at H;exact H
    clear H
    have H := H1
    clear H1
    obtain rfl := Option.some.inj H
    go_wp2
    go_ret
    exact ⟨_,by first | rfl | (simp [errW_none,errW_some] <;> rfl) | (simp [*,errW_none,errW_some] <;> rfl),by (with_reducible repeat (first | apply Kd.R_alloc | apply Kd.R_drewN | apply Kd.R_drew));exact HO_4.out,by repeat (first | (with_reducible first | exact HB.out | apply below_alloc | apply pw_below_drewN | apply below_drew1 | refine below_set ?_ (IsS58.ge HI104.out)) | exact HB.out)⟩
mutual
def spec_TableOfSpectrum.l0 : Nat → List Int → Int → Option (Int × Int × Bool)
 | 0,_,_ => none
 | k + 1,x0,x4 => if x4 < (x0.length : Int) then (if 0 ≤ x4 then ((spec_l1In.f (rd x0 x4) (-32) 32).bind fun t103 => (if t103 = true then (spec_TableOfSpectrum.l0 k x0 (wrap64 (x4 + 1))) else (some (0,0,false)))) else (none)) else (spec_TableOfSpectrum.l1 k x0 0)
def spec_TableOfSpectrum.l1 : Nat → List Int → Int → Option (Int × Int × Bool)
 | 0,_,_ => none
 | k + 1,x0,x5 => if x5 ≤ 5 then (if 0 ≤ x5 then (if (x0.length : Int) = (shl .i64 1 x5) then (spec_TableOfSpectrum.l2 k x0 x5 0 0) else (spec_TableOfSpectrum.l1 k x0 (wrap64 (x5 + 1)))) else (none)) else (some (0,0,false))
def spec_TableOfSpectrum.l2 : Nat → List Int → Int → Int → Int → Option (Int × Int × Bool)
 | 0,_,_,_,_ => none
 | k + 1,x0,x5,x6,x7 => if x7 < (x0.length : Int) then (spec_TableOfSpectrum.l3 k x0 x5 x6 x7 0 0) else (some (x5,x6,true))
def spec_TableOfSpectrum.l3 : Nat → List Int → Int → Int → Int → Int → Int → Option (Int × Int × Bool)
 | 0,_,_,_,_,_,_ => none
 | k + 1,x0,x5,x6,x7,x8,x9 => if x9 < (x0.length : Int) then (if 0 ≤ x9 then ((spec_l12Sign.f k (Go.bits .and .i64 x9 x7)).bind fun t105 => (spec_TableOfSpectrum.l3 k x0 x5 x6 x7 (wrap64 (x8 + (wrap64 ((rd x0 x9) * t105)))) (wrap64 (x9 + 1)))) else (none)) else (if x8 = (wrap64 (-(x0.length : Int))) then (if 0 ≤ x7 then (spec_TableOfSpectrum.l2 k x0 x5 (Go.bits .or .i64 x6 (shl .i64 1 x7)) (wrap64 (x7 + 1))) else (none)) else (if x8 = (x0.length : Int) then (spec_TableOfSpectrum.l2 k x0 x5 x6 (wrap64 (x7 + 1))) else (some (0,0,false))))
end
def spec_TableOfSpectrum.f (k : Nat) (l0 : List Int) : Option (Int × Int × Bool) := spec_TableOfSpectrum.l0 k l0 0
def spec_TableOfSpectrum.T18 : Bool × List (List Nat × List Nat) := (true,[([],[]),([],[]),([],[]),([1,2],[1,2]),([3],[3]),([],[]),([],[]),([5,6],[5,6]),([7],[7]),([4,8],[4,8]),([0,9],[0,9]),([10,8,0,1,2,3,4,5,6,7,8,9,10],[0,10])])
def spec_TableOfSpectrum.B18 : List Nat := [0,0,0,6,14,0,0,96,224,510,1023,2047]
theorem spec_TableOfSpectrum.tab18 : rtab .any (opsOf Try.f23 18) = spec_TableOfSpectrum.T18 := by kernel_rfl
theorem spec_TableOfSpectrum.bits18 : waitsOk spec_TableOfSpectrum.T18.2 spec_TableOfSpectrum.B18 = true := by kernel_rfl
set_option maxHeartbeats 8000000 in
set_option maxRecDepth 100000 in
theorem spec_TableOfSpectrum.calls (k : Nat) (A0 : Option Addr) (c0 : Nat) (l0 : List Int) (r1 : Int) (r2 : Int) (r3 : Bool) (w : World) (hr0 : Kd.C (Kd.int .i64) w A0 l0.length l0) (hc0 : l0.length ≤ c0) (h : spec_TableOfSpectrum.f k l0 = some (r1,r2,r3)) :
  Calls Try.prog 23 #[.slice A0 l0.length c0] w fun e w' => e = .returned (.tuple #[.agg #[.int .i64 r1,.int .i64 r2],.bool r3]) ∧ Below w.heap.size w w' := by
 have hu25 := Try.underlying25
 have HR0 := aZ_ hr0
 have HC0 := aZ_ hc0
 clear hr0 hc0
 have HB := aZ_ (Below.refl w.heap.size w)
 have H : (spec_TableOfSpectrum.l0 k l0 0) = some (r1,r2,r3) := h
 clear h
 have H' := aZ_ H
 clear H
 go_enter Try.func23,Try.ntmps23
 go_wp2_with (first | ((with_reducible refine gate_dst (N := 2) rfl ?_);refine box_event ?hg (N := 2) ?hd (cs := #[.int .i64 0,.int .i64 0]) (t := 25) ?hr ?_;(case hd => rfl);(case hg => rfl);(case hr => first | (go_simp;done) | (go_simp;rfl));intro gb101 hg w2 hbox hb;have n0_ := aZ_ (below_step T7_ hb);have n1_ := aZ_ (hbox);have n2_ := aZ_ ((T4_ : w.heap.size ≤ gb101));have n3_ := aZ_ ((T4_ : w.heap.size ≤ gb101));clear HB;have HB := n0_;have BK101 := n1_;have GW101 := n2_;have GE101 := n3_;clear n0_ n1_ n2_ n3_;clear hb hbox hg))
 go_loopg [4] k (fun kq v4 w' => ∃ (x4_1 : Int) (x102000_1 : Int) (x102001_1 : Int),v4 = .int .i64 x4_1 ∧ Aside0 (spec_TableOfSpectrum.l0 kq l0 x4_1 = some (r1,r2,r3)) ∧ Aside0 (kq ≤ k) ∧ Aside0 (w'.heap[gb101]? = some (.cells #[.int .i64 x102000_1,.int .i64 x102001_1] 25 (0,0))) ∧ Aside0 (Below w.heap.size w w'))
 case atStart => exact ⟨(0),(0),(0),T6_,H',⟨Nat.le_refl _⟩,⟨by (with_reducible repeat (first | refine blk_drewN ?_ _ | refine blk_drew ?_ | refine blk_alloc ?_ _));exact BK101.out⟩,⟨by repeat (first | (with_reducible first | exact HB.out | apply below_alloc | apply pw_below_drewN | apply below_drew1 | refine below_set ?_ GE101.out) | exact HB.out)⟩⟩
 case round =>
  clear H'
  try clear c2
  try clear p2
  obtain ⟨x4_1,x102000_1,x102001_1,rfl,HA,HK1,BK101,HB⟩ := hrel
  cases gk with
  | zero => exact absurd HA.out (by simp [spec_TableOfSpectrum.l0])
  | succ k1 =>
   have H := HA.out
   clear HA
   simp only [spec_TableOfSpectrum.l0] at H
   by_cases c3 : x4_1 < (l0.length : Int)
   ·rw [if_pos c3] at H
    have c3b0 : decide (x4_1 < (l0.length : Int)) = true := decide_eq_true c3
    clear c3
    by_cases c4 : 0 ≤ x4_1
    ·rw [if_pos c4] at H
     have c4b0 : decide (0 ≤ x4_1) = true := decide_eq_true c4
     clear c4
     replace H := Option.bind_eq_some_iff.mp H
     obtain ⟨t103,A50,H⟩ := H
     replace H : (if t103 = true then (spec_TableOfSpectrum.l0 k1 l0 (wrap64 (x4_1 + 1))) else (some (0,0,false))) = some (r1,r2,r3) := H
     have A5 := aZ_ A50
     clear A50
     by_cases c6 : t103 = true
     ·subst c6
      have H1 : (spec_TableOfSpectrum.l0 k1 l0 (wrap64 (x4_1 + 1))) = some (r1,r2,r3) := by rw [if_pos rfl] at H;exact H
      clear H
      have H := H1
      clear H1
      have H' := aZ_ H
      clear H
      have p102 : 0 ≤ (x4_1 : Int) := of_decide_eq_true T10_
      have q102 : x4_1 < (l0.length : Int) := of_decide_eq_true T10_
      obtain ⟨ad102,e102,hx102_0⟩ := Kd.at_int HR0.out x4_1 p102 q102
      cases e102
      replace hx102_0 := (HB.out.cell (World.block_lt_of_cell? w _ hx102_0)).trans hx102_0
      replace p102 := eq_true p102
      replace q102 := eq_true q102
      go_wp2_with (first | ((with_reducible refine gate_callee (f := 48) rfl ?_);refine goesL_ (some 20) rfl rfl Try.func48 T16_ rfl #[.int .i64 (rd l0 x4_1),.int .i64 (-32),.int .i64 32] rfl T3_ ?_;(with_reducible refine (spec_l1In.calls (rd l0 x4_1) (-32) 32 true _ A5.out).mono ?_);rintro e w' ⟨rfl,⟨nd,rfl⟩⟩;refine ⟨_,rfl,?_⟩))
      go_roundg k1
      case measure => have := HK1.out;omega
      case rel => exact ⟨(wrap64 (x4_1 + 1)),(x102000_1),(x102001_1),T6_,H',⟨by have := HK1.out;omega⟩,⟨by (with_reducible repeat (first | refine blk_drewN ?_ _ | refine blk_drew ?_ | refine blk_alloc ?_ _));exact BK101.out⟩,⟨by repeat (first | (with_reducible first | exact HB.out | apply below_alloc | apply pw_below_drewN | apply below_drew1 | refine below_set ?_ GE101.out) | exact HB.out)⟩⟩
     ·replace c6 := Bool.eq_false_iff.mpr c6
      subst c6
      have H1 : (some (0,0,false)) = some (r1,r2,r3) := by rw [if_neg (show ¬ (false = true) by decide)] at H;exact H
      clear H
      have H := H1
      clear H1
      simp only [Option.some.injEq,Prod.mk.injEq] at H
      obtain ⟨rfl,rfl,rfl⟩ := H
      have p102 : 0 ≤ (x4_1 : Int) := of_decide_eq_true T10_
      have q102 : x4_1 < (l0.length : Int) := of_decide_eq_true T10_
      obtain ⟨ad102,e102,hx102_0⟩ := Kd.at_int HR0.out x4_1 p102 q102
      cases e102
      replace hx102_0 := (HB.out.cell (World.block_lt_of_cell? w _ hx102_0)).trans hx102_0
      replace p102 := eq_true p102
      replace q102 := eq_true q102
      go_wp2_with (first | ((with_reducible refine gate_callee (f := 48) rfl ?_);refine goesL_ (some 20) rfl rfl Try.func48 T16_ rfl #[.int .i64 (rd l0 x4_1),.int .i64 (-32),.int .i64 32] rfl T3_ ?_;(with_reducible refine (spec_l1In.calls (rd l0 x4_1) (-32) 32 false _ A5.out).mono ?_);rintro e w' ⟨rfl,⟨nd,rfl⟩⟩;refine ⟨_,rfl,?_⟩;(try (rw [drewN_self wr];generalize hq_ : World.drewN wr _ = wr;have n0_ : Aside0 (wr.heap[gb101]? = some (.cells #[.int .i64 x102000_1,.int .i64 x102001_1] 25 (0,0))) := ⟨by rw [← hq_];exact T2_⟩;have n1_ : Aside0 (Below w.heap.size w wr) := ⟨by rw [← hq_];exact T1_⟩;clear BK101 HB hq_;have BK101 := n0_;have HB := n1_;clear n0_ n1_));have hcz7_0 : wr.cell? ⟨gb101,0,none⟩ = some (.int .i64 x102000_1) := (blk_cell BK101.out 0).trans rfl;have hcz7_1 : wr.cell? ⟨gb101,1,none⟩ = some (.int .i64 x102001_1) := (blk_cell BK101.out 1).trans rfl;have hfz7_0 := blk_frozen BK101.out 0;have hfz7_1 := blk_frozen BK101.out 1))
      refine bodyPost_ret (results_ct rfl _ _ gb101 25 #[.int .i64 0,.int .i64 0] (0,0) _ rfl (by (with_reducible repeat (first | refine blk_drewN ?_ _ | refine blk_drew ?_ | refine blk_alloc ?_ _));refine blk_put (cs := #[.int .i64 0,.int .i64 x102001_1]) ?_ 1 _ rfl;(with_reducible repeat (first | refine blk_drewN ?_ _ | refine blk_drew ?_ | refine blk_alloc ?_ _));refine blk_put (cs := #[.int .i64 x102000_1,.int .i64 x102001_1]) ?_ 0 _ rfl;(with_reducible repeat (first | refine blk_drewN ?_ _ | refine blk_drew ?_ | refine blk_alloc ?_ _));exact BK101.out) Try.underlying25 rfl T16_) rfl ?_
      exact ⟨by first | rfl | (simp [errW_none,errW_some] <;> rfl) | (simp [*,errW_none,errW_some] <;> rfl),by repeat (first | (with_reducible first | exact HB.out | apply below_alloc | apply pw_below_drewN | apply below_drew1 | refine below_set ?_ GE101.out) | exact HB.out)⟩
    ·rw [if_neg c4] at H
     exact absurd H T42_
   ·rw [if_neg c3] at H
    have c3b0 : decide (x4_1 < (l0.length : Int)) = false := decide_eq_false c3
    clear c3
    have H' := aZ_ H
    clear H
    go_wp2
    go_loopg [5] k1 (fun kq v5 w' => ∃ (x5_2 : Int) (x102000_2 : Int) (x102001_2 : Int),v5 = .int .i64 x5_2 ∧ Aside0 (spec_TableOfSpectrum.l1 kq l0 x5_2 = some (r1,r2,r3)) ∧ Aside0 (kq ≤ k1) ∧ Aside0 (w'.heap[gb101]? = some (.cells #[.int .i64 x102000_2,.int .i64 x102001_2] 25 (0,0))) ∧ Aside0 (Below w.heap.size w w'))
    case atStart => exact ⟨(0),(x102000_1),(x102001_1),T6_,H',⟨Nat.le_refl _⟩,⟨by (with_reducible repeat (first | refine blk_drewN ?_ _ | refine blk_drew ?_ | refine blk_alloc ?_ _));exact BK101.out⟩,⟨by repeat (first | (with_reducible first | exact HB.out | apply below_alloc | apply pw_below_drewN | apply below_drew1 | refine below_set ?_ GE101.out) | exact HB.out)⟩⟩
    case round =>
     clear H'
     try clear p1
     try clear q1
     try clear hx1
     try clear c2
     try clear p2
     try clear c3
     try clear c3b0
     try clear c4
     try clear c4b0
     try clear c6
     try clear p6
     try clear hcz7_0
     try clear hcz7_1
     try clear hfz7_0
     try clear hfz7_1
     try clear hx102_0
     try clear p102
     try clear p2
     try clear q102
     obtain ⟨x5_2,x102000_2,x102001_2,rfl,HA,HK2,BK101,HB⟩ := hrel
     cases gk with
     | zero => exact absurd HA.out (by simp [spec_TableOfSpectrum.l1])
     | succ k2 =>
      have H := HA.out
      clear HA
      simp only [spec_TableOfSpectrum.l1] at H
      by_cases c8 : x5_2 ≤ 5
      ·rw [if_pos c8] at H
       have c8b0 : decide (x5_2 ≤ 5) = true := decide_eq_true c8
       clear c8
       by_cases c9 : 0 ≤ x5_2
       ·rw [if_pos c9] at H
        have c9b0 := eq_true c9
        have c9b1 : decide (0 ≤ x5_2) = true := decide_eq_true c9
        clear c9
        obtain ⟨ji10,hji10⟩ : ∃ j_ : Int,(shl .i64 1 x5_2) = j_ := ⟨_,rfl⟩
        replace H : (if (l0.length : Int) = (ji10) then (spec_TableOfSpectrum.l2 k2 l0 x5_2 0 0) else (spec_TableOfSpectrum.l1 k2 l0 (wrap64 (x5_2 + 1)))) = some (r1,r2,r3) := by first | (rw [hji10] at H;exact H) | (simp only [hji10] at H ⊢;exact H)
        have hji10_ : (IntKind.i64.wrap (1 * 2 ^ min x5_2.toNat 64)) = ji10 := hji10
        have hji10z : x5_2 ≤ 64 → (IntKind.i64.wrap (1 * 2 ^ x5_2.toNat)) = ji10 := shl_small hji10
        have hji10u : (IntKind.i64.wrap (2 ^ min x5_2.toNat 64)) = ji10 := by have h_ := hji10_;rw [Int.one_mul] at h_;exact h_
        have hji10v : x5_2 ≤ 64 → (IntKind.i64.wrap (2 ^ x5_2.toNat)) = ji10 := fun hle_ => by have h_ := hji10z hle_;rw [Int.one_mul] at h_;exact h_
        have hji10y : (wrap64 (1 * 2 ^ min x5_2.toNat 64)) = ji10 := (i64_w _).symm.trans hji10_
        have hji10x : x5_2 ≤ 64 → (wrap64 (1 * 2 ^ x5_2.toNat)) = ji10 := fun h_ => (i64_w _).symm.trans (hji10z h_)
        by_cases c11 : (l0.length : Int) = (ji10)
        ·rw [if_pos c11] at H
         have c11b0 : ((l0.length : Int) == (ji10)) = true := beq_iff_eq.mpr c11
         have c11b1 : ((l0.length : Int) != (ji10)) = false := bne_eq_false_iff_eq.mpr c11
         clear c11
         have H' := aZ_ H
         clear H
         go_wp2
         go_loopg [6,7] k2 (fun kq v6 v7 w' => ∃ (x6_3 : Int) (x7_3 : Int) (x102000_3 : Int) (x102001_3 : Int),v6 = .int .i64 x6_3 ∧ v7 = .int .i64 x7_3 ∧ Aside0 (spec_TableOfSpectrum.l2 kq l0 x5_2 x6_3 x7_3 = some (r1,r2,r3)) ∧ Aside0 (kq ≤ k2) ∧ Aside0 (w'.heap[gb101]? = some (.cells #[.int .i64 x102000_3,.int .i64 x102001_3] 25 (0,0))) ∧ Aside0 (Below w.heap.size w w'))
         case atStart => exact ⟨(0),(0),(x102000_2),(x102001_2),T6_,T6_,H',⟨Nat.le_refl _⟩,⟨by (with_reducible repeat (first | refine blk_drewN ?_ _ | refine blk_drew ?_ | refine blk_alloc ?_ _));exact BK101.out⟩,⟨by repeat (first | (with_reducible first | exact HB.out | apply below_alloc | apply pw_below_drewN | apply below_drew1 | refine below_set ?_ GE101.out) | exact HB.out)⟩⟩
         case round =>
          clear H'
          try clear c1
          try clear p1
          try clear q1
          try clear hx1
          try clear c2
          try clear p2
          try clear c3
          try clear c3b0
          try clear c4
          try clear c4b0
          try clear c6
          try clear p6
          try clear c8
          try clear c8b0
          try clear c9
          try clear c9b0
          try clear c9b1
          try clear p10
          try clear q10
          try clear hx10
          try clear c11
          try clear c11b0
          try clear c11b1
          try clear hcz7_0
          try clear hcz7_1
          try clear hfz7_0
          try clear hfz7_1
          try clear hx102_0
          try clear p1
          try clear p102
          try clear p2
          try clear p6
          try clear q1
          try clear q102
          obtain ⟨x6_3,x7_3,x102000_3,x102001_3,rfl,rfl,HA,HK3,BK101,HB⟩ := hrel
          cases gk with
          | zero => exact absurd HA.out (by simp [spec_TableOfSpectrum.l2])
          | succ k3 =>
           have H := HA.out
           clear HA
           simp only [spec_TableOfSpectrum.l2] at H
           by_cases c12 : x7_3 < (l0.length : Int)
           ·rw [if_pos c12] at H
            have c12b0 : decide (x7_3 < (l0.length : Int)) = true := decide_eq_true c12
            clear c12
            have H' := aZ_ H
            clear H
            go_wp2
            go_loopg [8,9] k3 (fun kq v8 v9 w' => ∃ (x8_4 : Int) (x9_4 : Int),v8 = .int .i64 x8_4 ∧ v9 = .int .i64 x9_4 ∧ Aside0 (spec_TableOfSpectrum.l3 kq l0 x5_2 x6_3 x7_3 x8_4 x9_4 = some (r1,r2,r3)) ∧ Aside0 (kq ≤ k3) ∧ Aside0 (w'.heap[gb101]? = some (.cells #[.int .i64 x102000_3,.int .i64 x102001_3] 25 (0,0))) ∧ Aside0 (Below w.heap.size w w'))
            case atStart => exact ⟨(0),(0),T6_,T6_,H',⟨Nat.le_refl _⟩,⟨by (with_reducible repeat (first | refine blk_drewN ?_ _ | refine blk_drew ?_ | refine blk_alloc ?_ _));exact BK101.out⟩,⟨by repeat (first | (with_reducible first | exact HB.out | apply below_alloc | apply pw_below_drewN | apply below_drew1 | refine below_set ?_ GE101.out) | exact HB.out)⟩⟩
            case round =>
             clear H'
             try clear c1
             try clear p1
             try clear q1
             try clear hx1
             try clear c2
             try clear p2
             try clear c3
             try clear c3b0
             try clear c4
             try clear c4b0
             try clear c6
             try clear p6
             try clear c8
             try clear c8b0
             try clear c9
             try clear c9b0
             try clear c9b1
             try clear p10
             try clear q10
             try clear hx10
             try clear c11
             try clear c11b0
             try clear c11b1
             try clear c12
             try clear c12b0
             try clear hcz7_0
             try clear hcz7_1
             try clear hfz7_0
             try clear hfz7_1
             try clear hx102_0
             try clear p1
             try clear p10
             try clear p102
             try clear p2
             try clear p6
             try clear q1
             try clear q10
             try clear q102
             obtain ⟨x8_4,x9_4,rfl,rfl,HA,HK4,BK101,HB⟩ := hrel
             cases gk with
             | zero => exact absurd HA.out (by simp [spec_TableOfSpectrum.l3])
             | succ k4 =>
              have H := HA.out
              clear HA
              simp only [spec_TableOfSpectrum.l3] at H
              by_cases c13 : x9_4 < (l0.length : Int)
              ·rw [if_pos c13] at H
               have c13b0 : decide (x9_4 < (l0.length : Int)) = true := decide_eq_true c13
               clear c13
               by_cases c14 : 0 ≤ x9_4
               ·rw [if_pos c14] at H
                have c14b0 : decide (0 ≤ x9_4) = true := decide_eq_true c14
                clear c14
                replace H := Option.bind_eq_some_iff.mp H
                obtain ⟨t105,A150,H⟩ := H
                replace H : (spec_TableOfSpectrum.l3 k4 l0 x5_2 x6_3 x7_3 (wrap64 (x8_4 + (wrap64 ((rd l0 x9_4) * t105)))) (wrap64 (x9_4 + 1))) = some (r1,r2,r3) := H
                have A15 := aZ_ A150
                clear A150
                have H' := aZ_ H
                clear H
                try go_wp2
                have n0_ := aZ_ (blk_drew BK101.out)
                have n1_ := aZ_ (below_drew1 HB.out)
                clear BK101
                clear HB
                have BK101 := n0_
                have HB := n1_
                clear n0_ n1_
                have p104 : 0 ≤ (x9_4 : Int) := of_decide_eq_true T10_
                have q104 : x9_4 < (l0.length : Int) := of_decide_eq_true T10_
                obtain ⟨ad104,e104,hx104_0⟩ := Kd.at_int HR0.out x9_4 p104 q104
                have hw104_0 := hx104_0
                cases e104
                replace hx104_0 := (HB.out.cell (World.block_lt_of_cell? w _ hx104_0)).trans hx104_0
                replace p104 := eq_true p104
                replace q104 := eq_true q104
                refine start_ (n := 12) (S := fun w' => w'.cell? (ad104.add (x9_4).toNat) = some (.int .i64 (rd l0 x9_4))) (ds := []) #[false,false,false,false,false,false,false,false,false,false,false,false] T16_ rfl rfl (((HB.out.cell (World.block_lt_of_cell? w _ hw104_0)).trans hw104_0)) (fun hHeld => ?_);refine with_tabW spec_TableOfSpectrum.tab18 spec_TableOfSpectrum.bits18 (fun HT_ HW_ => ?_)
                generalize wr.drew = w16 at BK101 HB hx104_0 hHeld ⊢
                refine pZ_ 0 (some 44) #[true,false,false,false,false,false,false,false,false,false,false,false] ?_
                refine pZ_ 1 (some 45) #[true,true,false,false,false,false,false,false,false,false,false,false] ?_
                refine pZ_ 2 (some 46) #[true,true,true,false,false,false,false,false,false,false,false,false] ?_
                refine pZ_ 3 (some 47) #[true,true,true,true,false,false,false,false,false,false,false,false] ?_
                refine pZ_ 5 (some 49) #[true,true,true,true,false,true,false,false,false,false,false,false] ?_
                refine pZ_ 6 (some 50) #[true,true,true,true,false,true,true,false,false,false,false,false] ?_
                refine pZ_ 7 (some 51) #[true,true,true,true,false,true,true,true,false,false,false,false] ?_
                refine take_ (i := 4) (N := some 48) (v := ?_) (a' := ?_) #[true,true,true,true,true,true,true,true,false,false,false,false] rfl rfl (take_ofW HT_.out HW_.out T16_) (fun _ _ _ h => h) (Or.inl ⟨by rfl,?_⟩) hHeld ?_ ?_
                rotate_left
                ·intro w' s0
                 go_simp
                 with_reducible rfl
                rotate_left
                ·simp only [Act.put,List.setIfInBounds_toArray,List.set_cons_zero,List.set_cons_succ,i64_w,i32_w]
                 rfl
                refine one_ (i := 8) (N := some 52) #[true,true,true,true,true,true,true,true,true,false,false,false] rfl rfl (one_of HT_.out T16_) T43_ (fun K hK => ?_)
                refine gZ_ Try.func35 #[.int .i64 (Go.bits .and .i64 x9_4 x7_3)] ?_
                with_reducible refine (spec_l12Sign.calls k4 (Go.bits .and .i64 x9_4 x7_3) t105 _ A15.out).mono ?_
                rintro e w' ⟨rfl,⟨nd,rfl⟩⟩
                refine ⟨_,rfl,?_⟩
                refine hK.out _ _ (((HB.out.cell (World.block_lt_of_cell? w _ hw104_0)).trans hw104_0)) (fun hHeld => ?_)
                clear hK K
                refine norm_ (a' := ?_) ?_ ?_
                rotate_left
                ·show Act.put _ (some 52) _ = _
                 simp only [Act.put,List.setIfInBounds_toArray,List.set_cons_zero,List.set_cons_succ,i64_w,i32_w]
                 rfl
                refine pZ_ 9 (some 53) #[true,true,true,true,true,true,true,true,true,true,false,false] ?_
                refine pZ_ 10 (some 54) #[true,true,true,true,true,true,true,true,true,true,true,false] ?_
                refine pZ_ 11 (some 8) #[true,true,true,true,true,true,true,true,true,true,true,true] ?_
                refine done_ (done_of HT_.out T16_) ?_
                try go_wp2
                go_roundg k4
                case measure => have := HK1.out;have := HK2.out;have := HK3.out;have := HK4.out;omega
                case rel => exact ⟨(wrap64 (x8_4 + (wrap64 ((rd l0 x9_4) * t105)))),(wrap64 (x9_4 + 1)),T6_,T6_,H',⟨by have := HK1.out;have := HK2.out;have := HK3.out;have := HK4.out;omega⟩,⟨by (with_reducible repeat (first | refine blk_drewN ?_ _ | refine blk_drew ?_ | refine blk_alloc ?_ _));exact BK101.out⟩,⟨by repeat (first | (with_reducible first | exact HB.out | apply below_alloc | apply pw_below_drewN | apply below_drew1 | refine below_set ?_ GE101.out) | exact HB.out)⟩⟩
               ·rw [if_neg c14] at H
                exact absurd H T42_
              ·rw [if_neg c13] at H
               have c13b0 : decide (x9_4 < (l0.length : Int)) = false := decide_eq_false c13
               clear c13
               by_cases c17 : x8_4 = (wrap64 (-(l0.length : Int)))
               ·rw [if_pos c17] at H
                have c17b0 : (x8_4 == (wrap64 (-(l0.length : Int)))) = true := beq_iff_eq.mpr c17
                have c17b1 : (x8_4 != (wrap64 (-(l0.length : Int)))) = false := bne_eq_false_iff_eq.mpr c17
                clear c17
                by_cases c18 : 0 ≤ x7_3
                ·rw [if_pos c18] at H
                 have c18b0 := eq_true c18
                 have c18b1 : decide (0 ≤ x7_3) = true := decide_eq_true c18
                 clear c18
                 obtain ⟨ji19,hji19⟩ : ∃ j_ : Int,(shl .i64 1 x7_3) = j_ := ⟨_,rfl⟩
                 replace H : (spec_TableOfSpectrum.l2 k4 l0 x5_2 (Go.bits .or .i64 x6_3 (ji19)) (wrap64 (x7_3 + 1))) = some (r1,r2,r3) := by first | (rw [hji19] at H;exact H) | (simp only [hji19] at H ⊢;exact H)
                 have hji19_ : (IntKind.i64.wrap (1 * 2 ^ min x7_3.toNat 64)) = ji19 := hji19
                 have hji19z : x7_3 ≤ 64 → (IntKind.i64.wrap (1 * 2 ^ x7_3.toNat)) = ji19 := shl_small hji19
                 have hji19u : (IntKind.i64.wrap (2 ^ min x7_3.toNat 64)) = ji19 := by have h_ := hji19_;rw [Int.one_mul] at h_;exact h_
                 have hji19v : x7_3 ≤ 64 → (IntKind.i64.wrap (2 ^ x7_3.toNat)) = ji19 := fun hle_ => by have h_ := hji19z hle_;rw [Int.one_mul] at h_;exact h_
                 have hji19y : (wrap64 (1 * 2 ^ min x7_3.toNat 64)) = ji19 := (i64_w _).symm.trans hji19_
                 have hji19x : x7_3 ≤ 64 → (wrap64 (1 * 2 ^ x7_3.toNat)) = ji19 := fun h_ => (i64_w _).symm.trans (hji19z h_)
                 have H' := aZ_ H
                 clear H
                 go_wp2
                 go_roundg k4
                 case measure => have := HK1.out;have := HK2.out;have := HK3.out;have := HK4.out;omega
                 case rel => exact ⟨(Go.bits .or .i64 x6_3 (ji19)),(wrap64 (x7_3 + 1)),(x102000_3),(x102001_3),(by first | rfl | (simp;done) | (simp only [← hji19] <;> (first | rfl | simp)) | (simp [*];done)),T6_,H',⟨by have := HK1.out;have := HK2.out;have := HK3.out;have := HK4.out;omega⟩,⟨by (with_reducible repeat (first | refine blk_drewN ?_ _ | refine blk_drew ?_ | refine blk_alloc ?_ _));exact BK101.out⟩,⟨by repeat (first | (with_reducible first | exact HB.out | apply below_alloc | apply pw_below_drewN | apply below_drew1 | refine below_set ?_ GE101.out) | exact HB.out)⟩⟩
                ·rw [if_neg c18] at H
                 exact absurd H T42_
               ·rw [if_neg c17] at H
                have c17b0 : (x8_4 == (wrap64 (-(l0.length : Int)))) = false := beq_eq_false_iff_ne.mpr c17
                have c17b1 : (x8_4 != (wrap64 (-(l0.length : Int)))) = true := bne_iff_ne.mpr c17
                by_cases c20 : x8_4 = (l0.length : Int)
                ·rw [if_pos c20] at H
                 have c20b0 : (x8_4 == (l0.length : Int)) = true := beq_iff_eq.mpr c20
                 have c20b1 : (x8_4 != (l0.length : Int)) = false := bne_eq_false_iff_eq.mpr c20
                 clear c20
                 have H' := aZ_ H
                 clear H
                 go_wp2
                 go_roundg k4
                 case measure => have := HK1.out;have := HK2.out;have := HK3.out;have := HK4.out;omega
                 case rel => exact ⟨(x6_3),(wrap64 (x7_3 + 1)),(x102000_3),(x102001_3),T6_,T6_,H',⟨by have := HK1.out;have := HK2.out;have := HK3.out;have := HK4.out;omega⟩,⟨by (with_reducible repeat (first | refine blk_drewN ?_ _ | refine blk_drew ?_ | refine blk_alloc ?_ _));exact BK101.out⟩,⟨by repeat (first | (with_reducible first | exact HB.out | apply below_alloc | apply pw_below_drewN | apply below_drew1 | refine below_set ?_ GE101.out) | exact HB.out)⟩⟩
                ·rw [if_neg c20] at H
                 have c20b0 : (x8_4 == (l0.length : Int)) = false := beq_eq_false_iff_ne.mpr c20
                 have c20b1 : (x8_4 != (l0.length : Int)) = true := bne_iff_ne.mpr c20
                 simp only [Option.some.injEq,Prod.mk.injEq] at H
                 obtain ⟨rfl,rfl,rfl⟩ := H
                 have hcz21_0 : wr.cell? ⟨gb101,0,none⟩ = some (.int .i64 x102000_3) := (blk_cell BK101.out 0).trans rfl
                 have hcz21_1 : wr.cell? ⟨gb101,1,none⟩ = some (.int .i64 x102001_3) := (blk_cell BK101.out 1).trans rfl
                 have hfz21_0 := blk_frozen BK101.out 0
                 have hfz21_1 := blk_frozen BK101.out 1
                 go_wp2
                 refine bodyPost_ret (results_ct rfl _ _ gb101 25 #[.int .i64 0,.int .i64 0] (0,0) _ rfl (by (with_reducible repeat (first | refine blk_drewN ?_ _ | refine blk_drew ?_ | refine blk_alloc ?_ _));refine blk_put (cs := #[.int .i64 0,.int .i64 x102001_3]) ?_ 1 _ rfl;(with_reducible repeat (first | refine blk_drewN ?_ _ | refine blk_drew ?_ | refine blk_alloc ?_ _));refine blk_put (cs := #[.int .i64 x102000_3,.int .i64 x102001_3]) ?_ 0 _ rfl;(with_reducible repeat (first | refine blk_drewN ?_ _ | refine blk_drew ?_ | refine blk_alloc ?_ _));exact BK101.out) Try.underlying25 rfl T16_) rfl ?_
                 exact ⟨by first | rfl | (simp [errW_none,errW_some] <;> rfl) | (simp only [← hji10];first | rfl | (simp [errW_none,errW_some] <;> rfl)) | (simp [*,errW_none,errW_some] <;> rfl),by repeat (first | (with_reducible first | exact HB.out | apply below_alloc | apply pw_below_drewN | apply below_drew1 | refine below_set ?_ GE101.out) | exact HB.out)⟩
           ·rw [if_neg c12] at H
            have c12b0 : decide (x7_3 < (l0.length : Int)) = false := decide_eq_false c12
            clear c12
            simp only [Option.some.injEq,Prod.mk.injEq] at H
            obtain ⟨rfl,rfl,rfl⟩ := H
            have hcz22_0 : wr.cell? ⟨gb101,0,none⟩ = some (.int .i64 x102000_3) := (blk_cell BK101.out 0).trans rfl
            have hcz22_1 : wr.cell? ⟨gb101,1,none⟩ = some (.int .i64 x102001_3) := (blk_cell BK101.out 1).trans rfl
            have hfz22_0 := blk_frozen BK101.out 0
            have hfz22_1 := blk_frozen BK101.out 1
            go_wp2
            refine bodyPost_ret (results_ct rfl _ _ gb101 25 #[.int .i64 x5_2,.int .i64 x6_3] (0,0) _ rfl (by (with_reducible repeat (first | refine blk_drewN ?_ _ | refine blk_drew ?_ | refine blk_alloc ?_ _));refine blk_put (cs := #[.int .i64 x5_2,.int .i64 x102001_3]) ?_ 1 _ rfl;(with_reducible repeat (first | refine blk_drewN ?_ _ | refine blk_drew ?_ | refine blk_alloc ?_ _));refine blk_put (cs := #[.int .i64 x102000_3,.int .i64 x102001_3]) ?_ 0 _ rfl;(with_reducible repeat (first | refine blk_drewN ?_ _ | refine blk_drew ?_ | refine blk_alloc ?_ _));exact BK101.out) Try.underlying25 rfl T16_) rfl ?_
            exact ⟨by first | rfl | (simp [errW_none,errW_some] <;> rfl) | (simp only [← hji10];first | rfl | (simp [errW_none,errW_some] <;> rfl)) | (simp [*,errW_none,errW_some] <;> rfl),by repeat (first | (with_reducible first | exact HB.out | apply below_alloc | apply pw_below_drewN | apply below_drew1 | refine below_set ?_ GE101.out) | exact HB.out)⟩
        ·rw [if_neg c11] at H
         have c11b0 : ((l0.length : Int) == (ji10)) = false := beq_eq_false_iff_ne.mpr c11
         have c11b1 : ((l0.length : Int) != (ji10)) = true := bne_iff_ne.mpr c11
         have H' := aZ_ H
         clear H
         go_wp2
         go_roundg k2
         case measure => have := HK1.out;have := HK2.out;omega
         case rel => exact ⟨(wrap64 (x5_2 + 1)),(x102000_2),(x102001_2),T6_,H',⟨by have := HK1.out;have := HK2.out;omega⟩,⟨by (with_reducible repeat (first | refine blk_drewN ?_ _ | refine blk_drew ?_ | refine blk_alloc ?_ _));exact BK101.out⟩,⟨by repeat (first | (with_reducible first | exact HB.out | apply below_alloc | apply pw_below_drewN | apply below_drew1 | refine below_set ?_ GE101.out) | exact HB.out)⟩⟩
       ·rw [if_neg c9] at H
        exact absurd H T42_
      ·rw [if_neg c8] at H
       have c8b0 : decide (x5_2 ≤ 5) = false := decide_eq_false c8
       clear c8
       simp only [Option.some.injEq,Prod.mk.injEq] at H
       obtain ⟨rfl,rfl,rfl⟩ := H
       have hcz23_0 : wr.cell? ⟨gb101,0,none⟩ = some (.int .i64 x102000_2) := (blk_cell BK101.out 0).trans rfl
       have hcz23_1 : wr.cell? ⟨gb101,1,none⟩ = some (.int .i64 x102001_2) := (blk_cell BK101.out 1).trans rfl
       have hfz23_0 := blk_frozen BK101.out 0
       have hfz23_1 := blk_frozen BK101.out 1
       go_wp2
       refine bodyPost_ret (results_ct rfl _ _ gb101 25 #[.int .i64 0,.int .i64 0] (0,0) _ rfl T23_ Try.underlying25 rfl T16_) rfl ?_
       exact ⟨by first | rfl | (simp [errW_none,errW_some] <;> rfl) | (simp [*,errW_none,errW_some] <;> rfl),by repeat (first | (with_reducible first | exact HB.out | apply below_alloc | apply pw_below_drewN | apply below_drew1 | refine below_set ?_ GE101.out) | exact HB.out)⟩
def spec_l12Bent.l0 : Nat → Int → Int → List Int → Int → Int → Option (Int × Int × Int × Int)
 | 0,_,_,_,_,_ => none
 | k + 1,x3,x4,x1000,x1001,x1002 => if x4 < 16 then (if 0 ≤ x4 then (spec_l12Bent.l0 k (Go.bits .or .i64 x3 (shl .i64 (Go.bits .xor .i64 (Go.bits .and .i64 (Go.bits .and .i64 x4 1) (x4 / 2)) (Go.bits .and .i64 (Go.bits .and .i64 (x4 / 4) 1) (x4 / 8))) x4)) (wrap64 (x4 + 1)) x1000 x1001 x1002) else (none)) else ((spec_l1Below.f x1000 x1001 x1002 16).bind fun bt115 => ((spec_l3Shift.f k 4 x3 bt115.1).bind fun bt118 => (some (bt118.1,bt118.2,bt115.2.1,bt115.2.2))))
def spec_l12Bent.f (k : Nat) (s0_0 : List Int) (s0_1 : Int) (s0_2 : Int) : Option (Int × Int × Int × Int) := (spec_l1Below.f s0_0 s0_1 s0_2 4).bind fun bt102 => (if bt102.1 = 0 then ((spec_l2Any.f k s0_0 bt102.2.1 bt102.2.2).bind fun bt105 => (some (bt105.1,bt105.2.1,bt105.2.2.1,bt105.2.2.2))) else (if bt102.1 = 1 then ((spec_l1PickInt.f s0_0 bt102.2.1 bt102.2.2 (([8,1,7,14,6] : List Int))).bind fun bt112 => (some (2,bt112.1,bt112.2.1,bt112.2.2))) else (spec_l12Bent.l0 k 0 0 s0_0 bt102.2.1 bt102.2.2)))
set_option maxHeartbeats 8000000 in
set_option maxRecDepth 100000 in
theorem spec_l12Bent.calls (k : Nat) (g : Nat) (s0_0 : List Int) (s0_1 : Int) (s0_2 : Int) (r1 : Int) (r2 : Int) (r3 : Int) (r4 : Int) (w0 w : World) (hI : IsS58 w0 w g s0_0 s0_1 s0_2) (hB : Below w0.heap.size w0 w) (h : spec_l12Bent.f k s0_0 s0_1 s0_2 = some (r1,r2,r3,r4)) :
  Calls Try.prog 49 #[.pointer (some ⟨g,0,none⟩)] w fun e w' => e = .returned (.agg #[.int .i64 r1,.int .i64 r2]) ∧ IsS58 w0 w' g s0_0 r3 r4 ∧ Below w0.heap.size w0 w' ∧ KeepBut w w' g none := by
 have hu25 := Try.underlying25
 have HI0 := aZ_ hI
 have HK := aZ_ (KeepBut.refl w g none)
 have HL := aZ_ hB.size
 clear hI
 have HW0 := aZ_ hB.size
 have HB := aZ_ hB
 clear hB
 have H : ((spec_l1Below.f s0_0 s0_1 s0_2 4).bind fun bt102 => (if bt102.1 = 0 then ((spec_l2Any.f k s0_0 bt102.2.1 bt102.2.2).bind fun bt105 => (some (bt105.1,bt105.2.1,bt105.2.2.1,bt105.2.2.2))) else (if bt102.1 = 1 then ((spec_l1PickInt.f s0_0 bt102.2.1 bt102.2.2 (([8,1,7,14,6] : List Int))).bind fun bt112 => (some (2,bt112.1,bt112.2.1,bt112.2.2))) else (spec_l12Bent.l0 k 0 0 s0_0 bt102.2.1 bt102.2.2)))) = some (r1,r2,r3,r4) := h
 clear h
 replace H := Option.bind_eq_some_iff.mp H
 obtain ⟨⟨t102,t103,t104⟩,A20,H⟩ := H
 replace H : (if t102 = 0 then ((spec_l2Any.f k s0_0 t103 t104).bind fun bt105 => (some (bt105.1,bt105.2.1,bt105.2.2.1,bt105.2.2.2))) else (if t102 = 1 then ((spec_l1PickInt.f s0_0 t103 t104 (([8,1,7,14,6] : List Int))).bind fun bt112 => (some (2,bt112.1,bt112.2.1,bt112.2.2))) else (spec_l12Bent.l0 k 0 0 s0_0 t103 t104))) = some (r1,r2,r3,r4) := H
 have A2 := aZ_ A20
 clear A20
 by_cases c3 : t102 = 0
 ·rw [if_pos c3] at H
  have c3b0 : (t102 == 0) = true := beq_iff_eq.mpr c3
  have c3b1 : (t102 != 0) = false := bne_eq_false_iff_eq.mpr c3
  clear c3
  replace H := Option.bind_eq_some_iff.mp H
  obtain ⟨⟨t105,t106,t107,t108⟩,A40,H⟩ := H
  replace H : (some (t105,t106,t107,t108)) = some (r1,r2,r3,r4) := H
  have A4 := aZ_ A40
  clear A40
  simp only [Option.some.injEq,Prod.mk.injEq] at H
  obtain ⟨rfl,rfl,rfl,rfl⟩ := H
  go_enter Try.func49,Try.ntmps49
  go_wp2_with (first | ((with_reducible refine gate_dst (N := 2) rfl ?_);refine box_event ?hg (N := 2) ?hd (cs := #[.int .i64 0,.int .i64 0]) (t := 25) ?hr ?_;(case hd => rfl);(case hg => rfl);(case hr => first | (go_simp;done) | (go_simp;rfl));intro gb101 hg w5 hbox hb;have n0_ := aZ_ (IsS58.below T19_ hb);have n1_ := aZ_ (KeepBut.trans T15_ (KeepBut.of_below hb g none) (.inl rfl));have n2_ := aZ_ (below_step T18_ hb);have n3_ := aZ_ (hbox);have n4_ := aZ_ ((T8_ : w.heap.size ≤ gb101));have n5_ := aZ_ ((Nat.le_trans HW0.out (T8_ : w.heap.size ≤ gb101) : w0.heap.size ≤ gb101));have n6_ := aZ_ ((T13_ : g ≠ gb101));have n7_ := aZ_ ((T14_ : gb101 ≠ g));clear HI0;clear HK;clear HB;have HI0 := n0_;have HK := n1_;have HB := n2_;have BK101 := n3_;have GW101 := n4_;have GE101 := n5_;have NB0_101 := n6_;have NB101_0 := n7_;clear n0_ n1_ n2_ n3_ n4_ n5_ n6_ n7_;clear hb hbox hg) | ((with_reducible refine gate_callee (f := 47) rfl ?_);refine goesL_ (some 8) rfl rfl Try.func47 T16_ rfl #[.pointer (some ⟨g,0,none⟩),.int .i64 4] rfl T3_ ?_;(with_reducible refine (spec_l1Below.calls g s0_0 s0_1 s0_2 4 t102 t103 t104 w0 _ ?side1 ?side2 A2.out).mono ?_);(case side1 => repeat (first | (with_reducible first | exact HI0.out | apply IsS58.alloc | apply IsS58.drewN | apply IsS58.drew | apply IsS58.set_1 | apply IsS58.set_2 | refine IsS58.far ?_ NB0_101.out _) | exact HI0.out));(case side2 => repeat (first | (with_reducible first | exact HB.out | apply below_alloc | apply pw_below_drewN | apply below_drew1 | refine below_set ?_ (IsS58.ge HI0.out) | refine below_set ?_ GE101.out) | exact HB.out));rintro e w6 ⟨rfl,hi,hb,hk⟩;refine ⟨_,rfl,?_⟩;have n0_ := aZ_ (KeepBut.blk hk (g' := gb101) (o := .cells #[.int .i64 0,.int .i64 0] 25 (0,0)) T2_ NB101_0.out T42_);have n1_ := aZ_ (KeepBut.trans T5_ hk (.inl rfl));have n2_ := aZ_ (hb);have n3_ := aZ_ (hi);clear BK101;clear HK;clear HB;clear HI0;have BK101 := n0_;have HK := n1_;have HB := n2_;have HI0 := n3_;clear n0_ n1_ n2_ n3_;(try clear hb);(try clear hb2);(try clear hk);(try clear hi)) | ((with_reducible refine gate_callee (f := 30) rfl ?_);refine goesL_ (some 12) rfl rfl Try.func30 T16_ rfl #[.pointer (some ⟨g,0,none⟩)] rfl T3_ ?_;(with_reducible refine (spec_l2Any.calls k g s0_0 t103 t104 t105 t106 t107 t108 w0 _ ?side1 ?side2 A4.out).mono ?_);(case side1 => repeat (first | (with_reducible first | exact HI0.out | apply IsS58.alloc | apply IsS58.drewN | apply IsS58.drew | apply IsS58.set_1 | apply IsS58.set_2 | refine IsS58.far ?_ NB0_101.out _) | exact HI0.out));(case side2 => repeat (first | (with_reducible first | exact HB.out | apply below_alloc | apply pw_below_drewN | apply below_drew1 | refine below_set ?_ (IsS58.ge HI0.out) | refine below_set ?_ GE101.out) | exact HB.out));rintro e w7 ⟨rfl,hi,hb,hk⟩;refine ⟨_,rfl,?_⟩;have n0_ := aZ_ (KeepBut.blk hk (g' := gb101) (o := .cells #[.int .i64 0,.int .i64 0] 25 (0,0)) T2_ NB101_0.out T42_);have n1_ := aZ_ (KeepBut.trans T5_ hk (.inl rfl));have n2_ := aZ_ (hb);have n3_ := aZ_ (hi);clear BK101;clear HK;clear HB;clear HI0;have BK101 := n0_;have HK := n1_;have HB := n2_;have HI0 := n3_;clear n0_ n1_ n2_ n3_;(try clear hb);(try clear hb2);(try clear hk);(try clear hi);have hnb8 := NB101_0.out;have hnc8 := NB0_101.out;have hcz9_0 : w7.cell? ⟨gb101,0,none⟩ = some (.int .i64 0) := (blk_cell BK101.out 0).trans rfl;have hcz9_1 : w7.cell? ⟨gb101,1,none⟩ = some (.int .i64 0) := (blk_cell BK101.out 1).trans rfl;have hfz9_0 := blk_frozen BK101.out 0;have hfz9_1 := blk_frozen BK101.out 1))
  refine bodyPost_ret (results_cell_row rfl _ _ gb101 25 #[.int .i64 t105,.int .i64 t106] (0,0) _ rfl T28_ Try.underlying25 rfl T16_) rfl ?_
  exact ⟨by first | rfl | (simp [errW_none,errW_some] <;> rfl) | (simp [*,errW_none,errW_some] <;> rfl),by repeat (first | (with_reducible first | exact HI0.out | apply IsS58.alloc | apply IsS58.drewN | apply IsS58.drew | apply IsS58.set_1 | apply IsS58.set_2 | refine IsS58.far ?_ NB0_101.out _) | exact HI0.out),by repeat (first | (with_reducible first | exact HB.out | apply below_alloc | apply pw_below_drewN | apply below_drew1 | refine below_set ?_ (IsS58.ge HI0.out) | refine below_set ?_ GE101.out) | exact HB.out),by repeat (first | (with_reducible first | exact HK.out | apply KeepBut.set_ | apply keep_drewN | apply keep_drew | apply keep_alloc | refine keep_far ?_ GW101.out _) | exact HK.out)⟩
 ·rw [if_neg c3] at H
  have c3b0 : (t102 == 0) = false := beq_eq_false_iff_ne.mpr c3
  have c3b1 : (t102 != 0) = true := bne_iff_ne.mpr c3
  by_cases c10 : t102 = 1
  ·rw [if_pos c10] at H
   have c10b0 : (t102 == 1) = true := beq_iff_eq.mpr c10
   have c10b1 : (t102 != 1) = false := bne_eq_false_iff_eq.mpr c10
   clear c10
   obtain ⟨y109,hy109⟩ : ∃ y_ : List Int,y_ = (([8,1,7,14,6] : List Int)) := ⟨_,rfl⟩
   replace H : ((spec_l1PickInt.f s0_0 t103 t104 y109).bind fun bt112 => (some (2,bt112.1,bt112.2.1,bt112.2.2))) = some (r1,r2,r3,r4) := by first | (rw [hy109];with_reducible exact H) | (have H2_ := (Option.bind_some _ _).symm.trans H;rw [hy109];with_reducible exact H2_) | (have H2_ := (Option.bind_some _ _).symm.trans H;with_reducible exact H2_) | with_reducible exact H | (rw [hy109];exact H) | exact H
   have Ny109 := aZ_ hy109
   clear hy109
   replace H := Option.bind_eq_some_iff.mp H
   obtain ⟨⟨t112,t113,t114⟩,A110,H⟩ := H
   replace H : (some (2,t112,t113,t114)) = some (r1,r2,r3,r4) := H
   have A11 := aZ_ A110
   clear A110
   simp only [Option.some.injEq,Prod.mk.injEq] at H
   obtain ⟨rfl,rfl,rfl,rfl⟩ := H
   go_enter Try.func49,Try.ntmps49
   go_wp2_with (first | ((with_reducible refine gate_dst (N := 2) rfl ?_);refine box_event ?hg (N := 2) ?hd (cs := #[.int .i64 0,.int .i64 0]) (t := 25) ?hr ?_;(case hd => rfl);(case hg => rfl);(case hr => first | (go_simp;done) | (go_simp;rfl));intro gb101 hg w12 hbox hb;have n0_ := aZ_ (IsS58.below T19_ hb);have n1_ := aZ_ (KeepBut.trans T15_ (KeepBut.of_below hb g none) (.inl rfl));have n2_ := aZ_ (below_step T18_ hb);have n3_ := aZ_ (hbox);have n4_ := aZ_ ((T8_ : w.heap.size ≤ gb101));have n5_ := aZ_ ((Nat.le_trans HW0.out (T8_ : w.heap.size ≤ gb101) : w0.heap.size ≤ gb101));have n6_ := aZ_ ((T13_ : g ≠ gb101));have n7_ := aZ_ ((T14_ : gb101 ≠ g));clear HI0;clear HK;clear HB;have HI0 := n0_;have HK := n1_;have HB := n2_;have BK101 := n3_;have GW101 := n4_;have GE101 := n5_;have NB0_101 := n6_;have NB101_0 := n7_;clear n0_ n1_ n2_ n3_ n4_ n5_ n6_ n7_;clear hb hbox hg) | ((with_reducible refine gate_callee (f := 47) rfl ?_);refine goesL_ (some 8) rfl rfl Try.func47 T16_ rfl #[.pointer (some ⟨g,0,none⟩),.int .i64 4] rfl T3_ ?_;(with_reducible refine (spec_l1Below.calls g s0_0 s0_1 s0_2 4 t102 t103 t104 w0 _ ?side1 ?side2 A2.out).mono ?_);(case side1 => repeat (first | (with_reducible first | exact HI0.out | apply IsS58.alloc | apply IsS58.drewN | apply IsS58.drew | apply IsS58.set_1 | apply IsS58.set_2 | refine IsS58.far ?_ NB0_101.out _) | exact HI0.out));(case side2 => repeat (first | (with_reducible first | exact HB.out | apply below_alloc | apply pw_below_drewN | apply below_drew1 | refine below_set ?_ (IsS58.ge HI0.out) | refine below_set ?_ GE101.out) | exact HB.out));rintro e w13 ⟨rfl,hi,hb,hk⟩;refine ⟨_,rfl,?_⟩;have n0_ := aZ_ (KeepBut.blk hk (g' := gb101) (o := .cells #[.int .i64 0,.int .i64 0] 25 (0,0)) T2_ NB101_0.out T42_);have n1_ := aZ_ (KeepBut.trans T5_ hk (.inl rfl));have n2_ := aZ_ (hb);have n3_ := aZ_ (hi);clear BK101;clear HK;clear HB;clear HI0;have BK101 := n0_;have HK := n1_;have HB := n2_;have HI0 := n3_;clear n0_ n1_ n2_ n3_;(try clear hb);(try clear hb2);(try clear hk);(try clear hi)) | ((with_reducible refine gate_dst (N := 16) rfl ?_);refine Kd.R_lit (Kd.int .i64) _ 3 ?hg (N := 16) ?hd (xs := ([8,1,7,14,6] : List Int)) (inner := [.int .i64 8,.int .i64 1,.int .i64 7,.int .i64 14,.int .i64 6]) (ok := fun _ => True) (okp := fun _ => True) ?hr ?hp (fun _ hk => hk) trivial (Below.refl _ _) (Nat.le_refl _) T42_ ?_;(case hd => rfl);(case hg => rfl);(case hr => first | (go_simp;done) | (go_simp;rfl));(case hp => exact (Reps.one (show Kd.M (Kd.int .i64) _ _ _ 8 [.int .i64 8] from rfl) (Reps.one (show Kd.M (Kd.int .i64) _ _ _ 1 [.int .i64 1] from rfl) (Reps.one (show Kd.M (Kd.int .i64) _ _ _ 7 [.int .i64 7] from rfl) (Reps.one (show Kd.M (Kd.int .i64) _ _ _ 14 [.int .i64 14] from rfl) (Reps.one (show Kd.M (Kd.int .i64) _ _ _ 6 [.int .i64 6] from rfl) (Reps.none _ _)))))));intro v110 w14 ho15 hb hg_ hnew_;clear hg_ hnew_;(first | rw [← Ny109.out] at ho15 | (simp only [Int.reduceToNat] at ho15;rw [← Ny109.out] at ho15));have n0_ := aZ_ (Kd.R_lower ho15 (keep_size (w := w) (g := g) (row := none) T5_));have n1_ := aZ_ (IsS58.below T11_ hb);have n2_ := aZ_ (blk_below (g := gb101) (o := .cells #[.int .i64 0,.int .i64 0] 25 (0,0)) T2_ hb);have n3_ := aZ_ (KeepBut.trans T5_ (KeepBut.of_below hb g none) (.inl rfl));have n4_ := aZ_ (below_step T12_ hb);clear HI0;clear BK101;clear HK;clear HB;have HO111 := n0_;have HI0 := n1_;have BK101 := n2_;have HK := n3_;have HB := n4_;clear n0_ n1_ n2_ n3_ n4_;clear hb ho15;obtain ⟨Ao16,co16,eo16⟩ := Kd.R_slice HO111.out;subst eo16) | ((with_reducible refine gate_callee (f := 46) rfl ?_);refine goesL_ (some 17) rfl rfl Try.func46 T16_ rfl #[.pointer (some ⟨g,0,none⟩),.slice Ao16 y109.length co16] rfl T3_ ?_;(with_reducible refine (spec_l1PickInt.calls g s0_0 t103 t104 _ _ y109 t112 t113 t114 w0 _ ?side1 ?side2 ?side3 ?side4 ?side5 A11.out).mono ?_);(case side1 => repeat (first | (with_reducible first | exact HI0.out | apply IsS58.alloc | apply IsS58.drewN | apply IsS58.drew | apply IsS58.set_1 | apply IsS58.set_2 | refine IsS58.far ?_ NB0_101.out _) | exact HI0.out));(case side2 => repeat (first | (with_reducible first | exact HB.out | apply below_alloc | apply pw_below_drewN | apply below_drew1 | refine below_set ?_ (IsS58.ge HI0.out) | refine below_set ?_ GE101.out) | exact HB.out));(case side3 => repeat (first | exact (Kd.R_reads' HO111.out).2.2 | (with_reducible refine Kd.C_alloc ?_ _) | (with_reducible refine Kd.C_drewN ?_ _) | (with_reducible refine Kd.C_drew ?_)));(case side4 => exact (Kd.R_reads' HO111.out).2.1);(case side5 => exact far_slice (IsS58.own_ne HI0.out HO111.out T43_));rintro e w17 ⟨rfl,hi,hb,hk⟩;refine ⟨_,rfl,?_⟩;have n0_ := aZ_ (KeepBut.blk hk (g' := gb101) (o := .cells #[.int .i64 0,.int .i64 0] 25 (0,0)) T2_ NB101_0.out T42_);have n1_ := aZ_ (Kd.R_mono (Kd.R_keep (IsS58.apart (show IsS58 w0 _ g s0_0 t103 t104 from by repeat (first | (with_reducible first | exact HI0.out | apply IsS58.alloc | apply IsS58.drewN | apply IsS58.drew | apply IsS58.set_1 | apply IsS58.set_2 | refine IsS58.far ?_ NB0_101.out _) | exact HI0.out)) (by (with_reducible repeat (first | apply Kd.R_alloc | apply Kd.R_drewN | apply Kd.R_drew));exact HO111.out) T43_) hk (fun _ h => h.2)) (fun _ h => h.1));have n2_ := aZ_ (KeepBut.trans T5_ hk (.inl rfl));have n3_ := aZ_ (hb);have n4_ := aZ_ (hi);clear BK101;clear HO111;clear HK;clear HB;clear HI0;have BK101 := n0_;have HO111 := n1_;have HK := n2_;have HB := n3_;have HI0 := n4_;clear n0_ n1_ n2_ n3_ n4_;(try clear hb);(try clear hb2);(try clear hk);(try clear hi);have hnb18 := NB101_0.out;have hnc18 := NB0_101.out;have hcz19_0 : w17.cell? ⟨gb101,0,none⟩ = some (.int .i64 0) := (blk_cell BK101.out 0).trans rfl;have hcz19_1 : w17.cell? ⟨gb101,1,none⟩ = some (.int .i64 0) := (blk_cell BK101.out 1).trans rfl;have hfz19_0 := blk_frozen BK101.out 0;have hfz19_1 := blk_frozen BK101.out 1))
   refine bodyPost_ret (results_cell_row rfl _ _ gb101 25 #[.int .i64 2,.int .i64 t112] (0,0) _ rfl (by (with_reducible repeat (first | refine blk_drewN ?_ _ | refine blk_drew ?_ | refine blk_alloc ?_ _));refine blk_put (cs := #[.int .i64 2,.int .i64 0]) ?_ 1 _ rfl;(with_reducible repeat (first | refine blk_drewN ?_ _ | refine blk_drew ?_ | refine blk_alloc ?_ _));refine blk_put (cs := #[.int .i64 0,.int .i64 0]) ?_ 0 _ rfl;(with_reducible repeat (first | refine blk_drewN ?_ _ | refine blk_drew ?_ | refine blk_alloc ?_ _));exact BK101.out) Try.underlying25 rfl T16_) rfl ?_
   exact ⟨by first | rfl | (simp [errW_none,errW_some] <;> rfl) | (simp [*,errW_none,errW_some] <;> rfl),by repeat (first | (with_reducible first | exact HI0.out | apply IsS58.alloc | apply IsS58.drewN | apply IsS58.drew | apply IsS58.set_1 | apply IsS58.set_2 | refine IsS58.far ?_ NB0_101.out _) | exact HI0.out),by repeat (first | (with_reducible first | exact HB.out | apply below_alloc | apply pw_below_drewN | apply below_drew1 | refine below_set ?_ (IsS58.ge HI0.out) | refine below_set ?_ GE101.out) | exact HB.out),by repeat (first | (with_reducible first | exact HK.out | apply KeepBut.set_ | apply keep_drewN | apply keep_drew | apply keep_alloc | refine keep_far ?_ GW101.out _) | exact HK.out)⟩
  ·rw [if_neg c10] at H
   have c10b0 : (t102 == 1) = false := beq_eq_false_iff_ne.mpr c10
   have c10b1 : (t102 != 1) = true := bne_iff_ne.mpr c10
   have H' := aZ_ H
   clear H
   go_enter Try.func49,Try.ntmps49
   go_wp2_with (first | ((with_reducible refine gate_dst (N := 2) rfl ?_);refine box_event ?hg (N := 2) ?hd (cs := #[.int .i64 0,.int .i64 0]) (t := 25) ?hr ?_;(case hd => rfl);(case hg => rfl);(case hr => first | (go_simp;done) | (go_simp;rfl));intro gb101 hg w20 hbox hb;have n0_ := aZ_ (IsS58.below T19_ hb);have n1_ := aZ_ (KeepBut.trans T15_ (KeepBut.of_below hb g none) (.inl rfl));have n2_ := aZ_ (below_step T18_ hb);have n3_ := aZ_ (hbox);have n4_ := aZ_ ((T8_ : w.heap.size ≤ gb101));have n5_ := aZ_ ((Nat.le_trans HW0.out (T8_ : w.heap.size ≤ gb101) : w0.heap.size ≤ gb101));have n6_ := aZ_ ((T13_ : g ≠ gb101));have n7_ := aZ_ ((T14_ : gb101 ≠ g));clear HI0;clear HK;clear HB;have HI0 := n0_;have HK := n1_;have HB := n2_;have BK101 := n3_;have GW101 := n4_;have GE101 := n5_;have NB0_101 := n6_;have NB101_0 := n7_;clear n0_ n1_ n2_ n3_ n4_ n5_ n6_ n7_;clear hb hbox hg) | ((with_reducible refine gate_callee (f := 47) rfl ?_);refine goesL_ (some 8) rfl rfl Try.func47 T16_ rfl #[.pointer (some ⟨g,0,none⟩),.int .i64 4] rfl T3_ ?_;(with_reducible refine (spec_l1Below.calls g s0_0 s0_1 s0_2 4 t102 t103 t104 w0 _ ?side1 ?side2 A2.out).mono ?_);(case side1 => repeat (first | (with_reducible first | exact HI0.out | apply IsS58.alloc | apply IsS58.drewN | apply IsS58.drew | apply IsS58.set_1 | apply IsS58.set_2 | refine IsS58.far ?_ NB0_101.out _) | exact HI0.out));(case side2 => repeat (first | (with_reducible first | exact HB.out | apply below_alloc | apply pw_below_drewN | apply below_drew1 | refine below_set ?_ (IsS58.ge HI0.out) | refine below_set ?_ GE101.out) | exact HB.out));rintro e w21 ⟨rfl,hi,hb,hk⟩;refine ⟨_,rfl,?_⟩;have n0_ := aZ_ (KeepBut.blk hk (g' := gb101) (o := .cells #[.int .i64 0,.int .i64 0] 25 (0,0)) T2_ NB101_0.out T42_);have n1_ := aZ_ (KeepBut.trans T5_ hk (.inl rfl));have n2_ := aZ_ (hb);have n3_ := aZ_ (hi);clear BK101;clear HK;clear HB;clear HI0;have BK101 := n0_;have HK := n1_;have HB := n2_;have HI0 := n3_;clear n0_ n1_ n2_ n3_;(try clear hb);(try clear hb2);(try clear hk);(try clear hi)))
   go_loopg [3,4] k (fun kq v3 v4 w' => ∃ (x3_1 : Int) (x4_1 : Int),v3 = .int .i64 x3_1 ∧ v4 = .int .i64 x4_1 ∧ Aside0 (spec_l12Bent.l0 kq x3_1 x4_1 s0_0 t103 t104 = some (r1,r2,r3,r4)) ∧ Aside0 (kq ≤ k) ∧ Aside0 (w'.heap[gb101]? = some (.cells #[.int .i64 0,.int .i64 0] 25 (0,0))) ∧ Aside0 (IsS58 w0 w' g s0_0 t103 t104) ∧ Aside0 (KeepBut w w' g none) ∧ Aside0 (Below w0.heap.size w0 w'))
   case atStart => exact ⟨(0),(0),T6_,T6_,H',⟨Nat.le_refl _⟩,⟨by (with_reducible repeat (first | refine blk_drewN ?_ _ | refine blk_drew ?_ | refine blk_alloc ?_ _));exact BK101.out⟩,⟨by repeat (first | (with_reducible first | exact HI0.out | apply IsS58.alloc | apply IsS58.drewN | apply IsS58.drew | apply IsS58.set_1 | apply IsS58.set_2 | refine IsS58.far ?_ NB0_101.out _) | exact HI0.out)⟩,⟨by repeat (first | (with_reducible first | exact HK.out | apply KeepBut.set_ | apply keep_drewN | apply keep_drew | apply keep_alloc | refine keep_far ?_ GW101.out _) | exact HK.out)⟩,⟨by repeat (first | (with_reducible first | exact HB.out | apply below_alloc | apply pw_below_drewN | apply below_drew1 | refine below_set ?_ (IsS58.ge HI0.out) | refine below_set ?_ GE101.out) | exact HB.out)⟩⟩
   case round =>
    clear H'
    try clear c1
    try clear p2
    try clear c3
    try clear c3b0
    try clear c3b1
    try clear c4
    try clear c8
    try clear c10
    try clear c10b0
    try clear c10b1
    try clear c18
    try clear hcz19_0
    try clear hcz19_1
    try clear hcz9_0
    try clear hcz9_1
    try clear hfz19_0
    try clear hfz19_1
    try clear hfz9_0
    try clear hfz9_1
    obtain ⟨x3_1,x4_1,rfl,rfl,HA,HK1,BK101,HI0,HK,HB⟩ := hrel
    cases gk with
    | zero => exact absurd HA.out (by simp [spec_l12Bent.l0])
    | succ k1 =>
     have H := HA.out
     clear HA
     simp only [spec_l12Bent.l0] at H
     by_cases c22 : x4_1 < 16
     ·rw [if_pos c22] at H
      have c22b0 : decide (x4_1 < 16) = true := decide_eq_true c22
      clear c22
      by_cases c23 : 0 ≤ x4_1
      ·rw [if_pos c23] at H
       have c23b0 := eq_true c23
       have c23b1 : decide (0 ≤ x4_1) = true := decide_eq_true c23
       clear c23
       obtain ⟨ji24,hji24⟩ : ∃ j_ : Int,(shl .i64 (Go.bits .xor .i64 (Go.bits .and .i64 (Go.bits .and .i64 x4_1 1) (x4_1 / 2)) (Go.bits .and .i64 (Go.bits .and .i64 (x4_1 / 4) 1) (x4_1 / 8))) x4_1) = j_ := ⟨_,rfl⟩
       replace H : (spec_l12Bent.l0 k1 (Go.bits .or .i64 x3_1 (ji24)) (wrap64 (x4_1 + 1)) s0_0 t103 t104) = some (r1,r2,r3,r4) := by first | (rw [hji24] at H;exact H) | (simp only [hji24] at H ⊢;exact H)
       have hji24_ : (IntKind.i64.wrap ((Go.bits .xor .i64 (Go.bits .and .i64 (Go.bits .and .i64 x4_1 1) (x4_1 / 2)) (Go.bits .and .i64 (Go.bits .and .i64 (x4_1 / 4) 1) (x4_1 / 8))) * 2 ^ min x4_1.toNat 64)) = ji24 := hji24
       have hji24z : x4_1 ≤ 64 → (IntKind.i64.wrap ((Go.bits .xor .i64 (Go.bits .and .i64 (Go.bits .and .i64 x4_1 1) (x4_1 / 2)) (Go.bits .and .i64 (Go.bits .and .i64 (x4_1 / 4) 1) (x4_1 / 8))) * 2 ^ x4_1.toNat)) = ji24 := shl_small hji24
       have hji24y : (wrap64 ((Go.bits .xor .i64 (Go.bits .and .i64 (Go.bits .and .i64 x4_1 1) (x4_1 / 2)) (Go.bits .and .i64 (Go.bits .and .i64 (x4_1 / 4) 1) (x4_1 / 8))) * 2 ^ min x4_1.toNat 64)) = ji24 := (i64_w _).symm.trans hji24_
       have hji24x : x4_1 ≤ 64 → (wrap64 ((Go.bits .xor .i64 (Go.bits .and .i64 (Go.bits .and .i64 x4_1 1) (x4_1 / 2)) (Go.bits .and .i64 (Go.bits .and .i64 (x4_1 / 4) 1) (x4_1 / 8))) * 2 ^ x4_1.toNat)) = ji24 := fun h_ => (i64_w _).symm.trans (hji24z h_)
       have H' := aZ_ H
       clear H
       go_wp2
       go_roundg k1
       case measure => have := HK1.out;omega
       case rel => exact ⟨(Go.bits .or .i64 x3_1 (ji24)),(wrap64 (x4_1 + 1)),(by first | rfl | (simp;done) | (simp only [← hji24] <;> (first | rfl | simp)) | (simp [*];done)),T6_,H',⟨by have := HK1.out;omega⟩,⟨by (with_reducible repeat (first | refine blk_drewN ?_ _ | refine blk_drew ?_ | refine blk_alloc ?_ _));exact BK101.out⟩,⟨by repeat (first | (with_reducible first | exact HI0.out | apply IsS58.alloc | apply IsS58.drewN | apply IsS58.drew | apply IsS58.set_1 | apply IsS58.set_2 | refine IsS58.far ?_ NB0_101.out _) | exact HI0.out)⟩,⟨by repeat (first | (with_reducible first | exact HK.out | apply KeepBut.set_ | apply keep_drewN | apply keep_drew | apply keep_alloc | refine keep_far ?_ GW101.out _) | exact HK.out)⟩,⟨by repeat (first | (with_reducible first | exact HB.out | apply below_alloc | apply pw_below_drewN | apply below_drew1 | refine below_set ?_ (IsS58.ge HI0.out) | refine below_set ?_ GE101.out) | exact HB.out)⟩⟩
      ·rw [if_neg c23] at H
       exact absurd H T42_
     ·rw [if_neg c22] at H
      have c22b0 : decide (x4_1 < 16) = false := decide_eq_false c22
      clear c22
      replace H := Option.bind_eq_some_iff.mp H
      obtain ⟨⟨t115,t116,t117⟩,A250,H⟩ := H
      replace H : ((spec_l3Shift.f k1 4 x3_1 t115).bind fun bt118 => (some (bt118.1,bt118.2,t116,t117))) = some (r1,r2,r3,r4) := H
      have A25 := aZ_ A250
      clear A250
      replace H := Option.bind_eq_some_iff.mp H
      obtain ⟨⟨t118,t119⟩,A260,H⟩ := H
      replace H : (some (t118,t119,t116,t117)) = some (r1,r2,r3,r4) := H
      have A26 := aZ_ A260
      clear A260
      simp only [Option.some.injEq,Prod.mk.injEq] at H
      obtain ⟨rfl,rfl,rfl,rfl⟩ := H
      go_wp2_with (first | ((with_reducible refine gate_callee (f := 47) rfl ?_);refine goesL_ (some 44) rfl rfl Try.func47 T16_ rfl #[.pointer (some ⟨g,0,none⟩),.int .i64 16] rfl T3_ ?_;(with_reducible refine (spec_l1Below.calls g s0_0 t103 t104 16 t115 t116 t117 w0 _ ?side1 ?side2 A25.out).mono ?_);(case side1 => repeat (first | (with_reducible first | exact HI0.out | apply IsS58.alloc | apply IsS58.drewN | apply IsS58.drew | apply IsS58.set_1 | apply IsS58.set_2 | refine IsS58.far ?_ NB0_101.out _) | exact HI0.out));(case side2 => repeat (first | (with_reducible first | exact HB.out | apply below_alloc | apply pw_below_drewN | apply below_drew1 | refine below_set ?_ (IsS58.ge HI0.out) | refine below_set ?_ GE101.out) | exact HB.out));rintro e w27 ⟨rfl,hi,hb,hk⟩;refine ⟨_,rfl,?_⟩;have n0_ := aZ_ (KeepBut.blk hk (g' := gb101) (o := .cells #[.int .i64 0,.int .i64 0] 25 (0,0)) T2_ NB101_0.out T42_);have n1_ := aZ_ (KeepBut.trans T5_ hk (.inl rfl));have n2_ := aZ_ (hb);have n3_ := aZ_ (hi);clear BK101;clear HK;clear HB;clear HI0;have BK101 := n0_;have HK := n1_;have HB := n2_;have HI0 := n3_;clear n0_ n1_ n2_ n3_;(try clear hb);(try clear hb2);(try clear hk);(try clear hi)) | ((with_reducible refine gate_callee (f := 61) rfl ?_);refine goesL_ (some 45) rfl rfl Try.func61 T16_ rfl #[.agg #[.int .i64 4,.int .i64 x3_1],.int .i64 t115] rfl T3_ ?_;(with_reducible refine (spec_l3Shift.calls k1 4 x3_1 t115 t118 t119 _ A26.out).mono ?_);rintro e w28 ⟨rfl,hb⟩;refine ⟨_,rfl,?_⟩;have n0_ := aZ_ (blk_below (g := gb101) (o := .cells #[.int .i64 0,.int .i64 0] 25 (0,0)) T2_ hb);have n1_ := aZ_ (IsS58.below T11_ hb);have n2_ := aZ_ (KeepBut.trans T5_ (KeepBut.of_below hb g none) (.inl rfl));have n3_ := aZ_ (below_step T12_ hb);clear BK101;clear HI0;clear HK;clear HB;have BK101 := n0_;have HI0 := n1_;have HK := n2_;have HB := n3_;clear n0_ n1_ n2_ n3_;(try clear hb);(try clear hb2);(try clear hk);(try clear hi);have hnb29 := NB101_0.out;have hnc29 := NB0_101.out;have hcz30_0 : w28.cell? ⟨gb101,0,none⟩ = some (.int .i64 0) := (blk_cell BK101.out 0).trans rfl;have hcz30_1 : w28.cell? ⟨gb101,1,none⟩ = some (.int .i64 0) := (blk_cell BK101.out 1).trans rfl;have hfz30_0 := blk_frozen BK101.out 0;have hfz30_1 := blk_frozen BK101.out 1))
      refine bodyPost_ret (results_cell_row rfl _ _ gb101 25 #[.int .i64 t118,.int .i64 t119] (0,0) _ rfl (by (with_reducible repeat (first | refine blk_drewN ?_ _ | refine blk_drew ?_ | refine blk_alloc ?_ _));refine blk_put (cs := #[.int .i64 t118,.int .i64 0]) ?_ 1 _ rfl;(with_reducible repeat (first | refine blk_drewN ?_ _ | refine blk_drew ?_ | refine blk_alloc ?_ _));refine blk_put (cs := #[.int .i64 0,.int .i64 0]) ?_ 0 _ rfl;(with_reducible repeat (first | refine blk_drewN ?_ _ | refine blk_drew ?_ | refine blk_alloc ?_ _));exact BK101.out) Try.underlying25 rfl T16_) rfl ?_
      exact ⟨by first | rfl | (simp [errW_none,errW_some] <;> rfl) | (simp [*,errW_none,errW_some] <;> rfl),by repeat (first | (with_reducible first | exact HI0.out | apply IsS58.alloc | apply IsS58.drewN | apply IsS58.drew | apply IsS58.set_1 | apply IsS58.set_2 | refine IsS58.far ?_ NB0_101.out _) | exact HI0.out),by repeat (first | (with_reducible first | exact HB.out | apply below_alloc | apply pw_below_drewN | apply below_drew1 | refine below_set ?_ (IsS58.ge HI0.out) | refine below_set ?_ GE101.out) | exact HB.out),by repeat (first | (with_reducible first | exact HK.out | apply KeepBut.set_ | apply keep_drewN | apply keep_drew | apply keep_alloc | refine keep_far ?_ GW101.out _) | exact HK.out)⟩
def spec_DrawDualOfBent.f (k : Nat) (l0 : List Int) : Option (Int × Int) := (spec_l1New.f k l0).bind fun bt102 => ((spec_l12Bent.f k bt102.1 bt102.2.1 bt102.2.2).bind fun bt106 => (some (bt106.1,bt106.2.1)))
set_option maxHeartbeats 8000000 in
set_option maxRecDepth 100000 in
theorem spec_DrawDualOfBent.calls (k : Nat) (A0 : Option Addr) (c0 : Nat) (l0 : List Int) (r1 : Int) (r2 : Int) (w : World) (hr0 : Kd.C (Kd.int .u8) w A0 l0.length l0) (hc0 : l0.length ≤ c0) (h : spec_DrawDualOfBent.f k l0 = some (r1,r2)) :
  Calls Try.prog 24 #[.slice A0 l0.length c0] w fun e w' => e = .returned (.agg #[.int .i64 r1,.int .i64 r2]) ∧ Below w.heap.size w w' := by
 have hu25 := Try.underlying25
 have HR0 := aZ_ hr0
 have HC0 := aZ_ hc0
 clear hr0 hc0
 have HB := aZ_ (Below.refl w.heap.size w)
 have H : ((spec_l1New.f k l0).bind fun bt102 => ((spec_l12Bent.f k bt102.1 bt102.2.1 bt102.2.2).bind fun bt106 => (some (bt106.1,bt106.2.1)))) = some (r1,r2) := h
 clear h
 replace H := Option.bind_eq_some_iff.mp H
 obtain ⟨⟨t102,t103,t104⟩,A20,H⟩ := H
 replace H : ((spec_l12Bent.f k t102 t103 t104).bind fun bt106 => (some (bt106.1,bt106.2.1))) = some (r1,r2) := H
 have A2 := aZ_ A20
 clear A20
 replace H := Option.bind_eq_some_iff.mp H
 obtain ⟨⟨t106,t107,t108,t109⟩,A30,H⟩ := H
 replace H : (some (t106,t107)) = some (r1,r2) := H
 have A3 := aZ_ A30
 clear A30
 simp only [Option.some.injEq,Prod.mk.injEq] at H
 obtain ⟨rfl,rfl⟩ := H
 go_enter Try.func24,Try.ntmps24
 go_wp2_with (first | ((with_reducible refine gate_dst (N := 2) rfl ?_);refine box_event ?hg (N := 2) ?hd (cs := #[.int .i64 0,.int .i64 0]) (t := 25) ?hr ?_;(case hd => rfl);(case hg => rfl);(case hr => first | (go_simp;done) | (go_simp;rfl));intro gb101 hg w4 hbox hb;have n0_ := aZ_ (below_step T7_ hb);have n1_ := aZ_ (hbox);have n2_ := aZ_ ((T4_ : w.heap.size ≤ gb101));have n3_ := aZ_ ((T4_ : w.heap.size ≤ gb101));clear HB;have HB := n0_;have BK101 := n1_;have GW101 := n2_;have GE101 := n3_;clear n0_ n1_ n2_ n3_;clear hb hbox hg) | ((with_reducible refine gate_callee (f := 31) rfl ?_);refine goesL_ (some 4) rfl rfl Try.func31 T16_ rfl #[.slice A0 l0.length c0] rfl T3_ ?_;(with_reducible refine (spec_l1New.calls k _ _ l0 t102 t103 t104 w _ ?side1 ?side2 ?side3 A2.out).mono ?_);(case side1 => repeat (first | (with_reducible first | exact HB.out | apply below_alloc | apply pw_below_drewN | apply below_drew1 | refine below_set ?_ GE101.out) | exact HB.out));(case side2 => exact HR0.out);(case side3 => exact HC0.out);rintro e w5 ⟨g105,rfl,hi,hb,hb2⟩;refine ⟨_,rfl,?_⟩;have n0_ := aZ_ (blk_below (g := gb101) (o := .cells #[.int .i64 0,.int .i64 0] 25 (0,0)) T2_ hb2);have n1_ := aZ_ (hb);have n2_ := aZ_ (hi);have n3_ := aZ_ (IsS58.ne_blk hi (blk_below (g := gb101) (o := .cells #[.int .i64 0,.int .i64 0] 25 (0,0)) T2_ hb2) T43_);have n4_ := aZ_ (Ne.symm (IsS58.ne_blk hi (blk_below (g := gb101) (o := .cells #[.int .i64 0,.int .i64 0] 25 (0,0)) T2_ hb2) T43_));clear BK101;clear HB;have BK101 := n0_;have HB := n1_;have HI105 := n2_;have NB105_101 := n3_;have NB101_105 := n4_;clear n0_ n1_ n2_ n3_ n4_;(try clear hb);(try clear hb2);(try clear hk);(try clear hi)) | ((with_reducible refine gate_callee (f := 49) rfl ?_);refine goesL_ (some 5) rfl rfl Try.func49 T16_ rfl #[.pointer (some ⟨g105,0,none⟩)] rfl T3_ ?_;(with_reducible refine (spec_l12Bent.calls k g105 t102 t103 t104 t106 t107 t108 t109 w _ ?side1 ?side2 A3.out).mono ?_);(case side1 => repeat (first | (with_reducible first | exact HI105.out | apply IsS58.alloc | apply IsS58.drewN | apply IsS58.drew | apply IsS58.set_1 | apply IsS58.set_2 | refine IsS58.far ?_ NB105_101.out _) | exact HI105.out));(case side2 => repeat (first | (with_reducible first | exact HB.out | apply below_alloc | apply pw_below_drewN | apply below_drew1 | refine below_set ?_ (IsS58.ge HI105.out) | refine below_set ?_ GE101.out) | exact HB.out));rintro e w6 ⟨rfl,hi,hb,hk⟩;refine ⟨_,rfl,?_⟩;have n0_ := aZ_ (KeepBut.blk hk (g' := gb101) (o := .cells #[.int .i64 0,.int .i64 0] 25 (0,0)) T2_ NB101_105.out T42_);have n1_ := aZ_ (hb);have n2_ := aZ_ (hi);clear BK101;clear HB;clear HI105;have BK101 := n0_;have HB := n1_;have HI105 := n2_;clear n0_ n1_ n2_;(try clear hb);(try clear hb2);(try clear hk);(try clear hi);have hnb7 := NB101_105.out;have hnc7 := NB105_101.out;have hcz8_0 : w6.cell? ⟨gb101,0,none⟩ = some (.int .i64 0) := (blk_cell BK101.out 0).trans rfl;have hcz8_1 : w6.cell? ⟨gb101,1,none⟩ = some (.int .i64 0) := (blk_cell BK101.out 1).trans rfl;have hfz8_0 := blk_frozen BK101.out 0;have hfz8_1 := blk_frozen BK101.out 1))
 refine bodyPost_ret (results_cell_row rfl _ _ gb101 25 #[.int .i64 t106,.int .i64 t107] (0,0) _ rfl T25_ Try.underlying25 rfl T16_) rfl ?_
 exact ⟨by first | rfl | (simp [errW_none,errW_some] <;> rfl) | (simp [*,errW_none,errW_some] <;> rfl),by repeat (first | (with_reducible first | exact HB.out | apply below_alloc | apply pw_below_drewN | apply below_drew1 | refine below_set ?_ (IsS58.ge HI105.out) | refine below_set ?_ GE101.out) | exact HB.out)⟩
set_option maxHeartbeats 400000 in
set_option maxRecDepth 100000 in
theorem slices_IndexFunc_int.any (A : Option Addr) (c : Nat) (l : List Int) (p : Int → Bool) (g : Nat) (lb : Array Value) (eg : ∀ args w,(callFunc g args).run Try.prog w = .ok (.enter g args) w) (w : World) (hr : Kd.C (Kd.int .i64) w A l.length l)
  (hp : ∀ (W : World) (x : Nat),x < l.length → Below w.heap.size w W → Gives Try.prog g lb #[.int .i64 (rd l x)] (.bool (p (rd l x))) W) (hl : l.length < 9223372036854775807) :
  Calls Try.prog 62 #[.slice A l.length c,.func (.func g) #[] lb] w fun e w' => ∃ r : Int,e = .returned (.int .i64 r) ∧ decide (0 ≤ r) = B.exN (fun x => p (rd l x)) l.length ∧ Below w.heap.size w w' := by
 have HP := aZ_ hp
 have HR := aZ_ hr
 have HL := aZ_ hl
 clear hp hr
 obtain ⟨M,hM⟩ : ∃ M : Nat,M = l.length := ⟨_,rfl⟩
 have HM := aZ_ hM
 go_enter Try.func62,Try.ntmps62
 go_wp2
 go_loopg [8] l.length (fun gg v8 wr => ∃ x : Nat,x ≤ l.length ∧ l.length - x ≤ gg ∧ v8 = .int .i64 x ∧ Aside0 (B.exN (fun x => p (rd l x)) x = false) ∧ Aside0 (Below w.heap.size w wr))
 case atStart => exact ⟨0,Nat.zero_le _,by omega,rfl,⟨rfl⟩,⟨Below.refl _ _⟩⟩
 case round =>
  obtain ⟨x,hx,hg,rfl,HZ,HB⟩ := hrel
  by_cases hlt : x < l.length
  ·have hltz : (x : Int) < (l.length : Int) := by omega
   have h0z : (0 : Int) ≤ (x : Int) := by omega
   have hcall := HP.out wr x hlt HB.out
   unfold Gives at hcall
   obtain ⟨ad,rfl,hc⟩ := Kd.at_int HR.out (x : Int) h0z hltz
   have hc' := (HB.out.cell (World.block_lt_of_cell? w _ hc)).trans hc
   rw [Int.toNat_natCast] at hc'
   cases hq : p (rd l x) with
   | true =>
    rw [hq] at hcall
    have HQ := aZ_ hq
    clear hq
    go_wp2_with (go_at_fn g;refine hcall.mono ?_;rintro e w' ⟨rfl,hb'⟩;have HB' := aZ_ (below_step HB.out hb');clear hb')
    go_ret
    refine ⟨_,rfl,?_,HB'.out⟩
    rw [B.exN_hit hlt HQ.out]
    exact decide_eq_true h0z
   | false =>
    rw [hq] at hcall
    have HQ := aZ_ hq
    clear hq
    go_wp2_with (go_at_fn g;refine hcall.mono ?_;rintro e w' ⟨rfl,hb'⟩;have HB' := aZ_ (below_step HB.out hb');clear hb')
    go_roundg (l.length - (x + 1))
    case measure => omega
    case rel => exact ⟨x + 1,by omega,by omega,by have := HL.out;go_num,⟨B.exN_skip HZ.out HQ.out⟩,HB'⟩
  ·have hltz : ¬ (x : Int) < (l.length : Int) := by omega
   obtain rfl : x = l.length := by omega
   go_wp2
   go_ret
   exact ⟨-1,rfl,by rw [HZ.out];decide,HB.out⟩
set_option maxHeartbeats 400000 in
set_option maxRecDepth 100000 in
theorem slices_ContainsFunc_int.any (A : Option Addr) (c : Nat) (l : List Int) (p : Int → Bool) (g : Nat) (lb : Array Value) (eg : ∀ args w,(callFunc g args).run Try.prog w = .ok (.enter g args) w) (w : World) (hr : Kd.C (Kd.int .i64) w A l.length l)
  (hp : ∀ (W : World) (x : Nat),x < l.length → Below w.heap.size w W → Gives Try.prog g lb #[.int .i64 (rd l x)] (.bool (p (rd l x))) W) (hl : l.length < 9223372036854775807) :
  Calls Try.prog 53 #[.slice A l.length c,.func (.func g) #[] lb] w fun e w' => e = .returned (.bool (B.exN (fun x => p (rd l x)) l.length)) ∧ Below w.heap.size w w' := by
 have HC := slices_IndexFunc_int.any A c l p g lb eg w hr hp hl
 clear hp hr
 go_enter Try.func53,Try.ntmps53
 go_wp2_with (go_at_call 62;refine HC.mono ?_;rintro e w' ⟨r,rfl,hd,hb⟩)
 go_ret
 exact ⟨by rw [← hd];rfl,hb⟩
def impl_IsBent.sz (v : Int) : Int := mx v (wrap64 (-v))
def impl_IsBent.bad (l : List Int) (v : Int) : Bool := impl_IsBent.sz v != impl_IsBent.sz (rd l 0)
def impl_IsBent.f (k : Nat) (a0_0 a0_1 : Int) : Option Bool :=
 (impl_IsTable.f a0_0 a0_1).bind fun t => if t = true then
  (if a0_0 = 2 ∨ a0_0 = 4 then (impl_Table_spectrum.f k a0_0 a0_1).bind fun l => if 0 < l.length ∧ l.length < 9223372036854775807 then some (!B.exN (fun i => impl_IsBent.bad l (rd l i)) l.length) else none
   else some false) else some false
set_option maxHeartbeats 400000 in
theorem impl_IsBent_1.any (l : List Int) (A : Option Addr) (c : Nat) (v : Int) (h0 : 0 < l.length) (g1 : Nat) (W : World) (hr : Kd.C (Kd.int .i64) W A l.length l)
  (h1 : W.heap[g1]? = some (.cells #[.slice A l.length c] 27 (0,0))) :
  Gives Try.prog 54 #[.pointer (some ⟨g1,0,none⟩)] #[.int .i64 v] (.bool (impl_IsBent.bad l v)) W := by
 show Calls Try.prog 54 #[.int .i64 v,.pointer (some ⟨g1,0,none⟩)] W _
 have hl : (0 : Int) < (l.length : Int) := by omega
 obtain ⟨ad,rfl,he⟩ := Kd.at_int hr 0 (Int.le_refl 0) hl
 replace he : W.cell? ad = some (.int .i64 (rd l 0)) := he
 have hc0 : W.cell? ⟨g1,0,none⟩ = some (.slice (some ad) l.length c) := (blk_cell h1 0).trans rfl
 have C0 := aZ_ hc0
 have C1 := aZ_ he
 have HB := aZ_ (Below.refl W.heap.size W)
 clear h1 hr hc0 he
 go_enter Try.func54,Try.ntmps54
 go_wp2
 have hb := below_drew (Below.refl W.heap.size W)
 have n_ : Aside0 (W.drew.cell? ⟨g1,0,none⟩ = some (.slice (some ad) l.length c)) := ⟨pw_cell_below hb C0.out⟩
 clear C0
 have C0 := n_
 clear n_
 have n_ : Aside0 (W.drew.cell? ad = some (.int .i64 (rd l 0))) := ⟨pw_cell_below hb C1.out⟩
 clear C1
 have C1 := n_
 clear n_
 have n_ := aZ_ (below_step HB.out hb)
 clear HB
 have HB := n_
 clear n_
 clear hb
 refine start_ (n := 8) (S := (fun w_ => w_.cell? ⟨g1,0,none⟩ = some (.slice (some ad) l.length c) ∧ w_.cell? ad = some (.int .i64 (rd l 0)))) (ds := []) #[false,false,false,false,false,false,false,false] T16_ rfl rfl ⟨C0.out,C1.out⟩ (fun hHeld => ?_)
 generalize W.drew = W0_ at C0 C1 HB hHeld ⊢
 refine pZ_ 0 (some 4) #[true,false,false,false,false,false,false,false] ?_
 refine tZ2_ 2 (some 6) #[true,false,true,false,false,false,false,false] hHeld ?_
 refine pZ_ 3 (some 7) #[true,false,true,true,false,false,false,false] ?_
 refine tZ2_ 4 (some 8) #[true,false,true,true,true,false,false,false] hHeld ?_
 refine one_ (i := 1) (N := some 5) #[true,true,true,true,true,false,false,false] rfl rfl T16_ T43_ (fun K hK => ?_)
 refine gZ_ Try.func55 #[.int .i64 v] ?_
 with_reducible refine (impl_size1.calls v (impl_IsBent.sz v) _ rfl).mono ?_
 rintro e W1_ ⟨rfl,hb⟩
 refine ⟨_,rfl,?_⟩
 have n_ : Aside0 (W1_.cell? ⟨g1,0,none⟩ = some (.slice (some ad) l.length c)) := ⟨pw_cell_below hb C0.out⟩
 clear C0
 have C0 := n_
 clear n_
 have n_ : Aside0 (W1_.cell? ad = some (.int .i64 (rd l 0))) := ⟨pw_cell_below hb C1.out⟩
 clear C1
 have C1 := n_
 clear n_
 have n_ := aZ_ (below_step HB.out hb)
 clear HB
 have HB := n_
 clear n_
 clear hb
 refine hK.out _ _ ⟨C0.out,C1.out⟩ (fun hHeld => ?_)
 clear hK K
 refine norm_ (a' := ?_) ?_ ?_
 rotate_left
 ·show Act.put _ (some 5) _ = _
  simp only [Act.put,List.setIfInBounds_toArray,List.set_cons_zero,List.set_cons_succ,i64_w,i32_w]
  rfl
 refine one_ (i := 5) (N := some 9) #[true,true,true,true,true,true,false,false] rfl rfl T16_ T43_ (fun K hK => ?_)
 refine gZ_ Try.func55 #[.int .i64 (rd l 0)] ?_
 with_reducible refine (impl_size1.calls (rd l 0) (impl_IsBent.sz (rd l 0)) _ rfl).mono ?_
 rintro e W2_ ⟨rfl,hb⟩
 refine ⟨_,rfl,?_⟩
 have n_ : Aside0 (W2_.cell? ⟨g1,0,none⟩ = some (.slice (some ad) l.length c)) := ⟨pw_cell_below hb C0.out⟩
 clear C0
 have C0 := n_
 clear n_
 have n_ : Aside0 (W2_.cell? ad = some (.int .i64 (rd l 0))) := ⟨pw_cell_below hb C1.out⟩
 clear C1
 have C1 := n_
 clear n_
 have n_ := aZ_ (below_step HB.out hb)
 clear HB
 have HB := n_
 clear n_
 clear hb
 refine hK.out _ _ ⟨C0.out,C1.out⟩ (fun hHeld => ?_)
 clear hK K
 refine norm_ (a' := ?_) ?_ ?_
 rotate_left
 ·show Act.put _ (some 9) _ = _
  simp only [Act.put,List.setIfInBounds_toArray,List.set_cons_zero,List.set_cons_succ,i64_w,i32_w]
  rfl
 refine pZ_ 6 (some 10) #[true,true,true,true,true,true,true,false] ?_
 refine pZ_ 7 (some 3) #[true,true,true,true,true,true,true,true] ?_
 refine done_ T16_ ?_
 clear C0 C1 hHeld
 go_wp2
 go_ret
 exact ⟨rfl,HB.out⟩
set_option maxHeartbeats 400000 in
set_option maxRecDepth 100000 in
theorem impl_IsBent.calls (k : Nat) (a0_0 a0_1 : Int) (r : Bool) (w : World) (h : impl_IsBent.f k a0_0 a0_1 = some r) :
  Calls Try.prog 27 #[.agg #[.int .i64 a0_0,.int .i64 a0_1]] w fun e w' => e = .returned (.bool r) ∧ Below w.heap.size w w' := by
 have hu := Try.underlying25
 have hus := Try.underlying27
 have K1 := aZ_ (blk_new w (.cells #[.int .i64 a0_0,.int .i64 a0_1] 25 (0,0)))
 have KB := aZ_ (below_alloc (Below.refl w.heap.size w) (.cells #[.int .i64 a0_0,.int .i64 a0_1] 25 (0,0)))
 unfold impl_IsBent.f at h
 obtain ⟨t,ht,h⟩ := Option.bind_eq_some_iff.mp h
 have HT := aZ_ ht
 clear ht
 cases t with
 | false =>
  rw [if_neg T43_] at h
  cases h
  go_enter Try.func27,Try.ntmps27
  have hc0 : (w.alloc (.cells #[.int .i64 a0_0,.int .i64 a0_1] 25 (0,0))).cell? ⟨w.heap.size,0,none⟩ = some (.int .i64 a0_0) := (blk_cell K1.out 0).trans rfl
  have hc1 : (w.alloc (.cells #[.int .i64 a0_0,.int .i64 a0_1] 25 (0,0))).cell? ⟨w.heap.size,1,none⟩ = some (.int .i64 a0_1) := (blk_cell K1.out 1).trans rfl
  go_wp2_with (go_at_call 32;refine (impl_IsTable.calls a0_0 a0_1 false _ HT.out).mono ?_;rintro e w' ⟨rfl,hb⟩;have HB := below_step KB.out hb)
  go_ret
  exact ⟨rfl,HB⟩
 | true =>
  rw [if_pos rfl] at h
  have hc0 : (w.alloc (.cells #[.int .i64 a0_0,.int .i64 a0_1] 25 (0,0))).cell? ⟨w.heap.size,0,none⟩ = some (.int .i64 a0_0) := (blk_cell K1.out 0).trans rfl
  have hc1 : (w.alloc (.cells #[.int .i64 a0_0,.int .i64 a0_1] 25 (0,0))).cell? ⟨w.heap.size,1,none⟩ = some (.int .i64 a0_1) := (blk_cell K1.out 1).trans rfl
  have HX : Aside0 (((a0_0 != 2) && (a0_0 != 4)) = !decide (a0_0 = 2 ∨ a0_0 = 4)) := ⟨by rw [Bool.eq_iff_iff];simp only [Bool.and_eq_true,bne_iff_ne,Bool.not_eq_true',decide_eq_false_iff_not];omega⟩
  by_cases hbits : a0_0 = 2 ∨ a0_0 = 4
  ·rw [if_pos hbits] at h
   obtain ⟨l,hl,h⟩ := Option.bind_eq_some_iff.mp h
   have HL := aZ_ hl
   clear hl
   split at h
   next hn =>
    have HN := aZ_ hn
    clear hn
    obtain ⟨q,hq⟩ : ∃ q,q = B.exN (fun i => impl_IsBent.bad l (rd l i)) l.length := ⟨_,rfl⟩
    rw [← hq] at h
    cases h
    have EG := aZ_ (enters_of Try.func54 T16_ rfl)
    have HCC : Aside0 (∀ (w' : World) (A : Option Addr) (c g : Nat),Kd.C (Kd.int .i64) w' A l.length l → w'.heap[g]? = some (.cells #[.slice A l.length c] 27 (0,0)) → Calls Try.prog 53 #[.slice A l.length c,.func (.func 54) #[] #[.pointer (some ⟨g,0,none⟩)]] w' fun e w'' => e = .returned (.bool q) ∧ Below w'.heap.size w' w'') := ⟨by
     intro w' A c g hr hg
     rw [hq]
     exact slices_ContainsFunc_int.any A c l (impl_IsBent.bad l) 54 _ EG.out w' hr (fun W x hx hw => impl_IsBent_1.any l A c (rd l x) HN.out.1 g W (Kd.Heap.C (Kd.heap_int .i64) hw.block hr) (blk_below hg hw)) HN.out.2⟩
    clear hq EG
    have hd : (a0_0 != 2) = false ∨ (a0_0 != 2) = true ∧ (a0_0 != 4) = false := by
     rcases hbits with e | e
     ·left;rw [e];rfl
     ·right;rw [e];exact ⟨rfl,rfl⟩
    clear hbits HX
    rcases hd with hd1 | ⟨hd1,hd2⟩
    all_goals
     go_enter Try.func27,Try.ntmps27
     go_wp2_with (first | (go_at_call 32;refine (impl_IsTable.calls a0_0 a0_1 true _ HT.out).mono ?_;rintro e w1 ⟨rfl,hb⟩;have L1 := aZ_ (blk_below K1.out hb);have LB := aZ_ (below_step KB.out hb);clear hb;have hd0 : w1.cell? ⟨w.heap.size,0,none⟩ = some (.int .i64 a0_0) := (blk_cell L1.out 0).trans rfl;have hd1 : w1.cell? ⟨w.heap.size,1,none⟩ = some (.int .i64 a0_1) := (blk_cell L1.out 1).trans rfl) | (go_at_call 33;refine (impl_Table_spectrum.calls k a0_0 a0_1 l _ HL.out).mono ?_;rintro e w2 ⟨vq,rfl,hq,hb⟩;have MB := aZ_ (below_step LB.out hb);clear hb;obtain ⟨A,c,rfl,hlc,hr⟩ := Kd.R_reads hq;have HR := aZ_ (Kd.Heap.C (Kd.heap_int .i64) (below_alloc (Below.refl w2.heap.size w2) (.cells #[.slice A l.length c] 27 (0,0))).block hr);clear hr hq hlc) | (go_at_call 53;refine (HCC.out _ A c w2.heap.size HR.out (blk_new w2 _)).mono ?_;rintro e w3 ⟨rfl,hb⟩;have NB := below_step (below_alloc MB.out _) hb))
     go_ret
     exact ⟨rfl,NB⟩
   next => cases h
  ·rw [if_neg hbits] at h
   cases h
   have hd1 : (a0_0 != 2) = true := bne_iff_ne.mpr fun e => hbits (.inl e)
   have hd2 : (a0_0 != 4) = true := bne_iff_ne.mpr fun e => hbits (.inr e)
   clear hbits HX
   go_enter Try.func27,Try.ntmps27
   go_wp2_with (go_at_call 32;refine (impl_IsTable.calls a0_0 a0_1 true _ HT.out).mono ?_;rintro e w1 ⟨rfl,hb⟩;have L1 := aZ_ (blk_below K1.out hb);have LB := aZ_ (below_step KB.out hb);clear hb;have hd0 : w1.cell? ⟨w.heap.size,0,none⟩ = some (.int .i64 a0_0) := (blk_cell L1.out 0).trans rfl;have hd1 : w1.cell? ⟨w.heap.size,1,none⟩ = some (.int .i64 a0_1) := (blk_cell L1.out 1).trans rfl)
   go_ret
   exact ⟨rfl,LB.out⟩
def impl_DualOfBent.neg (l : List Int) (x : Nat) : Bool := decide (rd l (x : Int) < 0)
def impl_DualOfBent.f (k : Nat) (a0_0 a0_1 : Int) : Option (Int × Int × Bool) :=
 (impl_IsBent.f k a0_0 a0_1).bind fun t => if t = true then
  (impl_Table_spectrum.f k a0_0 a0_1).bind fun l => if 0 ≤ a0_0 ∧ a0_0 ≤ 5 ∧ l.length = 2 ^ a0_0.toNat then some (a0_0,((B.tabN (impl_DualOfBent.neg l) (2 ^ a0_0.toNat) : Nat) : Int),true) else none
  else some (0,0,false)
set_option maxHeartbeats 400000 in
theorem impl_DualOfBent_1.any (l : List Int) (A : Option Addr) (c : Nat) (x : Nat) (hx : x < l.length) (g1 : Nat) (W : World) (hr : Kd.C (Kd.int .i64) W A l.length l)
  (h1 : W.heap[g1]? = some (.cells #[.slice A l.length c] 27 (0,0))) :
  Gives Try.prog 51 #[.pointer (some ⟨g1,0,none⟩)] #[.int .i64 x] (.bool (impl_DualOfBent.neg l x)) W := by
 show Calls Try.prog 51 #[.int .i64 x,.pointer (some ⟨g1,0,none⟩)] W _
 have hl : (x : Int) < (l.length : Int) := by omega
 have h0 : (0 : Int) ≤ (x : Int) := by omega
 obtain ⟨ad,rfl,he⟩ := Kd.at_int hr x h0 hl
 rw [Int.toNat_natCast] at he
 have hc0 : W.cell? ⟨g1,0,none⟩ = some (.slice (some ad) l.length c) := (blk_cell h1 0).trans rfl
 have HB := aZ_ (Below.refl W.heap.size W)
 clear h1 hr
 go_enter Try.func51,Try.ntmps51
 go_wp2
 go_ret
 exact ⟨rfl,HB.out⟩
set_option maxHeartbeats 400000 in
set_option maxRecDepth 100000 in
theorem impl_DualOfBent.calls (k : Nat) (a0_0 a0_1 r1 r2 : Int) (r3 : Bool) (w : World) (h : impl_DualOfBent.f k a0_0 a0_1 = some (r1,r2,r3)) :
  Calls Try.prog 25 #[.agg #[.int .i64 a0_0,.int .i64 a0_1]] w fun e w' => e = .returned (.tuple #[.agg #[.int .i64 r1,.int .i64 r2],.bool r3]) ∧ Below w.heap.size w w' := by
 have hu := Try.underlying25
 have hus := Try.underlying27
 have K1 := aZ_ (blk_alloc (blk_new w (.cells #[.int .i64 a0_0,.int .i64 a0_1] 25 (0,0))) (.cells #[.int .i64 0,.int .i64 0] 25 (0,0)))
 have K2 : Aside0 (((w.alloc (.cells #[.int .i64 a0_0,.int .i64 a0_1] 25 (0,0))).alloc (.cells #[.int .i64 0,.int .i64 0] 25 (0,0))).heap[w.heap.size + 1]? = some (.cells #[.int .i64 0,.int .i64 0] 25 (0,0))) := ⟨by simpa using blk_new (w.alloc (.cells #[.int .i64 a0_0,.int .i64 a0_1] 25 (0,0))) (.cells #[.int .i64 0,.int .i64 0] 25 (0,0))⟩
 have KB := aZ_ (below_alloc (below_alloc (Below.refl w.heap.size w) (.cells #[.int .i64 a0_0,.int .i64 a0_1] 25 (0,0))) (.cells #[.int .i64 0,.int .i64 0] 25 (0,0)))
 have hc0 : ((w.alloc (.cells #[.int .i64 a0_0,.int .i64 a0_1] 25 (0,0))).alloc (.cells #[.int .i64 0,.int .i64 0] 25 (0,0))).cell? ⟨w.heap.size,0,none⟩ = some (.int .i64 a0_0) := (blk_cell K1.out 0).trans rfl
 have hc1 : ((w.alloc (.cells #[.int .i64 a0_0,.int .i64 a0_1] 25 (0,0))).alloc (.cells #[.int .i64 0,.int .i64 0] 25 (0,0))).cell? ⟨w.heap.size,1,none⟩ = some (.int .i64 a0_1) := (blk_cell K1.out 1).trans rfl
 unfold impl_DualOfBent.f at h
 obtain ⟨t,ht,h⟩ := Option.bind_eq_some_iff.mp h
 have HT := aZ_ ht
 clear ht
 cases t with
 | false =>
  rw [if_neg T43_] at h
  cases h
  go_enter Try.func25,Try.ntmps25
  go_wp2_with (go_at_call 27;refine (impl_IsBent.calls k a0_0 a0_1 false _ HT.out).mono ?_;rintro e w1 ⟨rfl,hb⟩;have L2 := aZ_ (blk_below K2.out hb);have LB := aZ_ (below_step KB.out hb);clear hb;have hx0 : w1.cell? ⟨w.heap.size + 1,0,none⟩ = some (.int .i64 0) := (blk_cell L2.out 0).trans rfl;have hx1 : w1.cell? ⟨w.heap.size + 1,1,none⟩ = some (.int .i64 0) := (blk_cell L2.out 1).trans rfl;have hf0 := blk_frozen L2.out 0;have hf1 := blk_frozen L2.out 1)
  refine bodyPost_ret (results_ct rfl _ _ (w.heap.size + 1) 25 #[.int .i64 0,.int .i64 0] (0,0) _ rfl (by first | exact L2.out | (refine blk_put (cs := #[.int .i64 0,.int .i64 0]) ?_ 1 _ rfl;refine blk_put (cs := #[.int .i64 0,.int .i64 0]) ?_ 0 _ rfl;exact L2.out)) Try.underlying25 rfl T16_) rfl ?_
  exact ⟨rfl,below_set (below_set LB.out T48_) T48_⟩
 | true =>
  rw [if_pos rfl] at h
  obtain ⟨l,hl,h⟩ := Option.bind_eq_some_iff.mp h
  have HL := aZ_ hl
  clear hl
  split at h
  next hn =>
   obtain ⟨n,rfl⟩ := Int.eq_ofNat_of_zero_le hn.1
   rw [Int.toNat_natCast] at h hn
   cases h
   have HN : Aside0 (n ≤ 5 ∧ l.length = 2 ^ n) := ⟨by omega,hn.2.2⟩
   clear hn
   have EG := aZ_ (enters_of Try.func51 T16_ rfl)
   go_enter Try.func25,Try.ntmps25
   go_wp2_with (first | (go_at_call 27;refine (impl_IsBent.calls k n a0_1 true _ HT.out).mono ?_;rintro e w1 ⟨rfl,hb⟩;have L1 := aZ_ (blk_below K1.out hb);have L2 := aZ_ (blk_below K2.out hb);have LB := aZ_ (below_step KB.out hb);clear hb hc0 hc1;have hd0 : w1.cell? ⟨w.heap.size,0,none⟩ = some (.int .i64 n) := (blk_cell L1.out 0).trans rfl;have hd1 : w1.cell? ⟨w.heap.size,1,none⟩ = some (.int .i64 a0_1) := (blk_cell L1.out 1).trans rfl) | (go_at_call 33;refine (impl_Table_spectrum.calls k n a0_1 l _ HL.out).mono ?_;rintro e w2 ⟨vq,rfl,hq,hb⟩;have M1 := aZ_ (blk_below L1.out hb);have M2 := aZ_ (blk_below L2.out hb);have MB := aZ_ (below_step LB.out hb);clear hb hd0 hd1;obtain ⟨A,c,rfl,hlc,hr⟩ := Kd.R_reads hq;have HR := aZ_ hr;clear hr hq hlc;have he0 : (w2.alloc (.cells #[.slice A l.length c] 27 (0,0))).cell? ⟨w.heap.size,0,none⟩ = some (.int .i64 n) := (blk_cell (blk_alloc M1.out _) 0).trans rfl) | (go_at_call 50;refine (impl_makeTable.any n HN.out.1 (impl_DualOfBent.neg l) 51 #[.pointer (some ⟨w2.heap.size,0,none⟩)] EG.out _ (fun W x hx hb => impl_DualOfBent_1.any l A c x (by rw [HN.out.2];exact hx) _ W (Kd.Heap.C (Kd.heap_int .i64) (below_step (below_alloc (Below.refl w2.heap.size w2) _) hb).block HR.out) (blk_below (blk_new w2 _) hb))).mono ?_;rintro e w3 ⟨rfl,hb⟩;have BK := aZ_ (blk_below (blk_alloc M2.out _) hb);have NB := aZ_ (below_step (below_alloc MB.out _) hb);clear hb;have hx0 : w3.cell? ⟨w.heap.size + 1,0,none⟩ = some (.int .i64 0) := (blk_cell BK.out 0).trans rfl;have hx1 : w3.cell? ⟨w.heap.size + 1,1,none⟩ = some (.int .i64 0) := (blk_cell BK.out 1).trans rfl;have hf0 := blk_frozen BK.out 0;have hf1 := blk_frozen BK.out 1))
   refine bodyPost_ret (results_ct rfl _ _ (w.heap.size + 1) 25 #[.int .i64 n,.int .i64 (B.tabN (impl_DualOfBent.neg l) (2 ^ n) : Nat)] (0,0) _ rfl T49_ Try.underlying25 rfl T16_) rfl ?_
   exact ⟨rfl,below_set (below_set NB.out T48_) T48_⟩
  next => cases h
end Go.Proofs.Ytflacbjpeecjcaa.F
