/- Walks of Go functions and lemmas on what they compute, for the row of FnMatrices (a part of several): each call ends as the Lean function of its name tells; the conditions are those of each theorem. -/
import Derived.Test.YthlajlhjofjmcaaM1FnMatrices
import Derived.Test.YthlajlhjofjmcaaM2FnMatrices
import Derived.Test.YthlajlhjofjmcaaM3FnMatrices
import Derived.Test.YthlajlhjofjmcaaM4FnMatrices
import Derived.Test.YthlajlhjofjmcaaM6FnMatrices
import Derived.Test.YthlajlhjofjmcaaM7FnMatrices
namespace Go.Proofs.Ythlajlhjofjmcaa.F
open Go.RowKit Go.Proofs.YthlajlhjofjmcaaW.PrintWords Go.Proofs.YthlajlhjofjmcaaW.PrintLast Go.Proofs.YthlajlhjofjmcaaW.PrintMore
attribute [local go_sem] max2_int min2_int max_two min_two max_three min_three max_four min_four 
set_option linter.unusedVariables false
set_option linter.unusedSimpArgs false
def spec_DrawTableOfMatrix.f (k : Nat) (l0 : List Int) : Option (List Int × Int × Int) := (spec_l20Both.f k l0).bind fun bt101 => ((spec_MatrixOf.f k bt101.1 bt101.2.1 bt101.2.2).bind fun bt105 => (if (bt105.1.length : Int) > 0 then (if ((l0.length : Int) % 5) = 0 then ((some (([(-1),0,16,1] : List Int) : List Int)).bind fun y109 => (if 0 ≤ ((l0.length : Int) % 4) then (if ((l0.length : Int) % 4) < (y109.length : Int) then (if 0 < (bt105.1.length : Int) then (some ((bt105.1.set (0 : Int).toNat (rd y109 ((l0.length : Int) % 4))),bt101.1,bt101.2.2)) else (none)) else (none)) else (none))) else (some (bt105.1,bt101.1,bt101.2.2))) else (some (bt105.1,bt101.1,bt101.2.2))))
set_option maxHeartbeats 8000000 in
set_option maxRecDepth 100000 in
theorem spec_DrawTableOfMatrix.calls (k : Nat) (A0 : Option Addr) (c0 : Nat) (l0 : List Int) (r1 : List Int) (r2 : Int) (r3 : Int) (w : World) (hr0 : Kd.C (Kd.int .u8) w A0 l0.length l0) (hc0 : l0.length ≤ c0) (h : spec_DrawTableOfMatrix.f k l0 = some (r1,r2,r3)) :
  Calls Try.prog 35 #[.slice A0 l0.length c0] w fun e w' => ∃ v0_ : Value,e = .returned (.tuple #[v0_,.int .i64 r2,.int .i64 r3]) ∧ Kd.R (Kd.int .i64) 3 w' w.heap.size (fun _ => True) v0_ r1 ∧ Below w.heap.size w w' := by
 have hu25 := Try.underlying25
 have HR0 := aZ_ hr0
 have HC0 := aZ_ hc0
 clear hr0 hc0
 have HB := aZ_ (Below.refl w.heap.size w)
 have H : ((spec_l20Both.f k l0).bind fun bt101 => ((spec_MatrixOf.f k bt101.1 bt101.2.1 bt101.2.2).bind fun bt105 => (if (bt105.1.length : Int) > 0 then (if ((l0.length : Int) % 5) = 0 then ((some (([(-1),0,16,1] : List Int) : List Int)).bind fun y109 => (if 0 ≤ ((l0.length : Int) % 4) then (if ((l0.length : Int) % 4) < (y109.length : Int) then (if 0 < (bt105.1.length : Int) then (some ((bt105.1.set (0 : Int).toNat (rd y109 ((l0.length : Int) % 4))),bt101.1,bt101.2.2)) else (none)) else (none)) else (none))) else (some (bt105.1,bt101.1,bt101.2.2))) else (some (bt105.1,bt101.1,bt101.2.2))))) = some (r1,r2,r3) := h
 clear h
 replace H := Option.bind_eq_some_iff.mp H
 obtain ⟨⟨t101,t102,t103⟩,A20,H⟩ := H
 replace H : ((spec_MatrixOf.f k t101 t102 t103).bind fun bt105 => (if (bt105.1.length : Int) > 0 then (if ((l0.length : Int) % 5) = 0 then ((some (([(-1),0,16,1] : List Int) : List Int)).bind fun y109 => (if 0 ≤ ((l0.length : Int) % 4) then (if ((l0.length : Int) % 4) < (y109.length : Int) then (if 0 < (bt105.1.length : Int) then (some ((bt105.1.set (0 : Int).toNat (rd y109 ((l0.length : Int) % 4))),t101,t103)) else (none)) else (none)) else (none))) else (some (bt105.1,t101,t103))) else (some (bt105.1,t101,t103)))) = some (r1,r2,r3) := H
 have A2 := aZ_ A20
 clear A20
 replace H := Option.bind_eq_some_iff.mp H
 obtain ⟨⟨t105,t108⟩,A30,H⟩ := H
 replace H : (if (t105.length : Int) > 0 then (if ((l0.length : Int) % 5) = 0 then ((some (([(-1),0,16,1] : List Int) : List Int)).bind fun y109 => (if 0 ≤ ((l0.length : Int) % 4) then (if ((l0.length : Int) % 4) < (y109.length : Int) then (if 0 < (t105.length : Int) then (some ((t105.set (0 : Int).toNat (rd y109 ((l0.length : Int) % 4))),t101,t103)) else (none)) else (none)) else (none))) else (some (t105,t101,t103))) else (some (t105,t101,t103))) = some (r1,r2,r3) := H
 have A3 := aZ_ A30
 clear A30
 by_cases c4 : (t105.length : Int) > 0
 ·rw [if_pos c4] at H
  have c4b0 : decide (0 < (t105.length : Int)) = true := decide_eq_true c4
  have c4b1 : decide (0 < t105.length) = true := decide_eq_true T44_
  clear c4
  by_cases c5 : ((l0.length : Int) % 5) = 0
  ·rw [if_pos c5] at H
   have c5b0 : (((l0.length : Int) % 5) == 0) = true := beq_iff_eq.mpr c5
   have c5b1 : (((l0.length : Int) % 5) != 0) = false := bne_eq_false_iff_eq.mpr c5
   clear c5
   obtain ⟨y109,hy109⟩ : ∃ y_ : List Int,y_ = (([(-1),0,16,1] : List Int)) := ⟨_,rfl⟩
   replace H : (if 0 ≤ ((l0.length : Int) % 4) then (if ((l0.length : Int) % 4) < (y109.length : Int) then (if 0 < (t105.length : Int) then (some ((t105.set (0 : Int).toNat (rd y109 ((l0.length : Int) % 4))),t101,t103)) else (none)) else (none)) else (none)) = some (r1,r2,r3) := by first | (rw [hy109];with_reducible exact H) | (have H2_ := (Option.bind_some _ _).symm.trans H;rw [hy109];with_reducible exact H2_) | (have H2_ := (Option.bind_some _ _).symm.trans H;with_reducible exact H2_) | with_reducible exact H | (rw [hy109];exact H) | exact H
   have Ny109 := aZ_ hy109
   clear hy109
   obtain ⟨ji6,hji6⟩ : ∃ j_ : Int,((l0.length : Int) % 4) = j_ := ⟨_,rfl⟩
   replace H : (if 0 ≤ (ji6) then (if (ji6) < (y109.length : Int) then (if 0 < (t105.length : Int) then (some ((t105.set (0 : Int).toNat (rd y109 (ji6))),t101,t103)) else (none)) else (none)) else (none)) = some (r1,r2,r3) := by first | (rw [hji6] at H;exact H) | (simp only [hji6] at H ⊢;exact H)
   (try rw [hji6] at A2)
   (try rw [hji6] at A3)
   by_cases c7 : 0 ≤ (ji6)
   ·rw [if_pos c7] at H
    have c7b0 : decide (0 ≤ (ji6)) = true := decide_eq_true c7
    clear c7
    by_cases c8 : (ji6) < (y109.length : Int)
    ·rw [if_pos c8] at H
     have c8b0 : decide ((ji6) < (y109.length : Int)) = true := decide_eq_true c8
     clear c8
     by_cases c9 : 0 < (t105.length : Int)
     ·rw [if_pos c9] at H
      have c9b0 : decide (0 < (t105.length : Int)) = true := decide_eq_true c9
      have c9b1 : decide (0 < t105.length) = true := decide_eq_true T44_
      clear c9
      obtain ⟨y113,hy113⟩ : ∃ y_ : List Int,y_ = (t105.set (0 : Int).toNat (rd y109 (ji6))) := ⟨_,rfl⟩
      replace H : (some (y113,t101,t103)) = some (r1,r2,r3) := by first | (rw [hy113];with_reducible exact H) | (have H2_ := (Option.bind_some _ _).symm.trans H;rw [hy113];with_reducible exact H2_) | (have H2_ := (Option.bind_some _ _).symm.trans H;with_reducible exact H2_) | with_reducible exact H | (rw [hy113];exact H) | exact H
      have Ny113 := aZ_ hy113
      clear hy113
      simp only [Option.some.injEq,Prod.mk.injEq] at H
      obtain ⟨rfl,rfl,rfl⟩ := H
      go_enter Try.func35,Try.ntmps35
      go_wp2_with (first | (go_at_call 68;(with_reducible refine (spec_l20Both.calls k _ _ l0 t101 t102 t103 _ ?side1 ?side2 A2.out).mono ?_);(case side1 => repeat (first | exact HR0.out | (with_reducible refine Kd.C_alloc ?_ _) | (with_reducible refine Kd.C_drewN ?_ _) | (with_reducible refine Kd.C_drew ?_)));(case side2 => exact HC0.out);rintro e w11 ⟨rfl,hb⟩;have n0_ := aZ_ (below_step T5_ hb);clear HB;have HB := n0_;clear n0_;(try clear hb);(try clear hb2);(try clear hk);(try clear hi)) | ((with_reducible refine gate_dst (N := 5) rfl ?_);(try (refine gate_guard (by rfl) ?_;dsimp only));refine box_event ?hg (N := 5) ?hd (cs := #[.int .i64 0,.int .i64 0]) (t := 25) ?hr ?_;(case hd => rfl);(case hg => rfl);(case hr => first | (go_simp;done) | (go_simp;rfl));intro gb104 hg w12 hbox hb;have n0_ := aZ_ (below_step T5_ hb);have n1_ := aZ_ (hbox);have n2_ := aZ_ ((T2_ : w.heap.size ≤ gb104));have n3_ := aZ_ ((T2_ : w.heap.size ≤ gb104));clear HB;have HB := n0_;have BK104 := n1_;have GW104 := n2_;have GE104 := n3_;clear n0_ n1_ n2_ n3_;clear hb hbox hg;have hcz13_0 : w12.cell? ⟨gb104,0,none⟩ = some (.int .i64 0) := (blk_cell BK104.out 0).trans rfl;have hcz13_1 : w12.cell? ⟨gb104,1,none⟩ = some (.int .i64 0) := (blk_cell BK104.out 1).trans rfl;have hfz13_0 := blk_frozen BK104.out 0;have hfz13_1 := blk_frozen BK104.out 1) | (go_at_call 27;(with_reducible refine (spec_MatrixOf.calls k t101 t102 t103 t105 t108 _ A3.out).mono ?_);rintro e w14 ⟨v106,rfl,ho0,hb⟩;have n0_ := aZ_ (Kd.R_lower ho0 (below_size T9_));have n1_ := aZ_ (blk_below (g := gb104) (o := .cells #[.int .i64 t101,.int .i64 t102] 25 (0,0)) T7_ hb);have n2_ := aZ_ (below_step T9_ hb);clear BK104;clear HB;have HO107 := n0_;have BK104 := n1_;have HB := n2_;clear n0_ n1_ n2_;(try clear hb);(try clear hb2);(try clear hk);(try clear hi);(try clear ho0);obtain ⟨Ao15,co15,eo15⟩ := Kd.R_slice HO107.out;subst eo15) | ((with_reducible refine gate_dst (N := 30) rfl ?_);(try (refine gate_guard (by rfl) ?_;dsimp only));refine Kd.R_lit (Kd.int .i64) _ 3 ?hg (N := 30) ?hd (xs := ([(-1),0,16,1] : List Int)) (inner := [.int .i64 (-1),.int .i64 0,.int .i64 16,.int .i64 1]) (ok := fun _ => True) (okp := fun _ => True) ?hr ?hp (fun _ hk => hk) trivial (Below.refl _ _) (Nat.le_refl _) T49_ ?_;(case hd => rfl);(case hg => rfl);(case hr => first | (go_simp;done) | (go_simp;rfl));(case hp => exact (Reps.one (show Kd.M (Kd.int .i64) _ _ _ (-1) [.int .i64 (-1)] from rfl) (Reps.one (show Kd.M (Kd.int .i64) _ _ _ 0 [.int .i64 0] from rfl) (Reps.one (show Kd.M (Kd.int .i64) _ _ _ 16 [.int .i64 16] from rfl) (Reps.one (show Kd.M (Kd.int .i64) _ _ _ 1 [.int .i64 1] from rfl) (Reps.none _ _))))));intro v110 w16 ho17 hb hg_ hnew_;clear hg_ hnew_;(first | rw [← Ny109.out] at ho17 | (simp only [Int.reduceToNat] at ho17;rw [← Ny109.out] at ho17));have n0_ := aZ_ (Kd.R_elder' T37_ (Kd.R_base ho17) hb);have n1_ := aZ_ (Kd.R_lower (Kd.R_new' ho17 (Kd.R_lt T37_)) (below_size T9_));have n2_ := aZ_ (blk_below (g := gb104) (o := .cells #[.int .i64 t101,.int .i64 t102] 25 (0,0)) T43_ hb);have n3_ := aZ_ (below_step T9_ hb);clear HO107;clear BK104;clear HB;have HO107 := n0_;have HO111 := n1_;have BK104 := n2_;have HB := n3_;clear n0_ n1_ n2_ n3_;clear hb ho17;obtain ⟨Ao18,co18,eo18⟩ := Kd.R_slice HO111.out;subst eo18;have p112 : 0 ≤ ((ji6) : Int) := of_decide_eq_true T6_;have q112 : (ji6) < (y109.length : Int) := of_decide_eq_true T6_;obtain ⟨ad112,e112,hx112_0⟩ := Kd.at_int (Kd.R_reads' HO111.out).2.2 (ji6) p112 q112;cases e112;replace p112 := eq_true p112;replace q112 := eq_true q112;have p10 : 0 ≤ (0 : Int) := T44_;have q10 : (0 : Int) < ((t105.length : Int) : Int) := of_decide_eq_true T6_;have qi10 : (0 < t105.length) = True := eq_true T44_;obtain ⟨go10,co10,eo10,gb10,gl10,cl10,HG10⟩ := Kd.R_form HO107.out T44_;(first | cases eo10 | (injection eo10 with ea_ en_ ec_;(first | subst ea_ | (injection ea_ with ea_;subst ea_));subst ec_;clear en_));have GB10 := aZ_ gb10;have GG10 := aZ_ HG10;clear gb10 gl10 HG10;obtain ⟨hx10_0,hf10_0⟩ := Kd.R_celln 0 HO107.out (0 : Int) p10 q10;(try rw [show ((0 : Int)).toNat = 0 from rfl] at hx10_0);(try simp only [Nat.reduceMul,Nat.zero_mul,Nat.zero_add,Nat.reduceAdd] at hx10_0);(try rw [show ((0 : Int)).toNat = 0 from rfl] at hf10_0);(try simp only [Nat.reduceMul,Nat.zero_mul,Nat.zero_add,Nat.reduceAdd] at hf10_0);replace p10 := eq_true p10;replace q10 := eq_true q10;have n_ := aZ_ (Kd.R_mono (ok' := (fun k_ => some k_ ≠ (.slice (some ad112) y109.length co18 : Value).ownBlock)) HO107.out (fun k_ hk => hk.2));clear HO107;have HO107 := n_;clear n_;obtain ⟨hy19_,hz19_⟩ := Kd.R_celln 0 HO107.out (0 : Int) T44_ (of_decide_eq_true T6_);(try simp only [Int.reduceToNat,Int.toNat_zero,Int.toNat_ofNat,Nat.reduceMul,Nat.zero_mul,Nat.zero_add] at hy19_ hz19_);(try rw [show ((0 : Int)).toNat = 0 from rfl] at hy19_);(try rw [show ((0 : Int)).toNat = 0 from rfl] at hz19_);have HP19 := Kd.R_putg HO107.out (0 : Int) (rd y109 (ji6))) | ((with_reducible refine gate_store (t := 3) (p := 36) rfl ?_);(try (rw [drewN_self w16];generalize hq_ : World.drewN w16 _ = w16;have n0_ := aZ_ (Kd.R_at hq_ HO107.out);have n1_ := aZ_ (Kd.R_at hq_ HO111.out);have n2_ := aZ_ (blk_at hq_ BK104.out);have n3_ := aZ_ (below_at hq_ HB.out);clear hq_ HO107 HO111 BK104 HB;have HO107 := n0_;have HO111 := n1_;have BK104 := n2_;have HB := n3_;clear n0_ n1_ n2_ n3_;(try (have n_ := aZ_ (Kd.R_mono (ok' := (fun k_ => some k_ ≠ (.slice (some ad112) y109.length co18 : Value).ownBlock)) HO107.out (fun k_ hk => hk.2));clear HO107;have HO107 := n_;clear n_));(try (obtain ⟨hy19_,hz19_⟩ := Kd.R_celln 0 HO107.out (0 : Int) T44_ (of_decide_eq_true T6_)));(try (try simp only [Int.reduceToNat,Int.toNat_zero,Int.toNat_ofNat,Nat.reduceMul,Nat.zero_mul,Nat.zero_add] at hy19_ hz19_));(try (try rw [show ((0 : Int)).toNat = 0 from rfl] at hy19_));(try (try rw [show ((0 : Int)).toNat = 0 from rfl] at hz19_));(try (have HP19 := Kd.R_putg HO107.out (0 : Int) (rd y109 (ji6))))));refine store_event (t := 3) (p := 36) (v := ?vo_w20) (w1 := (w16.setCell ⟨go10,(0 : Int).toNat,none⟩ (.int .i64 (rd y109 (ji6))))) ?hg ?ho ?hn ?hr ?_;(case ho => rfl);(case hg => rfl);(case hn => rfl);(case hr => first | (go_simp;done) | (go_simp;rfl));intro w20 hw;have hg : w16.grownBy w20 (some go10) := (by rw [hw];exact HP19.2);have hp_ : Kd.R (Kd.int .i64) 3 w20 w.heap.size (fun k_ => some k_ ≠ (.slice (some ad112) y109.length co18 : Value).ownBlock) (.slice (some ⟨go10,0,none⟩) t105.length co15) y113 := (by rw [hw,Ny113.out];exact HP19.1);clear HP19;have n0_ := aZ_ (blk_grown (g := gb104) (o := .cells #[.int .i64 t101,.int .i64 t102] 25 (0,0)) T43_ hg (Kd.R_ne HO107.out BK104.out T48_));have n1_ := aZ_ (hp_);have n2_ := aZ_ (Kd.R_after (v := (.slice (some ⟨go10,0,none⟩) t105.length co15)) (v1 := (.slice (some ⟨go10,0,none⟩) t105.length co15)) (ok := (fun _ => True)) T67_ hg (.inl rfl));have n3_ := aZ_ ((by rw [hw];exact below_set (HB.out) GB10.out : Below w.heap.size w w20));clear BK104;clear HO107;clear HO111;clear HB;have BK104 := n0_;have HO107 := n1_;have HO111 := n2_;have HB := n3_;clear n0_ n1_ n2_ n3_;clear hg hw hp_;have hcz21_0 : w20.cell? ⟨gb104,0,none⟩ = some (.int .i64 t101) := (blk_cell BK104.out 0).trans rfl;have hcz21_1 : w20.cell? ⟨gb104,1,none⟩ = some (.int .i64 t102) := (blk_cell BK104.out 1).trans rfl;have hfz21_0 := blk_frozen BK104.out 0;have hfz21_1 := blk_frozen BK104.out 1))
      repeat (go_quiet (first | (go_at_call 68;(with_reducible refine (spec_l20Both.calls k _ _ l0 t101 t102 t103 _ ?side1 ?side2 A2.out).mono ?_);(case side1 => repeat (first | exact HR0.out | (with_reducible refine Kd.C_alloc ?_ _) | (with_reducible refine Kd.C_drewN ?_ _) | (with_reducible refine Kd.C_drew ?_)));(case side2 => exact HC0.out);rintro e w11 ⟨rfl,hb⟩;have n0_ := aZ_ (below_step T5_ hb);clear HB;have HB := n0_;clear n0_;(try clear hb);(try clear hb2);(try clear hk);(try clear hi)) | ((with_reducible refine gate_dst (N := 5) rfl ?_);(try (refine gate_guard (by rfl) ?_;dsimp only));refine box_event ?hg (N := 5) ?hd (cs := #[.int .i64 0,.int .i64 0]) (t := 25) ?hr ?_;(case hd => rfl);(case hg => rfl);(case hr => first | (go_simp;done) | (go_simp;rfl));intro gb104 hg w12 hbox hb;have n0_ := aZ_ (below_step T5_ hb);have n1_ := aZ_ (hbox);have n2_ := aZ_ ((T2_ : w.heap.size ≤ gb104));have n3_ := aZ_ ((T2_ : w.heap.size ≤ gb104));clear HB;have HB := n0_;have BK104 := n1_;have GW104 := n2_;have GE104 := n3_;clear n0_ n1_ n2_ n3_;clear hb hbox hg;have hcz13_0 : w12.cell? ⟨gb104,0,none⟩ = some (.int .i64 0) := (blk_cell BK104.out 0).trans rfl;have hcz13_1 : w12.cell? ⟨gb104,1,none⟩ = some (.int .i64 0) := (blk_cell BK104.out 1).trans rfl;have hfz13_0 := blk_frozen BK104.out 0;have hfz13_1 := blk_frozen BK104.out 1) | (go_at_call 27;(with_reducible refine (spec_MatrixOf.calls k t101 t102 t103 t105 t108 _ A3.out).mono ?_);rintro e w14 ⟨v106,rfl,ho0,hb⟩;have n0_ := aZ_ (Kd.R_lower ho0 (below_size T9_));have n1_ := aZ_ (blk_below (g := gb104) (o := .cells #[.int .i64 t101,.int .i64 t102] 25 (0,0)) T7_ hb);have n2_ := aZ_ (below_step T9_ hb);clear BK104;clear HB;have HO107 := n0_;have BK104 := n1_;have HB := n2_;clear n0_ n1_ n2_;(try clear hb);(try clear hb2);(try clear hk);(try clear hi);(try clear ho0);obtain ⟨Ao15,co15,eo15⟩ := Kd.R_slice HO107.out;subst eo15) | ((with_reducible refine gate_dst (N := 30) rfl ?_);(try (refine gate_guard (by rfl) ?_;dsimp only));refine Kd.R_lit (Kd.int .i64) _ 3 ?hg (N := 30) ?hd (xs := ([(-1),0,16,1] : List Int)) (inner := [.int .i64 (-1),.int .i64 0,.int .i64 16,.int .i64 1]) (ok := fun _ => True) (okp := fun _ => True) ?hr ?hp (fun _ hk => hk) trivial (Below.refl _ _) (Nat.le_refl _) T49_ ?_;(case hd => rfl);(case hg => rfl);(case hr => first | (go_simp;done) | (go_simp;rfl));(case hp => exact (Reps.one (show Kd.M (Kd.int .i64) _ _ _ (-1) [.int .i64 (-1)] from rfl) (Reps.one (show Kd.M (Kd.int .i64) _ _ _ 0 [.int .i64 0] from rfl) (Reps.one (show Kd.M (Kd.int .i64) _ _ _ 16 [.int .i64 16] from rfl) (Reps.one (show Kd.M (Kd.int .i64) _ _ _ 1 [.int .i64 1] from rfl) (Reps.none _ _))))));intro v110 w16 ho17 hb hg_ hnew_;clear hg_ hnew_;(first | rw [← Ny109.out] at ho17 | (simp only [Int.reduceToNat] at ho17;rw [← Ny109.out] at ho17));have n0_ := aZ_ (Kd.R_elder' T37_ (Kd.R_base ho17) hb);have n1_ := aZ_ (Kd.R_lower (Kd.R_new' ho17 (Kd.R_lt T37_)) (below_size T9_));have n2_ := aZ_ (blk_below (g := gb104) (o := .cells #[.int .i64 t101,.int .i64 t102] 25 (0,0)) T43_ hb);have n3_ := aZ_ (below_step T9_ hb);clear HO107;clear BK104;clear HB;have HO107 := n0_;have HO111 := n1_;have BK104 := n2_;have HB := n3_;clear n0_ n1_ n2_ n3_;clear hb ho17;obtain ⟨Ao18,co18,eo18⟩ := Kd.R_slice HO111.out;subst eo18;have p112 : 0 ≤ ((ji6) : Int) := of_decide_eq_true T6_;have q112 : (ji6) < (y109.length : Int) := of_decide_eq_true T6_;obtain ⟨ad112,e112,hx112_0⟩ := Kd.at_int (Kd.R_reads' HO111.out).2.2 (ji6) p112 q112;cases e112;replace p112 := eq_true p112;replace q112 := eq_true q112;have p10 : 0 ≤ (0 : Int) := T44_;have q10 : (0 : Int) < ((t105.length : Int) : Int) := of_decide_eq_true T6_;have qi10 : (0 < t105.length) = True := eq_true T44_;obtain ⟨go10,co10,eo10,gb10,gl10,cl10,HG10⟩ := Kd.R_form HO107.out T44_;(first | cases eo10 | (injection eo10 with ea_ en_ ec_;(first | subst ea_ | (injection ea_ with ea_;subst ea_));subst ec_;clear en_));have GB10 := aZ_ gb10;have GG10 := aZ_ HG10;clear gb10 gl10 HG10;obtain ⟨hx10_0,hf10_0⟩ := Kd.R_celln 0 HO107.out (0 : Int) p10 q10;(try rw [show ((0 : Int)).toNat = 0 from rfl] at hx10_0);(try simp only [Nat.reduceMul,Nat.zero_mul,Nat.zero_add,Nat.reduceAdd] at hx10_0);(try rw [show ((0 : Int)).toNat = 0 from rfl] at hf10_0);(try simp only [Nat.reduceMul,Nat.zero_mul,Nat.zero_add,Nat.reduceAdd] at hf10_0);replace p10 := eq_true p10;replace q10 := eq_true q10;have n_ := aZ_ (Kd.R_mono (ok' := (fun k_ => some k_ ≠ (.slice (some ad112) y109.length co18 : Value).ownBlock)) HO107.out (fun k_ hk => hk.2));clear HO107;have HO107 := n_;clear n_;obtain ⟨hy19_,hz19_⟩ := Kd.R_celln 0 HO107.out (0 : Int) T44_ (of_decide_eq_true T6_);(try simp only [Int.reduceToNat,Int.toNat_zero,Int.toNat_ofNat,Nat.reduceMul,Nat.zero_mul,Nat.zero_add] at hy19_ hz19_);(try rw [show ((0 : Int)).toNat = 0 from rfl] at hy19_);(try rw [show ((0 : Int)).toNat = 0 from rfl] at hz19_);have HP19 := Kd.R_putg HO107.out (0 : Int) (rd y109 (ji6))) | ((with_reducible refine gate_store (t := 3) (p := 36) rfl ?_);(try (rw [drewN_self w16];generalize hq_ : World.drewN w16 _ = w16;have n0_ := aZ_ (Kd.R_at hq_ HO107.out);have n1_ := aZ_ (Kd.R_at hq_ HO111.out);have n2_ := aZ_ (blk_at hq_ BK104.out);have n3_ := aZ_ (below_at hq_ HB.out);clear hq_ HO107 HO111 BK104 HB;have HO107 := n0_;have HO111 := n1_;have BK104 := n2_;have HB := n3_;clear n0_ n1_ n2_ n3_;(try (have n_ := aZ_ (Kd.R_mono (ok' := (fun k_ => some k_ ≠ (.slice (some ad112) y109.length co18 : Value).ownBlock)) HO107.out (fun k_ hk => hk.2));clear HO107;have HO107 := n_;clear n_));(try (obtain ⟨hy19_,hz19_⟩ := Kd.R_celln 0 HO107.out (0 : Int) T44_ (of_decide_eq_true T6_)));(try (try simp only [Int.reduceToNat,Int.toNat_zero,Int.toNat_ofNat,Nat.reduceMul,Nat.zero_mul,Nat.zero_add] at hy19_ hz19_));(try (try rw [show ((0 : Int)).toNat = 0 from rfl] at hy19_));(try (try rw [show ((0 : Int)).toNat = 0 from rfl] at hz19_));(try (have HP19 := Kd.R_putg HO107.out (0 : Int) (rd y109 (ji6))))));refine store_event (t := 3) (p := 36) (v := ?vo_w20) (w1 := (w16.setCell ⟨go10,(0 : Int).toNat,none⟩ (.int .i64 (rd y109 (ji6))))) ?hg ?ho ?hn ?hr ?_;(case ho => rfl);(case hg => rfl);(case hn => rfl);(case hr => first | (go_simp;done) | (go_simp;rfl));intro w20 hw;have hg : w16.grownBy w20 (some go10) := (by rw [hw];exact HP19.2);have hp_ : Kd.R (Kd.int .i64) 3 w20 w.heap.size (fun k_ => some k_ ≠ (.slice (some ad112) y109.length co18 : Value).ownBlock) (.slice (some ⟨go10,0,none⟩) t105.length co15) y113 := (by rw [hw,Ny113.out];exact HP19.1);clear HP19;have n0_ := aZ_ (blk_grown (g := gb104) (o := .cells #[.int .i64 t101,.int .i64 t102] 25 (0,0)) T43_ hg (Kd.R_ne HO107.out BK104.out T48_));have n1_ := aZ_ (hp_);have n2_ := aZ_ (Kd.R_after (v := (.slice (some ⟨go10,0,none⟩) t105.length co15)) (v1 := (.slice (some ⟨go10,0,none⟩) t105.length co15)) (ok := (fun _ => True)) T67_ hg (.inl rfl));have n3_ := aZ_ ((by rw [hw];exact below_set (HB.out) GB10.out : Below w.heap.size w w20));clear BK104;clear HO107;clear HO111;clear HB;have BK104 := n0_;have HO107 := n1_;have HO111 := n2_;have HB := n3_;clear n0_ n1_ n2_ n3_;clear hg hw hp_;have hcz21_0 : w20.cell? ⟨gb104,0,none⟩ = some (.int .i64 t101) := (blk_cell BK104.out 0).trans rfl;have hcz21_1 : w20.cell? ⟨gb104,1,none⟩ = some (.int .i64 t102) := (blk_cell BK104.out 1).trans rfl;have hfz21_0 := blk_frozen BK104.out 0;have hfz21_1 := blk_frozen BK104.out 1));try go_wp2_with (first | (go_at_call 68;(with_reducible refine (spec_l20Both.calls k _ _ l0 t101 t102 t103 _ ?side1 ?side2 A2.out).mono ?_);(case side1 => repeat (first | exact HR0.out | (with_reducible refine Kd.C_alloc ?_ _) | (with_reducible refine Kd.C_drewN ?_ _) | (with_reducible refine Kd.C_drew ?_)));(case side2 => exact HC0.out);rintro e w11 ⟨rfl,hb⟩;have n0_ := aZ_ (below_step T5_ hb);clear HB;have HB := n0_;clear n0_;(try clear hb);(try clear hb2);(try clear hk);(try clear hi)) | ((with_reducible refine gate_dst (N := 5) rfl ?_);(try (refine gate_guard (by rfl) ?_;dsimp only));refine box_event ?hg (N := 5) ?hd (cs := #[.int .i64 0,.int .i64 0]) (t := 25) ?hr ?_;(case hd => rfl);(case hg => rfl);(case hr => first | (go_simp;done) | (go_simp;rfl));intro gb104 hg w12 hbox hb;have n0_ := aZ_ (below_step T5_ hb);have n1_ := aZ_ (hbox);have n2_ := aZ_ ((T2_ : w.heap.size ≤ gb104));have n3_ := aZ_ ((T2_ : w.heap.size ≤ gb104));clear HB;have HB := n0_;have BK104 := n1_;have GW104 := n2_;have GE104 := n3_;clear n0_ n1_ n2_ n3_;clear hb hbox hg;have hcz13_0 : w12.cell? ⟨gb104,0,none⟩ = some (.int .i64 0) := (blk_cell BK104.out 0).trans rfl;have hcz13_1 : w12.cell? ⟨gb104,1,none⟩ = some (.int .i64 0) := (blk_cell BK104.out 1).trans rfl;have hfz13_0 := blk_frozen BK104.out 0;have hfz13_1 := blk_frozen BK104.out 1) | (go_at_call 27;(with_reducible refine (spec_MatrixOf.calls k t101 t102 t103 t105 t108 _ A3.out).mono ?_);rintro e w14 ⟨v106,rfl,ho0,hb⟩;have n0_ := aZ_ (Kd.R_lower ho0 (below_size T9_));have n1_ := aZ_ (blk_below (g := gb104) (o := .cells #[.int .i64 t101,.int .i64 t102] 25 (0,0)) T7_ hb);have n2_ := aZ_ (below_step T9_ hb);clear BK104;clear HB;have HO107 := n0_;have BK104 := n1_;have HB := n2_;clear n0_ n1_ n2_;(try clear hb);(try clear hb2);(try clear hk);(try clear hi);(try clear ho0);obtain ⟨Ao15,co15,eo15⟩ := Kd.R_slice HO107.out;subst eo15) | ((with_reducible refine gate_dst (N := 30) rfl ?_);(try (refine gate_guard (by rfl) ?_;dsimp only));refine Kd.R_lit (Kd.int .i64) _ 3 ?hg (N := 30) ?hd (xs := ([(-1),0,16,1] : List Int)) (inner := [.int .i64 (-1),.int .i64 0,.int .i64 16,.int .i64 1]) (ok := fun _ => True) (okp := fun _ => True) ?hr ?hp (fun _ hk => hk) trivial (Below.refl _ _) (Nat.le_refl _) T49_ ?_;(case hd => rfl);(case hg => rfl);(case hr => first | (go_simp;done) | (go_simp;rfl));(case hp => exact (Reps.one (show Kd.M (Kd.int .i64) _ _ _ (-1) [.int .i64 (-1)] from rfl) (Reps.one (show Kd.M (Kd.int .i64) _ _ _ 0 [.int .i64 0] from rfl) (Reps.one (show Kd.M (Kd.int .i64) _ _ _ 16 [.int .i64 16] from rfl) (Reps.one (show Kd.M (Kd.int .i64) _ _ _ 1 [.int .i64 1] from rfl) (Reps.none _ _))))));intro v110 w16 ho17 hb hg_ hnew_;clear hg_ hnew_;(first | rw [← Ny109.out] at ho17 | (simp only [Int.reduceToNat] at ho17;rw [← Ny109.out] at ho17));have n0_ := aZ_ (Kd.R_elder' T37_ (Kd.R_base ho17) hb);have n1_ := aZ_ (Kd.R_lower (Kd.R_new' ho17 (Kd.R_lt T37_)) (below_size T9_));have n2_ := aZ_ (blk_below (g := gb104) (o := .cells #[.int .i64 t101,.int .i64 t102] 25 (0,0)) T43_ hb);have n3_ := aZ_ (below_step T9_ hb);clear HO107;clear BK104;clear HB;have HO107 := n0_;have HO111 := n1_;have BK104 := n2_;have HB := n3_;clear n0_ n1_ n2_ n3_;clear hb ho17;obtain ⟨Ao18,co18,eo18⟩ := Kd.R_slice HO111.out;subst eo18;have p112 : 0 ≤ ((ji6) : Int) := of_decide_eq_true T6_;have q112 : (ji6) < (y109.length : Int) := of_decide_eq_true T6_;obtain ⟨ad112,e112,hx112_0⟩ := Kd.at_int (Kd.R_reads' HO111.out).2.2 (ji6) p112 q112;cases e112;replace p112 := eq_true p112;replace q112 := eq_true q112;have p10 : 0 ≤ (0 : Int) := T44_;have q10 : (0 : Int) < ((t105.length : Int) : Int) := of_decide_eq_true T6_;have qi10 : (0 < t105.length) = True := eq_true T44_;obtain ⟨go10,co10,eo10,gb10,gl10,cl10,HG10⟩ := Kd.R_form HO107.out T44_;(first | cases eo10 | (injection eo10 with ea_ en_ ec_;(first | subst ea_ | (injection ea_ with ea_;subst ea_));subst ec_;clear en_));have GB10 := aZ_ gb10;have GG10 := aZ_ HG10;clear gb10 gl10 HG10;obtain ⟨hx10_0,hf10_0⟩ := Kd.R_celln 0 HO107.out (0 : Int) p10 q10;(try rw [show ((0 : Int)).toNat = 0 from rfl] at hx10_0);(try simp only [Nat.reduceMul,Nat.zero_mul,Nat.zero_add,Nat.reduceAdd] at hx10_0);(try rw [show ((0 : Int)).toNat = 0 from rfl] at hf10_0);(try simp only [Nat.reduceMul,Nat.zero_mul,Nat.zero_add,Nat.reduceAdd] at hf10_0);replace p10 := eq_true p10;replace q10 := eq_true q10;have n_ := aZ_ (Kd.R_mono (ok' := (fun k_ => some k_ ≠ (.slice (some ad112) y109.length co18 : Value).ownBlock)) HO107.out (fun k_ hk => hk.2));clear HO107;have HO107 := n_;clear n_;obtain ⟨hy19_,hz19_⟩ := Kd.R_celln 0 HO107.out (0 : Int) T44_ (of_decide_eq_true T6_);(try simp only [Int.reduceToNat,Int.toNat_zero,Int.toNat_ofNat,Nat.reduceMul,Nat.zero_mul,Nat.zero_add] at hy19_ hz19_);(try rw [show ((0 : Int)).toNat = 0 from rfl] at hy19_);(try rw [show ((0 : Int)).toNat = 0 from rfl] at hz19_);have HP19 := Kd.R_putg HO107.out (0 : Int) (rd y109 (ji6))) | ((with_reducible refine gate_store (t := 3) (p := 36) rfl ?_);(try (rw [drewN_self w16];generalize hq_ : World.drewN w16 _ = w16;have n0_ := aZ_ (Kd.R_at hq_ HO107.out);have n1_ := aZ_ (Kd.R_at hq_ HO111.out);have n2_ := aZ_ (blk_at hq_ BK104.out);have n3_ := aZ_ (below_at hq_ HB.out);clear hq_ HO107 HO111 BK104 HB;have HO107 := n0_;have HO111 := n1_;have BK104 := n2_;have HB := n3_;clear n0_ n1_ n2_ n3_;(try (have n_ := aZ_ (Kd.R_mono (ok' := (fun k_ => some k_ ≠ (.slice (some ad112) y109.length co18 : Value).ownBlock)) HO107.out (fun k_ hk => hk.2));clear HO107;have HO107 := n_;clear n_));(try (obtain ⟨hy19_,hz19_⟩ := Kd.R_celln 0 HO107.out (0 : Int) T44_ (of_decide_eq_true T6_)));(try (try simp only [Int.reduceToNat,Int.toNat_zero,Int.toNat_ofNat,Nat.reduceMul,Nat.zero_mul,Nat.zero_add] at hy19_ hz19_));(try (try rw [show ((0 : Int)).toNat = 0 from rfl] at hy19_));(try (try rw [show ((0 : Int)).toNat = 0 from rfl] at hz19_));(try (have HP19 := Kd.R_putg HO107.out (0 : Int) (rd y109 (ji6))))));refine store_event (t := 3) (p := 36) (v := ?vo_w20) (w1 := (w16.setCell ⟨go10,(0 : Int).toNat,none⟩ (.int .i64 (rd y109 (ji6))))) ?hg ?ho ?hn ?hr ?_;(case ho => rfl);(case hg => rfl);(case hn => rfl);(case hr => first | (go_simp;done) | (go_simp;rfl));intro w20 hw;have hg : w16.grownBy w20 (some go10) := (by rw [hw];exact HP19.2);have hp_ : Kd.R (Kd.int .i64) 3 w20 w.heap.size (fun k_ => some k_ ≠ (.slice (some ad112) y109.length co18 : Value).ownBlock) (.slice (some ⟨go10,0,none⟩) t105.length co15) y113 := (by rw [hw,Ny113.out];exact HP19.1);clear HP19;have n0_ := aZ_ (blk_grown (g := gb104) (o := .cells #[.int .i64 t101,.int .i64 t102] 25 (0,0)) T43_ hg (Kd.R_ne HO107.out BK104.out T48_));have n1_ := aZ_ (hp_);have n2_ := aZ_ (Kd.R_after (v := (.slice (some ⟨go10,0,none⟩) t105.length co15)) (v1 := (.slice (some ⟨go10,0,none⟩) t105.length co15)) (ok := (fun _ => True)) T67_ hg (.inl rfl));have n3_ := aZ_ ((by rw [hw];exact below_set (HB.out) GB10.out : Below w.heap.size w w20));clear BK104;clear HO107;clear HO111;clear HB;have BK104 := n0_;have HO107 := n1_;have HO111 := n2_;have HB := n3_;clear n0_ n1_ n2_ n3_;clear hg hw hp_;have hcz21_0 : w20.cell? ⟨gb104,0,none⟩ = some (.int .i64 t101) := (blk_cell BK104.out 0).trans rfl;have hcz21_1 : w20.cell? ⟨gb104,1,none⟩ = some (.int .i64 t102) := (blk_cell BK104.out 1).trans rfl;have hfz21_0 := blk_frozen BK104.out 0;have hfz21_1 := blk_frozen BK104.out 1)))
      go_ret3
      exact ⟨_,by first | rfl | (simp [errW_none,errW_some] <;> rfl) | (simp only [← hji6];first | rfl | (simp [errW_none,errW_some] <;> rfl)) | (simp [*,errW_none,errW_some] <;> rfl),by (with_reducible repeat (first | apply Kd.R_alloc | apply Kd.R_drewN | apply Kd.R_drew));exact Kd.R_mono HO107.out (fun _ hk => trivial),by repeat (first | (with_reducible first | exact HB.out | apply below_alloc | apply pw_below_drewN | apply below_drew1 | refine below_set ?_ GE104.out) | exact HB.out)⟩
     ·rw [if_neg c9] at H
      exact absurd H T49_
    ·rw [if_neg c8] at H
     exact absurd H T49_
   ·rw [if_neg c7] at H
    exact absurd H T49_
  ·rw [if_neg c5] at H
   have c5b0 : (((l0.length : Int) % 5) == 0) = false := beq_eq_false_iff_ne.mpr c5
   have c5b1 : (((l0.length : Int) % 5) != 0) = true := bne_iff_ne.mpr c5
   simp only [Option.some.injEq,Prod.mk.injEq] at H
   obtain ⟨rfl,rfl,rfl⟩ := H
   go_enter Try.func35,Try.ntmps35
   go_wp2_with (first | (go_at_call 68;(with_reducible refine (spec_l20Both.calls k _ _ l0 t101 t102 t103 _ ?side1 ?side2 A2.out).mono ?_);(case side1 => repeat (first | exact HR0.out | (with_reducible refine Kd.C_alloc ?_ _) | (with_reducible refine Kd.C_drewN ?_ _) | (with_reducible refine Kd.C_drew ?_)));(case side2 => exact HC0.out);rintro e w22 ⟨rfl,hb⟩;have n0_ := aZ_ (below_step T5_ hb);clear HB;have HB := n0_;clear n0_;(try clear hb);(try clear hb2);(try clear hk);(try clear hi)) | ((with_reducible refine gate_dst (N := 5) rfl ?_);(try (refine gate_guard (by rfl) ?_;dsimp only));refine box_event ?hg (N := 5) ?hd (cs := #[.int .i64 0,.int .i64 0]) (t := 25) ?hr ?_;(case hd => rfl);(case hg => rfl);(case hr => first | (go_simp;done) | (go_simp;rfl));intro gb104 hg w23 hbox hb;have n0_ := aZ_ (below_step T5_ hb);have n1_ := aZ_ (hbox);have n2_ := aZ_ ((T2_ : w.heap.size ≤ gb104));have n3_ := aZ_ ((T2_ : w.heap.size ≤ gb104));clear HB;have HB := n0_;have BK104 := n1_;have GW104 := n2_;have GE104 := n3_;clear n0_ n1_ n2_ n3_;clear hb hbox hg;have hcz24_0 : w23.cell? ⟨gb104,0,none⟩ = some (.int .i64 0) := (blk_cell BK104.out 0).trans rfl;have hcz24_1 : w23.cell? ⟨gb104,1,none⟩ = some (.int .i64 0) := (blk_cell BK104.out 1).trans rfl;have hfz24_0 := blk_frozen BK104.out 0;have hfz24_1 := blk_frozen BK104.out 1) | (go_at_call 27;(with_reducible refine (spec_MatrixOf.calls k t101 t102 t103 t105 t108 _ A3.out).mono ?_);rintro e w25 ⟨v106,rfl,ho0,hb⟩;have n0_ := aZ_ (Kd.R_lower ho0 (below_size T9_));have n1_ := aZ_ (blk_below (g := gb104) (o := .cells #[.int .i64 t101,.int .i64 t102] 25 (0,0)) T7_ hb);have n2_ := aZ_ (below_step T9_ hb);clear BK104;clear HB;have HO107 := n0_;have BK104 := n1_;have HB := n2_;clear n0_ n1_ n2_;(try clear hb);(try clear hb2);(try clear hk);(try clear hi);(try clear ho0);obtain ⟨Ao26,co26,eo26⟩ := Kd.R_slice HO107.out;subst eo26;have hcz27_0 : w25.cell? ⟨gb104,0,none⟩ = some (.int .i64 t101) := (blk_cell BK104.out 0).trans rfl;have hcz27_1 : w25.cell? ⟨gb104,1,none⟩ = some (.int .i64 t102) := (blk_cell BK104.out 1).trans rfl;have hfz27_0 := blk_frozen BK104.out 0;have hfz27_1 := blk_frozen BK104.out 1))
   repeat (go_quiet (first | (go_at_call 68;(with_reducible refine (spec_l20Both.calls k _ _ l0 t101 t102 t103 _ ?side1 ?side2 A2.out).mono ?_);(case side1 => repeat (first | exact HR0.out | (with_reducible refine Kd.C_alloc ?_ _) | (with_reducible refine Kd.C_drewN ?_ _) | (with_reducible refine Kd.C_drew ?_)));(case side2 => exact HC0.out);rintro e w22 ⟨rfl,hb⟩;have n0_ := aZ_ (below_step T5_ hb);clear HB;have HB := n0_;clear n0_;(try clear hb);(try clear hb2);(try clear hk);(try clear hi)) | ((with_reducible refine gate_dst (N := 5) rfl ?_);(try (refine gate_guard (by rfl) ?_;dsimp only));refine box_event ?hg (N := 5) ?hd (cs := #[.int .i64 0,.int .i64 0]) (t := 25) ?hr ?_;(case hd => rfl);(case hg => rfl);(case hr => first | (go_simp;done) | (go_simp;rfl));intro gb104 hg w23 hbox hb;have n0_ := aZ_ (below_step T5_ hb);have n1_ := aZ_ (hbox);have n2_ := aZ_ ((T2_ : w.heap.size ≤ gb104));have n3_ := aZ_ ((T2_ : w.heap.size ≤ gb104));clear HB;have HB := n0_;have BK104 := n1_;have GW104 := n2_;have GE104 := n3_;clear n0_ n1_ n2_ n3_;clear hb hbox hg;have hcz24_0 : w23.cell? ⟨gb104,0,none⟩ = some (.int .i64 0) := (blk_cell BK104.out 0).trans rfl;have hcz24_1 : w23.cell? ⟨gb104,1,none⟩ = some (.int .i64 0) := (blk_cell BK104.out 1).trans rfl;have hfz24_0 := blk_frozen BK104.out 0;have hfz24_1 := blk_frozen BK104.out 1) | (go_at_call 27;(with_reducible refine (spec_MatrixOf.calls k t101 t102 t103 t105 t108 _ A3.out).mono ?_);rintro e w25 ⟨v106,rfl,ho0,hb⟩;have n0_ := aZ_ (Kd.R_lower ho0 (below_size T9_));have n1_ := aZ_ (blk_below (g := gb104) (o := .cells #[.int .i64 t101,.int .i64 t102] 25 (0,0)) T7_ hb);have n2_ := aZ_ (below_step T9_ hb);clear BK104;clear HB;have HO107 := n0_;have BK104 := n1_;have HB := n2_;clear n0_ n1_ n2_;(try clear hb);(try clear hb2);(try clear hk);(try clear hi);(try clear ho0);obtain ⟨Ao26,co26,eo26⟩ := Kd.R_slice HO107.out;subst eo26;have hcz27_0 : w25.cell? ⟨gb104,0,none⟩ = some (.int .i64 t101) := (blk_cell BK104.out 0).trans rfl;have hcz27_1 : w25.cell? ⟨gb104,1,none⟩ = some (.int .i64 t102) := (blk_cell BK104.out 1).trans rfl;have hfz27_0 := blk_frozen BK104.out 0;have hfz27_1 := blk_frozen BK104.out 1));try go_wp2_with (first | (go_at_call 68;(with_reducible refine (spec_l20Both.calls k _ _ l0 t101 t102 t103 _ ?side1 ?side2 A2.out).mono ?_);(case side1 => repeat (first | exact HR0.out | (with_reducible refine Kd.C_alloc ?_ _) | (with_reducible refine Kd.C_drewN ?_ _) | (with_reducible refine Kd.C_drew ?_)));(case side2 => exact HC0.out);rintro e w22 ⟨rfl,hb⟩;have n0_ := aZ_ (below_step T5_ hb);clear HB;have HB := n0_;clear n0_;(try clear hb);(try clear hb2);(try clear hk);(try clear hi)) | ((with_reducible refine gate_dst (N := 5) rfl ?_);(try (refine gate_guard (by rfl) ?_;dsimp only));refine box_event ?hg (N := 5) ?hd (cs := #[.int .i64 0,.int .i64 0]) (t := 25) ?hr ?_;(case hd => rfl);(case hg => rfl);(case hr => first | (go_simp;done) | (go_simp;rfl));intro gb104 hg w23 hbox hb;have n0_ := aZ_ (below_step T5_ hb);have n1_ := aZ_ (hbox);have n2_ := aZ_ ((T2_ : w.heap.size ≤ gb104));have n3_ := aZ_ ((T2_ : w.heap.size ≤ gb104));clear HB;have HB := n0_;have BK104 := n1_;have GW104 := n2_;have GE104 := n3_;clear n0_ n1_ n2_ n3_;clear hb hbox hg;have hcz24_0 : w23.cell? ⟨gb104,0,none⟩ = some (.int .i64 0) := (blk_cell BK104.out 0).trans rfl;have hcz24_1 : w23.cell? ⟨gb104,1,none⟩ = some (.int .i64 0) := (blk_cell BK104.out 1).trans rfl;have hfz24_0 := blk_frozen BK104.out 0;have hfz24_1 := blk_frozen BK104.out 1) | (go_at_call 27;(with_reducible refine (spec_MatrixOf.calls k t101 t102 t103 t105 t108 _ A3.out).mono ?_);rintro e w25 ⟨v106,rfl,ho0,hb⟩;have n0_ := aZ_ (Kd.R_lower ho0 (below_size T9_));have n1_ := aZ_ (blk_below (g := gb104) (o := .cells #[.int .i64 t101,.int .i64 t102] 25 (0,0)) T7_ hb);have n2_ := aZ_ (below_step T9_ hb);clear BK104;clear HB;have HO107 := n0_;have BK104 := n1_;have HB := n2_;clear n0_ n1_ n2_;(try clear hb);(try clear hb2);(try clear hk);(try clear hi);(try clear ho0);obtain ⟨Ao26,co26,eo26⟩ := Kd.R_slice HO107.out;subst eo26;have hcz27_0 : w25.cell? ⟨gb104,0,none⟩ = some (.int .i64 t101) := (blk_cell BK104.out 0).trans rfl;have hcz27_1 : w25.cell? ⟨gb104,1,none⟩ = some (.int .i64 t102) := (blk_cell BK104.out 1).trans rfl;have hfz27_0 := blk_frozen BK104.out 0;have hfz27_1 := blk_frozen BK104.out 1)))
   go_ret3
   exact ⟨_,by first | rfl | (simp [errW_none,errW_some] <;> rfl) | (simp [*,errW_none,errW_some] <;> rfl),by (with_reducible repeat (first | apply Kd.R_alloc | apply Kd.R_drewN | apply Kd.R_drew));exact HO107.out,by repeat (first | (with_reducible first | exact HB.out | apply below_alloc | apply pw_below_drewN | apply below_drew1 | refine below_set ?_ GE104.out) | exact HB.out)⟩
 ·rw [if_neg c4] at H
  have c4b0 : decide (0 < (t105.length : Int)) = false := decide_eq_false c4
  have c4b1 : decide (0 < t105.length) = false := decide_eq_false T44_
  clear c4
  simp only [Option.some.injEq,Prod.mk.injEq] at H
  obtain ⟨rfl,rfl,rfl⟩ := H
  go_enter Try.func35,Try.ntmps35
  go_wp2_with (first | (go_at_call 68;(with_reducible refine (spec_l20Both.calls k _ _ l0 t101 t102 t103 _ ?side1 ?side2 A2.out).mono ?_);(case side1 => repeat (first | exact HR0.out | (with_reducible refine Kd.C_alloc ?_ _) | (with_reducible refine Kd.C_drewN ?_ _) | (with_reducible refine Kd.C_drew ?_)));(case side2 => exact HC0.out);rintro e w28 ⟨rfl,hb⟩;have n0_ := aZ_ (below_step T5_ hb);clear HB;have HB := n0_;clear n0_;(try clear hb);(try clear hb2);(try clear hk);(try clear hi)) | ((with_reducible refine gate_dst (N := 5) rfl ?_);(try (refine gate_guard (by rfl) ?_;dsimp only));refine box_event ?hg (N := 5) ?hd (cs := #[.int .i64 0,.int .i64 0]) (t := 25) ?hr ?_;(case hd => rfl);(case hg => rfl);(case hr => first | (go_simp;done) | (go_simp;rfl));intro gb104 hg w29 hbox hb;have n0_ := aZ_ (below_step T5_ hb);have n1_ := aZ_ (hbox);have n2_ := aZ_ ((T2_ : w.heap.size ≤ gb104));have n3_ := aZ_ ((T2_ : w.heap.size ≤ gb104));clear HB;have HB := n0_;have BK104 := n1_;have GW104 := n2_;have GE104 := n3_;clear n0_ n1_ n2_ n3_;clear hb hbox hg;have hcz30_0 : w29.cell? ⟨gb104,0,none⟩ = some (.int .i64 0) := (blk_cell BK104.out 0).trans rfl;have hcz30_1 : w29.cell? ⟨gb104,1,none⟩ = some (.int .i64 0) := (blk_cell BK104.out 1).trans rfl;have hfz30_0 := blk_frozen BK104.out 0;have hfz30_1 := blk_frozen BK104.out 1) | (go_at_call 27;(with_reducible refine (spec_MatrixOf.calls k t101 t102 t103 t105 t108 _ A3.out).mono ?_);rintro e w31 ⟨v106,rfl,ho0,hb⟩;have n0_ := aZ_ (Kd.R_lower ho0 (below_size T9_));have n1_ := aZ_ (blk_below (g := gb104) (o := .cells #[.int .i64 t101,.int .i64 t102] 25 (0,0)) T7_ hb);have n2_ := aZ_ (below_step T9_ hb);clear BK104;clear HB;have HO107 := n0_;have BK104 := n1_;have HB := n2_;clear n0_ n1_ n2_;(try clear hb);(try clear hb2);(try clear hk);(try clear hi);(try clear ho0);obtain ⟨Ao32,co32,eo32⟩ := Kd.R_slice HO107.out;subst eo32;have hcz33_0 : w31.cell? ⟨gb104,0,none⟩ = some (.int .i64 t101) := (blk_cell BK104.out 0).trans rfl;have hcz33_1 : w31.cell? ⟨gb104,1,none⟩ = some (.int .i64 t102) := (blk_cell BK104.out 1).trans rfl;have hfz33_0 := blk_frozen BK104.out 0;have hfz33_1 := blk_frozen BK104.out 1))
  repeat (go_quiet (first | (go_at_call 68;(with_reducible refine (spec_l20Both.calls k _ _ l0 t101 t102 t103 _ ?side1 ?side2 A2.out).mono ?_);(case side1 => repeat (first | exact HR0.out | (with_reducible refine Kd.C_alloc ?_ _) | (with_reducible refine Kd.C_drewN ?_ _) | (with_reducible refine Kd.C_drew ?_)));(case side2 => exact HC0.out);rintro e w28 ⟨rfl,hb⟩;have n0_ := aZ_ (below_step T5_ hb);clear HB;have HB := n0_;clear n0_;(try clear hb);(try clear hb2);(try clear hk);(try clear hi)) | ((with_reducible refine gate_dst (N := 5) rfl ?_);(try (refine gate_guard (by rfl) ?_;dsimp only));refine box_event ?hg (N := 5) ?hd (cs := #[.int .i64 0,.int .i64 0]) (t := 25) ?hr ?_;(case hd => rfl);(case hg => rfl);(case hr => first | (go_simp;done) | (go_simp;rfl));intro gb104 hg w29 hbox hb;have n0_ := aZ_ (below_step T5_ hb);have n1_ := aZ_ (hbox);have n2_ := aZ_ ((T2_ : w.heap.size ≤ gb104));have n3_ := aZ_ ((T2_ : w.heap.size ≤ gb104));clear HB;have HB := n0_;have BK104 := n1_;have GW104 := n2_;have GE104 := n3_;clear n0_ n1_ n2_ n3_;clear hb hbox hg;have hcz30_0 : w29.cell? ⟨gb104,0,none⟩ = some (.int .i64 0) := (blk_cell BK104.out 0).trans rfl;have hcz30_1 : w29.cell? ⟨gb104,1,none⟩ = some (.int .i64 0) := (blk_cell BK104.out 1).trans rfl;have hfz30_0 := blk_frozen BK104.out 0;have hfz30_1 := blk_frozen BK104.out 1) | (go_at_call 27;(with_reducible refine (spec_MatrixOf.calls k t101 t102 t103 t105 t108 _ A3.out).mono ?_);rintro e w31 ⟨v106,rfl,ho0,hb⟩;have n0_ := aZ_ (Kd.R_lower ho0 (below_size T9_));have n1_ := aZ_ (blk_below (g := gb104) (o := .cells #[.int .i64 t101,.int .i64 t102] 25 (0,0)) T7_ hb);have n2_ := aZ_ (below_step T9_ hb);clear BK104;clear HB;have HO107 := n0_;have BK104 := n1_;have HB := n2_;clear n0_ n1_ n2_;(try clear hb);(try clear hb2);(try clear hk);(try clear hi);(try clear ho0);obtain ⟨Ao32,co32,eo32⟩ := Kd.R_slice HO107.out;subst eo32;have hcz33_0 : w31.cell? ⟨gb104,0,none⟩ = some (.int .i64 t101) := (blk_cell BK104.out 0).trans rfl;have hcz33_1 : w31.cell? ⟨gb104,1,none⟩ = some (.int .i64 t102) := (blk_cell BK104.out 1).trans rfl;have hfz33_0 := blk_frozen BK104.out 0;have hfz33_1 := blk_frozen BK104.out 1));try go_wp2_with (first | (go_at_call 68;(with_reducible refine (spec_l20Both.calls k _ _ l0 t101 t102 t103 _ ?side1 ?side2 A2.out).mono ?_);(case side1 => repeat (first | exact HR0.out | (with_reducible refine Kd.C_alloc ?_ _) | (with_reducible refine Kd.C_drewN ?_ _) | (with_reducible refine Kd.C_drew ?_)));(case side2 => exact HC0.out);rintro e w28 ⟨rfl,hb⟩;have n0_ := aZ_ (below_step T5_ hb);clear HB;have HB := n0_;clear n0_;(try clear hb);(try clear hb2);(try clear hk);(try clear hi)) | ((with_reducible refine gate_dst (N := 5) rfl ?_);(try (refine gate_guard (by rfl) ?_;dsimp only));refine box_event ?hg (N := 5) ?hd (cs := #[.int .i64 0,.int .i64 0]) (t := 25) ?hr ?_;(case hd => rfl);(case hg => rfl);(case hr => first | (go_simp;done) | (go_simp;rfl));intro gb104 hg w29 hbox hb;have n0_ := aZ_ (below_step T5_ hb);have n1_ := aZ_ (hbox);have n2_ := aZ_ ((T2_ : w.heap.size ≤ gb104));have n3_ := aZ_ ((T2_ : w.heap.size ≤ gb104));clear HB;have HB := n0_;have BK104 := n1_;have GW104 := n2_;have GE104 := n3_;clear n0_ n1_ n2_ n3_;clear hb hbox hg;have hcz30_0 : w29.cell? ⟨gb104,0,none⟩ = some (.int .i64 0) := (blk_cell BK104.out 0).trans rfl;have hcz30_1 : w29.cell? ⟨gb104,1,none⟩ = some (.int .i64 0) := (blk_cell BK104.out 1).trans rfl;have hfz30_0 := blk_frozen BK104.out 0;have hfz30_1 := blk_frozen BK104.out 1) | (go_at_call 27;(with_reducible refine (spec_MatrixOf.calls k t101 t102 t103 t105 t108 _ A3.out).mono ?_);rintro e w31 ⟨v106,rfl,ho0,hb⟩;have n0_ := aZ_ (Kd.R_lower ho0 (below_size T9_));have n1_ := aZ_ (blk_below (g := gb104) (o := .cells #[.int .i64 t101,.int .i64 t102] 25 (0,0)) T7_ hb);have n2_ := aZ_ (below_step T9_ hb);clear BK104;clear HB;have HO107 := n0_;have BK104 := n1_;have HB := n2_;clear n0_ n1_ n2_;(try clear hb);(try clear hb2);(try clear hk);(try clear hi);(try clear ho0);obtain ⟨Ao32,co32,eo32⟩ := Kd.R_slice HO107.out;subst eo32;have hcz33_0 : w31.cell? ⟨gb104,0,none⟩ = some (.int .i64 t101) := (blk_cell BK104.out 0).trans rfl;have hcz33_1 : w31.cell? ⟨gb104,1,none⟩ = some (.int .i64 t102) := (blk_cell BK104.out 1).trans rfl;have hfz33_0 := blk_frozen BK104.out 0;have hfz33_1 := blk_frozen BK104.out 1)))
  go_ret3
  exact ⟨_,by first | rfl | (simp [errW_none,errW_some] <;> rfl) | (simp [*,errW_none,errW_some] <;> rfl),by (with_reducible repeat (first | apply Kd.R_alloc | apply Kd.R_drewN | apply Kd.R_drew));exact HO107.out,by repeat (first | (with_reducible first | exact HB.out | apply below_alloc | apply pw_below_drewN | apply below_drew1 | refine below_set ?_ GE104.out) | exact HB.out)⟩
mutual
def spec_TableOfMatrix.j0 : Nat → List Int → Int → Int → Bool → Option (Int × Int × Bool)
 | 0,_,_,_,_ => none
 | k + 1,x0,x1,x2,x26 => if x26 = true then (some (0,0,false)) else (spec_TableOfMatrix.l0 k x0 x1 x2 0 0)
def spec_TableOfMatrix.l0 : Nat → List Int → Int → Int → Int → Int → Option (Int × Int × Bool)
 | 0,_,_,_,_,_ => none
 | k + 1,x0,x1,x2,x8,x9 => if x9 < (x0.length : Int) then (if 0 ≤ x9 then (if 0 ≤ (wrap64 (x1 - x2)) then ((spec_l1In.f (rd x0 x9) 0 (wrap64 ((shl .i64 1 (shl .u64 1 (wrap64 (x1 - x2)))) - 1))).bind fun t105 => (if t105 = true then (spec_TableOfMatrix.l1 k x0 x1 x2 x8 x9 0) else (some (0,0,false)))) else (none)) else (none)) else (some (x1,x8,true))
def spec_TableOfMatrix.l1 : Nat → List Int → Int → Int → Int → Int → Int → Option (Int × Int × Bool)
 | 0,_,_,_,_,_,_ => none
 | k + 1,x0,x1,x2,x8,x9,x10 => if 0 ≤ (wrap64 (x1 - x2)) then (if x10 < (shl .i64 1 (wrap64 (x1 - x2))) then (if 0 ≤ x9 then (if x9 < (x0.length : Int) then (if 0 ≤ x10 then (if 0 ≤ x2 then (if 0 ≤ (Go.bits .or .i64 x9 (shl .i64 x10 x2)) then (spec_TableOfMatrix.l1 k x0 x1 x2 (Go.bits .or .i64 x8 (shl .i64 (Go.bits .and .i64 (shr .i64 (rd x0 x9) x10) 1) (Go.bits .or .i64 x9 (shl .i64 x10 x2)))) x9 (wrap64 (x10 + 1))) else (none)) else (none)) else (none)) else (none)) else (none)) else (spec_TableOfMatrix.l0 k x0 x1 x2 x8 (wrap64 (x9 + 1)))) else (none)
end
def spec_TableOfMatrix.f (k : Nat) (l0 : List Int) (a1 : Int) (a2 : Int) : Option (Int × Int × Bool) := (spec_l1In.f a1 0 5).bind fun t102 => (if t102 = true then ((spec_l1In.f a2 0 a1).bind fun t103 => (if t103 = true then (if 0 ≤ a2 then (spec_TableOfMatrix.j0 k l0 a1 a2 ((l0.length : Int) != (shl .i64 1 a2))) else (none)) else (spec_TableOfMatrix.j0 k l0 a1 a2 true))) else (spec_TableOfMatrix.j0 k l0 a1 a2 true))
def spec_TableOfMatrix.T7 : Bool × List (List Nat × List Nat) := (true,[([],[]),([],[]),([0,1],[0,1]),([2],[2]),([],[]),([],[]),([4,5],[4,5]),([6],[6]),([7],[7]),([8],[8]),([3,9],[3,9]),([10],[10])])
def spec_TableOfMatrix.B7 : List Nat := [0,0,3,7,0,0,48,112,240,496,1023,2047]
theorem spec_TableOfMatrix.tab7 : rtab .any (opsOf Try.f36 7) = spec_TableOfMatrix.T7 := by kernel_rfl
theorem spec_TableOfMatrix.bits7 : waitsOk spec_TableOfMatrix.T7.2 spec_TableOfMatrix.B7 = true := by kernel_rfl
def spec_TableOfMatrix.T12 : Bool × List (List Nat × List Nat) := (true,[([],[]),([],[]),([],[]),([1,2],[1,2]),([3],[3]),([],[]),([4,5],[4,5]),([6],[6]),([],[]),([],[]),([],[]),([9,10],[9,10]),([8,11],[8,11]),([7,12],[7,12]),([0,13],[0,13]),([14,0,1,2,3,4,5,6,7,8,9,10,11,12,13,14],[0,14])])
def spec_TableOfMatrix.B12 : List Nat := [0,0,0,6,14,0,62,126,0,0,0,1536,3840,8190,16383,32767]
theorem spec_TableOfMatrix.tab12 : rtab .any (opsOf Try.f36 12) = spec_TableOfMatrix.T12 := by kernel_rfl
theorem spec_TableOfMatrix.bits12 : waitsOk spec_TableOfMatrix.T12.2 spec_TableOfMatrix.B12 = true := by kernel_rfl
set_option maxHeartbeats 8000000 in
set_option maxRecDepth 100000 in
theorem spec_TableOfMatrix.calls (k : Nat) (A0 : Option Addr) (c0 : Nat) (l0 : List Int) (a1 : Int) (a2 : Int) (r1 : Int) (r2 : Int) (r3 : Bool) (w : World) (hr0 : Kd.C (Kd.int .i64) w A0 l0.length l0) (hc0 : l0.length ≤ c0) (h : spec_TableOfMatrix.f k l0 a1 a2 = some (r1,r2,r3)) :
  Calls Try.prog 36 #[.slice A0 l0.length c0,.int .i64 a1,.int .i64 a2] w fun e w' => e = .returned (.tuple #[.agg #[.int .i64 r1,.int .i64 r2],.bool r3]) ∧ Below w.heap.size w w' := by
 have hu25 := Try.underlying25
 have HR0 := aZ_ hr0
 have HC0 := aZ_ hc0
 clear hr0 hc0
 have HB := aZ_ (Below.refl w.heap.size w)
 have H : ((spec_l1In.f a1 0 5).bind fun t102 => (if t102 = true then ((spec_l1In.f a2 0 a1).bind fun t103 => (if t103 = true then (if 0 ≤ a2 then (spec_TableOfMatrix.j0 k l0 a1 a2 ((l0.length : Int) != (shl .i64 1 a2))) else (none)) else (spec_TableOfMatrix.j0 k l0 a1 a2 true))) else (spec_TableOfMatrix.j0 k l0 a1 a2 true))) = some (r1,r2,r3) := h
 clear h
 have HC4 := aZ_ H
 clear H
 go_enter Try.func36,Try.ntmps36
 go_upto_region 1 with (first | ((with_reducible refine gate_dst (N := 6) rfl ?_);(try (refine gate_guard (by rfl) ?_;dsimp only));refine box_event ?hg (N := 6) ?hd (cs := #[.int .i64 0,.int .i64 0]) (t := 25) ?hr ?_;(case hd => rfl);(case hg => rfl);(case hr => first | (go_simp;done) | (go_simp;rfl));intro gb101 hg w5 hbox hb;have n0_ := aZ_ (below_step T5_ hb);have n1_ := aZ_ (hbox);have n2_ := aZ_ ((T2_ : w.heap.size ≤ gb101));have n3_ := aZ_ ((T2_ : w.heap.size ≤ gb101));clear HB;have HB := n0_;have BK101 := n1_;have GW101 := n2_;have GE101 := n3_;clear n0_ n1_ n2_ n3_;clear hb hbox hg))
 (try simp only [Act.put,List.setIfInBounds_toArray,List.set_cons_zero,List.set_cons_succ])
 go_cut [26] (fun v26 wc => ∃ (kq : Nat) (x26_3 : Bool),v26 = .bool x26_3 ∧ Aside0 (spec_TableOfMatrix.j0 kq l0 a1 a2 x26_3 = some (r1,r2,r3)) ∧ Aside0 (kq ≤ k) ∧ Aside0 (wc.heap[gb101]? = some (.cells #[.int .i64 0,.int .i64 0] 25 (0,0))) ∧ Aside0 (Below w.heap.size w wc))
 case first =>
  have H := HC4.out
  clear HC4
  replace H := Option.bind_eq_some_iff.mp H
  obtain ⟨t102,A60,H⟩ := H
  replace H : (if t102 = true then ((spec_l1In.f a2 0 a1).bind fun t103 => (if t103 = true then (if 0 ≤ a2 then (spec_TableOfMatrix.j0 k l0 a1 a2 ((l0.length : Int) != (shl .i64 1 a2))) else (none)) else (spec_TableOfMatrix.j0 k l0 a1 a2 true))) else (spec_TableOfMatrix.j0 k l0 a1 a2 true)) = some (r1,r2,r3) := H
  have A6 := aZ_ A60
  clear A60
  by_cases c7 : t102 = true
  ·subst c7
   have H1 : ((spec_l1In.f a2 0 a1).bind fun t103 => (if t103 = true then (if 0 ≤ a2 then (spec_TableOfMatrix.j0 k l0 a1 a2 ((l0.length : Int) != (shl .i64 1 a2))) else (none)) else (spec_TableOfMatrix.j0 k l0 a1 a2 true))) = some (r1,r2,r3) := by rw [if_pos rfl] at H;exact H
   clear H
   have H := H1
   clear H1
   replace H := Option.bind_eq_some_iff.mp H
   obtain ⟨t103,A80,H⟩ := H
   replace H : (if t103 = true then (if 0 ≤ a2 then (spec_TableOfMatrix.j0 k l0 a1 a2 ((l0.length : Int) != (shl .i64 1 a2))) else (none)) else (spec_TableOfMatrix.j0 k l0 a1 a2 true)) = some (r1,r2,r3) := H
   have A8 := aZ_ A80
   clear A80
   by_cases c9 : t103 = true
   ·subst c9
    have H1 : (if 0 ≤ a2 then (spec_TableOfMatrix.j0 k l0 a1 a2 ((l0.length : Int) != (shl .i64 1 a2))) else (none)) = some (r1,r2,r3) := by rw [if_pos rfl] at H;exact H
    clear H
    have H := H1
    clear H1
    by_cases c10 : 0 ≤ a2
    ·rw [if_pos c10] at H
     have c10b0 := eq_true c10
     have c10b1 : decide (0 ≤ a2) = true := decide_eq_true c10
     clear c10
     obtain ⟨ji11,hji11⟩ : ∃ j_ : Int,(shl .i64 1 a2) = j_ := ⟨_,rfl⟩
     replace H : (spec_TableOfMatrix.j0 k l0 a1 a2 ((l0.length : Int) != (ji11))) = some (r1,r2,r3) := by first | (rw [hji11] at H;exact H) | (simp only [hji11] at H ⊢;exact H)
     (try rw [hji11] at A6)
     (try rw [hji11] at A8)
     have hji11_ : (IntKind.i64.wrap (1 * 2 ^ min a2.toNat 64)) = ji11 := hji11
     have hji11z : a2 ≤ 64 → (IntKind.i64.wrap (1 * 2 ^ a2.toNat)) = ji11 := shl_small hji11
     have hji11u : (IntKind.i64.wrap (2 ^ min a2.toNat 64)) = ji11 := by have h_ := hji11_;rw [Int.one_mul] at h_;exact h_
     have hji11v : a2 ≤ 64 → (IntKind.i64.wrap (2 ^ a2.toNat)) = ji11 := fun hle_ => by have h_ := hji11z hle_;rw [Int.one_mul] at h_;exact h_
     have hji11y : (wrap64 (1 * 2 ^ min a2.toNat 64)) = ji11 := (i64_w _).symm.trans hji11_
     have hji11x : a2 ≤ 64 → (wrap64 (1 * 2 ^ a2.toNat)) = ji11 := fun h_ => (i64_w _).symm.trans (hji11z h_)
     have H' := aZ_ H
     clear H
     go_wp2_with (first | ((with_reducible refine gate_callee (f := 61) rfl ?_);refine goesL_ (some 12) rfl rfl Try.func61 T15_ rfl #[.int .i64 a1,.int .i64 0,.int .i64 5] rfl T4_ ?_;(with_reducible refine (spec_l1In.calls a1 0 5 true _ A6.out).mono ?_);rintro e w' ⟨rfl,⟨nd,rfl⟩⟩;refine ⟨_,rfl,?_⟩) | (go_at_call 61;(with_reducible refine (spec_l1In.calls a2 0 a1 true _ A8.out).mono ?_);rintro e w' ⟨rfl,⟨nd,rfl⟩⟩))
     go_meet
     case rel => exact ⟨_,(((l0.length : Int) != (ji11))),(by first | rfl | (simp;done) | (simp only [← hji11] <;> (first | rfl | simp)) | (simp [*];done)),H',⟨by first | omega | exact Nat.le_refl _⟩,⟨by (with_reducible repeat (first | refine blk_drewN ?_ _ | refine blk_drew ?_ | refine blk_alloc ?_ _));exact BK101.out⟩,⟨by repeat (first | (with_reducible first | exact HB.out | apply below_alloc | apply pw_below_drewN | apply below_drew1 | refine below_set ?_ GE101.out) | exact HB.out)⟩⟩
    ·rw [if_neg c10] at H
     exact absurd H T49_
   ·replace c9 := Bool.eq_false_iff.mpr c9
    subst c9
    have H1 : (spec_TableOfMatrix.j0 k l0 a1 a2 true) = some (r1,r2,r3) := by rw [if_neg (show ¬ (false = true) by decide)] at H;exact H
    clear H
    have H := H1
    clear H1
    have H' := aZ_ H
    clear H
    go_wp2_with (first | ((with_reducible refine gate_callee (f := 61) rfl ?_);refine goesL_ (some 12) rfl rfl Try.func61 T15_ rfl #[.int .i64 a1,.int .i64 0,.int .i64 5] rfl T4_ ?_;(with_reducible refine (spec_l1In.calls a1 0 5 true _ A6.out).mono ?_);rintro e w' ⟨rfl,⟨nd,rfl⟩⟩;refine ⟨_,rfl,?_⟩) | (go_at_call 61;(with_reducible refine (spec_l1In.calls a2 0 a1 false _ A8.out).mono ?_);rintro e w' ⟨rfl,⟨nd,rfl⟩⟩))
    go_meet
    case rel => exact ⟨_,(true),T10_,H',⟨by first | omega | exact Nat.le_refl _⟩,⟨by (with_reducible repeat (first | refine blk_drewN ?_ _ | refine blk_drew ?_ | refine blk_alloc ?_ _));exact BK101.out⟩,⟨by repeat (first | (with_reducible first | exact HB.out | apply below_alloc | apply pw_below_drewN | apply below_drew1 | refine below_set ?_ GE101.out) | exact HB.out)⟩⟩
  ·replace c7 := Bool.eq_false_iff.mpr c7
   subst c7
   have H1 : (spec_TableOfMatrix.j0 k l0 a1 a2 true) = some (r1,r2,r3) := by rw [if_neg (show ¬ (false = true) by decide)] at H;exact H
   clear H
   have H := H1
   clear H1
   have H' := aZ_ H
   clear H
   go_wp2_with (first | ((with_reducible refine gate_callee (f := 61) rfl ?_);refine goesL_ (some 12) rfl rfl Try.func61 T15_ rfl #[.int .i64 a1,.int .i64 0,.int .i64 5] rfl T4_ ?_;(with_reducible refine (spec_l1In.calls a1 0 5 false _ A6.out).mono ?_);rintro e w' ⟨rfl,⟨nd,rfl⟩⟩;refine ⟨_,rfl,?_⟩))
   go_meet
   case rel => exact ⟨_,(true),T10_,H',⟨by first | omega | exact Nat.le_refl _⟩,⟨by (with_reducible repeat (first | refine blk_drewN ?_ _ | refine blk_drew ?_ | refine blk_alloc ?_ _));exact BK101.out⟩,⟨by repeat (first | (with_reducible first | exact HB.out | apply below_alloc | apply pw_below_drewN | apply below_drew1 | refine below_set ?_ GE101.out) | exact HB.out)⟩⟩
 case rest =>
  clear HC4
  try clear c1
  try clear p2
  try clear c3
  try clear c6
  try clear p6
  try clear c7
  try clear c9
  try clear c10
  try clear c10b0
  try clear c10b1
  obtain ⟨kq,x26_3,rfl,HA,HJ3,BK101,HB⟩ := hcut
  cases kq with
  | zero => exact absurd HA.out (by simp [spec_TableOfMatrix.j0])
  | succ kj3 =>
   have H := HA.out
   clear HA
   simp only [spec_TableOfMatrix.j0] at H
   by_cases c12 : x26_3 = true
   ·subst c12
    have H1 : (some (0,0,false)) = some (r1,r2,r3) := by rw [if_pos rfl] at H;exact H
    clear H
    have H := H1
    clear H1
    simp only [Option.some.injEq,Prod.mk.injEq] at H
    obtain ⟨rfl,rfl,rfl⟩ := H
    have hcz13_0 : wc.cell? ⟨gb101,0,none⟩ = some (.int .i64 0) := (blk_cell BK101.out 0).trans rfl
    have hcz13_1 : wc.cell? ⟨gb101,1,none⟩ = some (.int .i64 0) := (blk_cell BK101.out 1).trans rfl
    have hfz13_0 := blk_frozen BK101.out 0
    have hfz13_1 := blk_frozen BK101.out 1
    go_wp2
    refine bodyPost_ret (results_ct rfl _ _ gb101 25 #[.int .i64 0,.int .i64 0] (0,0) _ rfl (by (with_reducible repeat (first | refine blk_drewN ?_ _ | refine blk_drew ?_ | refine blk_alloc ?_ _));refine blk_put (cs := #[.int .i64 0,.int .i64 0]) ?_ 1 _ rfl;(with_reducible repeat (first | refine blk_drewN ?_ _ | refine blk_drew ?_ | refine blk_alloc ?_ _));refine blk_put (cs := #[.int .i64 0,.int .i64 0]) ?_ 0 _ rfl;(with_reducible repeat (first | refine blk_drewN ?_ _ | refine blk_drew ?_ | refine blk_alloc ?_ _));exact BK101.out) Try.underlying25 rfl T15_) rfl ?_
    exact ⟨by first | rfl | (simp [errW_none,errW_some] <;> rfl) | (simp [*,errW_none,errW_some] <;> rfl),by repeat (first | (with_reducible first | exact HB.out | apply below_alloc | apply pw_below_drewN | apply below_drew1 | refine below_set ?_ GE101.out) | exact HB.out)⟩
   ·replace c12 := Bool.eq_false_iff.mpr c12
    subst c12
    have H1 : (spec_TableOfMatrix.l0 kj3 l0 a1 a2 0 0) = some (r1,r2,r3) := by rw [if_neg (show ¬ (false = true) by decide)] at H;exact H
    clear H
    have H := H1
    clear H1
    have H' := aZ_ H
    clear H
    go_wp2
    go_loopg [8,9] kj3 (fun kq v8 v9 w' => ∃ (x8_2 : Int) (x9_2 : Int) (x102000_2 : Int) (x102001_2 : Int),v8 = .int .i64 x8_2 ∧ v9 = .int .i64 x9_2 ∧ Aside0 (spec_TableOfMatrix.l0 kq l0 a1 a2 x8_2 x9_2 = some (r1,r2,r3)) ∧ Aside0 (kq ≤ kj3) ∧ Aside0 (w'.heap[gb101]? = some (.cells #[.int .i64 x102000_2,.int .i64 x102001_2] 25 (0,0))) ∧ Aside0 (Below w.heap.size w w'))
    case atStart => exact ⟨(0),(0),(0),(0),T10_,T10_,H',⟨Nat.le_refl _⟩,⟨by (with_reducible repeat (first | refine blk_drewN ?_ _ | refine blk_drew ?_ | refine blk_alloc ?_ _));exact BK101.out⟩,⟨by repeat (first | (with_reducible first | exact HB.out | apply below_alloc | apply pw_below_drewN | apply below_drew1 | refine below_set ?_ GE101.out) | exact HB.out)⟩⟩
    case round =>
     clear H'
     try clear c1
     try clear p2
     try clear c3
     try clear c6
     try clear p6
     try clear c7
     try clear c9
     try clear c10
     try clear c10b0
     try clear c10b1
     try clear c12
     try clear hcz13_0
     try clear hcz13_1
     try clear hfz13_0
     try clear hfz13_1
     try clear p2
     try clear p6
     obtain ⟨x8_2,x9_2,x102000_2,x102001_2,rfl,rfl,HA,HK2,BK101,HB⟩ := hrel
     cases gk with
     | zero => exact absurd HA.out (by simp [spec_TableOfMatrix.l0])
     | succ k2 =>
      have H := HA.out
      clear HA
      simp only [spec_TableOfMatrix.l0] at H
      by_cases c14 : x9_2 < (l0.length : Int)
      ·rw [if_pos c14] at H
       have c14b0 : decide (x9_2 < (l0.length : Int)) = true := decide_eq_true c14
       clear c14
       by_cases c15 : 0 ≤ x9_2
       ·rw [if_pos c15] at H
        have c15b0 : decide (0 ≤ x9_2) = true := decide_eq_true c15
        clear c15
        obtain ⟨ji16,hji16⟩ : ∃ j_ : Int,(wrap64 (a1 - a2)) = j_ := ⟨_,rfl⟩
        replace H : (if 0 ≤ (ji16) then ((spec_l1In.f (rd l0 x9_2) 0 (wrap64 ((shl .i64 1 (shl .u64 1 (ji16))) - 1))).bind fun t105 => (if t105 = true then (spec_TableOfMatrix.l1 k2 l0 a1 a2 x8_2 x9_2 0) else (some (0,0,false)))) else (none)) = some (r1,r2,r3) := by first | (rw [hji16] at H;exact H) | (simp only [hji16] at H ⊢;exact H)
        have hji16w : (IntKind.i64.wrap (a1 - a2)) = ji16 := (i64_w _).trans hji16
        by_cases c17 : 0 ≤ (ji16)
        ·rw [if_pos c17] at H
         have c17b0 := eq_true c17
         have c17b1 : decide (0 ≤ (ji16)) = true := decide_eq_true c17
         clear c17
         obtain ⟨ji18,hji18⟩ : ∃ j_ : Int,(shl .u64 1 (ji16)) = j_ := ⟨_,rfl⟩
         have hji18n := eq_true (show 0 ≤ ji18 by rw [← hji18];exact B.shlu_nonneg _ _)
         replace H : ((spec_l1In.f (rd l0 x9_2) 0 (wrap64 ((shl .i64 1 (ji18)) - 1))).bind fun t105 => (if t105 = true then (spec_TableOfMatrix.l1 k2 l0 a1 a2 x8_2 x9_2 0) else (some (0,0,false)))) = some (r1,r2,r3) := by first | (rw [hji18] at H;exact H) | (simp only [hji18] at H ⊢;exact H)
         have hji18_ : (IntKind.u64.wrap (1 * 2 ^ min (ji16).toNat 64)) = ji18 := hji18
         have hji18z : (ji16) ≤ 64 → (IntKind.u64.wrap (1 * 2 ^ (ji16).toNat)) = ji18 := shl_small hji18
         have hji18u : (IntKind.u64.wrap (2 ^ min (ji16).toNat 64)) = ji18 := by have h_ := hji18_;rw [Int.one_mul] at h_;exact h_
         have hji18v : (ji16) ≤ 64 → (IntKind.u64.wrap (2 ^ (ji16).toNat)) = ji18 := fun hle_ => by have h_ := hji18z hle_;rw [Int.one_mul] at h_;exact h_
         obtain ⟨ji19,hji19⟩ : ∃ j_ : Int,(shl .i64 1 (ji18)) = j_ := ⟨_,rfl⟩
         replace H : ((spec_l1In.f (rd l0 x9_2) 0 (wrap64 ((ji19) - 1))).bind fun t105 => (if t105 = true then (spec_TableOfMatrix.l1 k2 l0 a1 a2 x8_2 x9_2 0) else (some (0,0,false)))) = some (r1,r2,r3) := by first | (rw [hji19] at H;exact H) | (simp only [hji19] at H ⊢;exact H)
         have hji19_ : (IntKind.i64.wrap (1 * 2 ^ min (ji18).toNat 64)) = ji19 := hji19
         have hji19z : (ji18) ≤ 64 → (IntKind.i64.wrap (1 * 2 ^ (ji18).toNat)) = ji19 := shl_small hji19
         have hji19u : (IntKind.i64.wrap (2 ^ min (ji18).toNat 64)) = ji19 := by have h_ := hji19_;rw [Int.one_mul] at h_;exact h_
         have hji19v : (ji18) ≤ 64 → (IntKind.i64.wrap (2 ^ (ji18).toNat)) = ji19 := fun hle_ => by have h_ := hji19z hle_;rw [Int.one_mul] at h_;exact h_
         have hji19y : (wrap64 (1 * 2 ^ min (ji18).toNat 64)) = ji19 := (i64_w _).symm.trans hji19_
         have hji19x : (ji18) ≤ 64 → (wrap64 (1 * 2 ^ (ji18).toNat)) = ji19 := fun h_ => (i64_w _).symm.trans (hji19z h_)
         replace H := Option.bind_eq_some_iff.mp H
         obtain ⟨t105,A200,H⟩ := H
         replace H : (if t105 = true then (spec_TableOfMatrix.l1 k2 l0 a1 a2 x8_2 x9_2 0) else (some (0,0,false))) = some (r1,r2,r3) := H
         have A20 := aZ_ A200
         clear A200
         by_cases c21 : t105 = true
         ·subst c21
          have H1 : (spec_TableOfMatrix.l1 k2 l0 a1 a2 x8_2 x9_2 0) = some (r1,r2,r3) := by rw [if_pos rfl] at H;exact H
          clear H
          have H := H1
          clear H1
          have H' := aZ_ H
          clear H
          try go_wp2
          have n0_ := aZ_ (blk_drew BK101.out)
          have n1_ := aZ_ (below_drew1 HB.out)
          clear BK101
          clear HB
          have BK101 := n0_
          have HB := n1_
          clear n0_ n1_
          have p104 : 0 ≤ (x9_2 : Int) := of_decide_eq_true T6_
          have q104 : x9_2 < (l0.length : Int) := of_decide_eq_true T6_
          obtain ⟨ad104,e104,hx104_0⟩ := Kd.at_int HR0.out x9_2 p104 q104
          have hw104_0 := hx104_0
          cases e104
          replace hx104_0 := (HB.out.cell (World.block_lt_of_cell? w _ hx104_0)).trans hx104_0
          replace p104 := eq_true p104
          replace q104 := eq_true q104
          refine start_ (n := 12) (S := fun w' => w'.cell? (ad104.add (x9_2).toNat) = some (.int .i64 (rd l0 x9_2))) (ds := []) #[false,false,false,false,false,false,false,false,false,false,false,false] T15_ rfl rfl (((HB.out.cell (World.block_lt_of_cell? w _ hw104_0)).trans hw104_0)) (fun hHeld => ?_);refine with_tabW spec_TableOfMatrix.tab7 spec_TableOfMatrix.bits7 (fun HT_ HW_ => ?_)
          generalize wr.drew = w22 at BK101 HB hx104_0 hHeld ⊢
          refine pZ_ 0 (some 34) #[true,false,false,false,false,false,false,false,false,false,false,false] ?_
          refine pZ_ 1 (some 35) #[true,true,false,false,false,false,false,false,false,false,false,false] ?_
          refine pZ_ 2 (some 36) #[true,true,true,false,false,false,false,false,false,false,false,false] ?_
          refine pZ_ 4 (some 38) #[true,true,true,false,true,false,false,false,false,false,false,false] ?_
          refine pZ_ 5 (some 39) #[true,true,true,false,true,true,false,false,false,false,false,false] ?_
          refine pZ_ 6 (some 40) #[true,true,true,false,true,true,true,false,false,false,false,false] ?_
          refine pZ_ 7 (some 41) #[true,true,true,false,true,true,true,true,false,false,false,false] ?_
          refine pZ_ 8 (some 42) #[true,true,true,false,true,true,true,true,true,false,false,false] ?_
          refine pZ_ 9 (some 43) #[true,true,true,false,true,true,true,true,true,true,false,false] ?_
          refine take_ (i := 3) (N := some 37) (v := ?_) (a' := ?_) #[true,true,true,true,true,true,true,true,true,true,false,false] rfl rfl (take_ofW HT_.out HW_.out T15_) (fun _ _ _ h => h) (Or.inl ⟨by rfl,?_⟩) hHeld ?_ ?_
          rotate_left
          ·intro w' s0
           go_simp
           with_reducible rfl
          rotate_left
          ·simp only [Act.put,List.setIfInBounds_toArray,List.set_cons_zero,List.set_cons_succ,i64_w,i32_w]
           rfl
          refine one_ (i := 10) (N := some 44) #[true,true,true,true,true,true,true,true,true,true,true,false] rfl rfl (one_of HT_.out T15_) T48_ (fun K hK => ?_)
          refine goes_ Try.func61 T15_ rfl #[.int .i64 (rd l0 x9_2),.int .i64 0,.int .i64 (wrap64 ((ji19) - 1))] (by rfl) rfl rfl T64_ ?_
          with_reducible refine (spec_l1In.calls (rd l0 x9_2) 0 (wrap64 ((ji19) - 1)) true _ A20.out).mono ?_
          rintro e w' ⟨rfl,⟨nd,rfl⟩⟩
          refine ⟨_,rfl,?_⟩
          refine hK.out _ _ (((HB.out.cell (World.block_lt_of_cell? w _ hw104_0)).trans hw104_0)) (fun hHeld => ?_)
          clear hK K
          refine norm_ (a' := ?_) ?_ ?_
          rotate_left
          ·show Act.put _ (some 44) _ = _
           simp only [Act.put,List.setIfInBounds_toArray,List.set_cons_zero,List.set_cons_succ,i64_w,i32_w]
           rfl
          refine pZ_ 11 (some 45) #[true,true,true,true,true,true,true,true,true,true,true,true] ?_
          refine done_ (done_of HT_.out T15_) ?_
          try go_wp2
          go_loopg [8,10] k2 (fun kq v8 v10 w' => ∃ (x8_3 : Int) (x10_3 : Int),v8 = .int .i64 x8_3 ∧ v10 = .int .i64 x10_3 ∧ Aside0 (spec_TableOfMatrix.l1 kq l0 a1 a2 x8_3 x9_2 x10_3 = some (r1,r2,r3)) ∧ Aside0 (kq ≤ k2) ∧ Aside0 (w'.heap[gb101]? = some (.cells #[.int .i64 x102000_2,.int .i64 x102001_2] 25 (0,0))) ∧ Aside0 (Below w.heap.size w w'))
          case atStart => exact ⟨(x8_2),(0),T10_,T10_,H',⟨Nat.le_refl _⟩,⟨by (with_reducible repeat (first | refine blk_drewN ?_ _ | refine blk_drew ?_ | refine blk_alloc ?_ _));exact BK101.out⟩,⟨by repeat (first | (with_reducible first | exact HB.out | apply below_alloc | apply pw_below_drewN | apply below_drew1 | refine below_set ?_ GE101.out) | exact HB.out)⟩⟩
          case round =>
           clear H'
           try clear c1
           try clear p1
           try clear q1
           try clear hx1
           try clear c2
           try clear p2
           try clear c3
           try clear c6
           try clear p6
           try clear c7
           try clear c9
           try clear c10
           try clear c10b0
           try clear c10b1
           try clear p10
           try clear q10
           try clear hx10
           try clear c12
           try clear c14
           try clear c14b0
           try clear c15
           try clear c15b0
           try clear c17
           try clear c17b0
           try clear c17b1
           try clear c21
           try clear hcz13_0
           try clear hcz13_1
           try clear hfz13_0
           try clear hfz13_1
           try clear hx104_0
           try clear p104
           try clear p2
           try clear p6
           try clear q104
           obtain ⟨x8_3,x10_3,rfl,rfl,HA,HK3,BK101,HB⟩ := hrel
           cases gk with
           | zero => exact absurd HA.out (by simp [spec_TableOfMatrix.l1])
           | succ k3 =>
            have H := HA.out
            clear HA
            simp only [spec_TableOfMatrix.l1] at H
            obtain ⟨ji23,hji23⟩ : ∃ j_ : Int,(wrap64 (a1 - a2)) = j_ := ⟨_,rfl⟩
            (try (obtain rfl : ji23 = ji16 := hji23.symm.trans hji16))
            replace H : (if 0 ≤ (ji23) then (if x10_3 < (shl .i64 1 (ji23)) then (if 0 ≤ x9_2 then (if x9_2 < (l0.length : Int) then (if 0 ≤ x10_3 then (if 0 ≤ a2 then (if 0 ≤ (Go.bits .or .i64 x9_2 (shl .i64 x10_3 a2)) then (spec_TableOfMatrix.l1 k3 l0 a1 a2 (Go.bits .or .i64 x8_3 (shl .i64 (Go.bits .and .i64 (shr .i64 (rd l0 x9_2) x10_3) 1) (Go.bits .or .i64 x9_2 (shl .i64 x10_3 a2)))) x9_2 (wrap64 (x10_3 + 1))) else (none)) else (none)) else (none)) else (none)) else (none)) else (spec_TableOfMatrix.l0 k3 l0 a1 a2 x8_3 (wrap64 (x9_2 + 1)))) else (none)) = some (r1,r2,r3) := by first | (rw [hji23] at H;exact H) | (simp only [hji23] at H ⊢;exact H)
            have hji23w : (IntKind.i64.wrap (a1 - a2)) = ji23 := (i64_w _).trans hji23
            by_cases c24 : 0 ≤ (ji23)
            ·rw [if_pos c24] at H
             have c24b0 := eq_true c24
             have c24b1 : decide (0 ≤ (ji23)) = true := decide_eq_true c24
             clear c24
             obtain ⟨ji25,hji25⟩ : ∃ j_ : Int,(shl .i64 1 (ji23)) = j_ := ⟨_,rfl⟩
             replace H : (if x10_3 < (ji25) then (if 0 ≤ x9_2 then (if x9_2 < (l0.length : Int) then (if 0 ≤ x10_3 then (if 0 ≤ a2 then (if 0 ≤ (Go.bits .or .i64 x9_2 (shl .i64 x10_3 a2)) then (spec_TableOfMatrix.l1 k3 l0 a1 a2 (Go.bits .or .i64 x8_3 (shl .i64 (Go.bits .and .i64 (shr .i64 (rd l0 x9_2) x10_3) 1) (Go.bits .or .i64 x9_2 (shl .i64 x10_3 a2)))) x9_2 (wrap64 (x10_3 + 1))) else (none)) else (none)) else (none)) else (none)) else (none)) else (spec_TableOfMatrix.l0 k3 l0 a1 a2 x8_3 (wrap64 (x9_2 + 1)))) = some (r1,r2,r3) := by first | (rw [hji25] at H;exact H) | (simp only [hji25] at H ⊢;exact H)
             have hji25_ : (IntKind.i64.wrap (1 * 2 ^ min (ji23).toNat 64)) = ji25 := hji25
             have hji25z : (ji23) ≤ 64 → (IntKind.i64.wrap (1 * 2 ^ (ji23).toNat)) = ji25 := shl_small hji25
             have hji25u : (IntKind.i64.wrap (2 ^ min (ji23).toNat 64)) = ji25 := by have h_ := hji25_;rw [Int.one_mul] at h_;exact h_
             have hji25v : (ji23) ≤ 64 → (IntKind.i64.wrap (2 ^ (ji23).toNat)) = ji25 := fun hle_ => by have h_ := hji25z hle_;rw [Int.one_mul] at h_;exact h_
             have hji25y : (wrap64 (1 * 2 ^ min (ji23).toNat 64)) = ji25 := (i64_w _).symm.trans hji25_
             have hji25x : (ji23) ≤ 64 → (wrap64 (1 * 2 ^ (ji23).toNat)) = ji25 := fun h_ => (i64_w _).symm.trans (hji25z h_)
             by_cases c26 : x10_3 < (ji25)
             ·rw [if_pos c26] at H
              have c26b0 : decide (x10_3 < (ji25)) = true := decide_eq_true c26
              clear c26
              by_cases c27 : 0 ≤ x9_2
              ·rw [if_pos c27] at H
               have c27b0 : decide (0 ≤ x9_2) = true := decide_eq_true c27
               clear c27
               by_cases c28 : x9_2 < (l0.length : Int)
               ·rw [if_pos c28] at H
                have c28b0 : decide (x9_2 < (l0.length : Int)) = true := decide_eq_true c28
                clear c28
                by_cases c29 : 0 ≤ x10_3
                ·rw [if_pos c29] at H
                 have c29b0 := eq_true c29
                 have c29b1 : decide (0 ≤ x10_3) = true := decide_eq_true c29
                 clear c29
                 obtain ⟨ji30,hji30⟩ : ∃ j_ : Int,(shr .i64 (rd l0 x9_2) x10_3) = j_ := ⟨_,rfl⟩
                 replace H : (if 0 ≤ a2 then (if 0 ≤ (Go.bits .or .i64 x9_2 (shl .i64 x10_3 a2)) then (spec_TableOfMatrix.l1 k3 l0 a1 a2 (Go.bits .or .i64 x8_3 (shl .i64 (Go.bits .and .i64 (ji30) 1) (Go.bits .or .i64 x9_2 (shl .i64 x10_3 a2)))) x9_2 (wrap64 (x10_3 + 1))) else (none)) else (none)) = some (r1,r2,r3) := by first | (rw [hji30] at H;exact H) | (simp only [hji30] at H ⊢;exact H)
                 have hji30_ : ((rd l0 x9_2) / 2 ^ min x10_3.toNat 64) = ji30 := hji30
                 have hji30z : x10_3 ≤ 64 → ((rd l0 x9_2) / 2 ^ x10_3.toNat) = ji30 := shr_small hji30
                 by_cases c31 : 0 ≤ a2
                 ·rw [if_pos c31] at H
                  have c31b0 := eq_true c31
                  have c31b1 : decide (0 ≤ a2) = true := decide_eq_true c31
                  clear c31
                  obtain ⟨ji32,hji32⟩ : ∃ j_ : Int,(shl .i64 x10_3 a2) = j_ := ⟨_,rfl⟩
                  replace H : (if 0 ≤ (Go.bits .or .i64 x9_2 (ji32)) then (spec_TableOfMatrix.l1 k3 l0 a1 a2 (Go.bits .or .i64 x8_3 (shl .i64 (Go.bits .and .i64 (ji30) 1) (Go.bits .or .i64 x9_2 (ji32)))) x9_2 (wrap64 (x10_3 + 1))) else (none)) = some (r1,r2,r3) := by first | (rw [hji32] at H;exact H) | (simp only [hji32] at H ⊢;exact H)
                  have hji32_ : (IntKind.i64.wrap (x10_3 * 2 ^ min a2.toNat 64)) = ji32 := hji32
                  have hji32z : a2 ≤ 64 → (IntKind.i64.wrap (x10_3 * 2 ^ a2.toNat)) = ji32 := shl_small hji32
                  have hji32y : (wrap64 (x10_3 * 2 ^ min a2.toNat 64)) = ji32 := (i64_w _).symm.trans hji32_
                  have hji32x : a2 ≤ 64 → (wrap64 (x10_3 * 2 ^ a2.toNat)) = ji32 := fun h_ => (i64_w _).symm.trans (hji32z h_)
                  by_cases c33 : 0 ≤ (Go.bits .or .i64 x9_2 (ji32))
                  ·rw [if_pos c33] at H
                   have c33b0 := eq_true c33
                   have c33b1 : decide (0 ≤ (Go.bits .or .i64 x9_2 (ji32))) = true := decide_eq_true c33
                   clear c33
                   obtain ⟨ji34,hji34⟩ : ∃ j_ : Int,(shl .i64 (Go.bits .and .i64 (ji30) 1) (Go.bits .or .i64 x9_2 (ji32))) = j_ := ⟨_,rfl⟩
                   replace H : (spec_TableOfMatrix.l1 k3 l0 a1 a2 (Go.bits .or .i64 x8_3 (ji34)) x9_2 (wrap64 (x10_3 + 1))) = some (r1,r2,r3) := by first | (rw [hji34] at H;exact H) | (simp only [hji34] at H ⊢;exact H)
                   have hji34_ : (IntKind.i64.wrap ((Go.bits .and .i64 (ji30) 1) * 2 ^ min (Go.bits .or .i64 x9_2 (ji32)).toNat 64)) = ji34 := hji34
                   have hji34z : (Go.bits .or .i64 x9_2 (ji32)) ≤ 64 → (IntKind.i64.wrap ((Go.bits .and .i64 (ji30) 1) * 2 ^ (Go.bits .or .i64 x9_2 (ji32)).toNat)) = ji34 := shl_small hji34
                   have hji34y : (wrap64 ((Go.bits .and .i64 (ji30) 1) * 2 ^ min (Go.bits .or .i64 x9_2 (ji32)).toNat 64)) = ji34 := (i64_w _).symm.trans hji34_
                   have hji34x : (Go.bits .or .i64 x9_2 (ji32)) ≤ 64 → (wrap64 ((Go.bits .and .i64 (ji30) 1) * 2 ^ (Go.bits .or .i64 x9_2 (ji32)).toNat)) = ji34 := fun h_ => (i64_w _).symm.trans (hji34z h_)
                   have H' := aZ_ H
                   clear H
                   try go_wp2
                   have n0_ := aZ_ (blk_drew BK101.out)
                   have n1_ := aZ_ (below_drew1 HB.out)
                   clear BK101
                   clear HB
                   have BK101 := n0_
                   have HB := n1_
                   clear n0_ n1_
                   have p106 : 0 ≤ (x9_2 : Int) := of_decide_eq_true T6_
                   have q106 : x9_2 < (l0.length : Int) := of_decide_eq_true T6_
                   obtain ⟨ad106,e106,hx106_0⟩ := Kd.at_int HR0.out x9_2 p106 q106
                   have hw106_0 := hx106_0
                   obtain rfl : ad104 = ad106 := (by injection e106)
                   replace hx106_0 := (HB.out.cell (World.block_lt_of_cell? w _ hx106_0)).trans hx106_0
                   replace p106 := eq_true p106
                   replace q106 := eq_true q106
                   refine start_ (n := 16) (S := fun w' => w'.cell? (ad104.add (x9_2).toNat) = some (.int .i64 (rd l0 x9_2))) (ds := []) #[false,false,false,false,false,false,false,false,false,false,false,false,false,false,false,false] T15_ rfl rfl (((HB.out.cell (World.block_lt_of_cell? w _ hw106_0)).trans hw106_0)) (fun hHeld => ?_);refine with_tabW spec_TableOfMatrix.tab12 spec_TableOfMatrix.bits12 (fun HT_ HW_ => ?_)
                   generalize wr.drew = w35 at BK101 HB hx106_0 hHeld ⊢
                   refine pZ_ 0 (some 55) #[true,false,false,false,false,false,false,false,false,false,false,false,false,false,false,false] ?_
                   refine pZ_ 1 (some 56) #[true,true,false,false,false,false,false,false,false,false,false,false,false,false,false,false] ?_
                   refine pZ_ 2 (some 57) #[true,true,true,false,false,false,false,false,false,false,false,false,false,false,false,false] ?_
                   refine pZ_ 3 (some 58) #[true,true,true,true,false,false,false,false,false,false,false,false,false,false,false,false] ?_
                   refine pZ_ 5 (some 60) #[true,true,true,true,false,true,false,false,false,false,false,false,false,false,false,false] ?_
                   refine pZ_ 8 (some 63) #[true,true,true,true,false,true,false,false,true,false,false,false,false,false,false,false] ?_
                   refine pZ_ 9 (some 64) #[true,true,true,true,false,true,false,false,true,true,false,false,false,false,false,false] ?_
                   refine pZ_ 10 (some 65) #[true,true,true,true,false,true,false,false,true,true,true,false,false,false,false,false] ?_
                   refine pZ_ 11 (some 66) #[true,true,true,true,false,true,false,false,true,true,true,true,false,false,false,false] ?_
                   refine pZ_ 12 (some 67) #[true,true,true,true,false,true,false,false,true,true,true,true,true,false,false,false] ?_
                   refine take_ (i := 4) (N := some 59) (v := ?_) (a' := ?_) #[true,true,true,true,true,true,false,false,true,true,true,true,true,false,false,false] rfl rfl (take_ofW HT_.out HW_.out T15_) (fun _ _ _ h => h) (Or.inl ⟨by rfl,?_⟩) hHeld ?_ ?_
                   rotate_left
                   ·intro w' s0
                    go_simp
                    with_reducible rfl
                   rotate_left
                   ·simp only [Act.put,List.setIfInBounds_toArray,List.set_cons_zero,List.set_cons_succ,i64_w,i32_w]
                    rfl
                   refine pZ_ 6 (some 61) #[true,true,true,true,true,true,true,false,true,true,true,true,true,false,false,false] ?_
                   refine pZ_ 7 (some 62) #[true,true,true,true,true,true,true,true,true,true,true,true,true,false,false,false] ?_
                   refine pZ_ 13 (some 68) #[true,true,true,true,true,true,true,true,true,true,true,true,true,true,false,false] ?_
                   refine pZ_ 14 (some 69) #[true,true,true,true,true,true,true,true,true,true,true,true,true,true,true,false] ?_
                   refine pZ_ 15 (some 8) #[true,true,true,true,true,true,true,true,true,true,true,true,true,true,true,true] ?_
                   refine done_ (done_of HT_.out T15_) ?_
                   try go_wp2
                   go_roundg k3
                   case measure => have := HJ3.out;have := HK2.out;have := HK3.out;omega
                   case rel => exact ⟨(Go.bits .or .i64 x8_3 (ji34)),(wrap64 (x10_3 + 1)),(by first | rfl | (simp;done) | (simp only [← hji34] <;> (first | rfl | simp)) | (simp [*];done)),T10_,H',⟨by have := HJ3.out;have := HK2.out;have := HK3.out;omega⟩,⟨by (with_reducible repeat (first | refine blk_drewN ?_ _ | refine blk_drew ?_ | refine blk_alloc ?_ _));exact BK101.out⟩,⟨by repeat (first | (with_reducible first | exact HB.out | apply below_alloc | apply pw_below_drewN | apply below_drew1 | refine below_set ?_ GE101.out) | exact HB.out)⟩⟩
                  ·rw [if_neg c33] at H
                   exact absurd H T49_
                 ·rw [if_neg c31] at H
                  exact absurd H T49_
                ·rw [if_neg c29] at H
                 exact absurd H T49_
               ·rw [if_neg c28] at H
                exact absurd H T49_
              ·rw [if_neg c27] at H
               exact absurd H T49_
             ·rw [if_neg c26] at H
              have c26b0 : decide (x10_3 < (ji25)) = false := decide_eq_false c26
              clear c26
              have H' := aZ_ H
              clear H
              go_wp2
              go_roundg k3
              case measure => have := HJ3.out;have := HK2.out;have := HK3.out;omega
              case rel => exact ⟨(x8_3),(wrap64 (x9_2 + 1)),(x102000_2),(x102001_2),T10_,T10_,H',⟨by have := HJ3.out;have := HK2.out;have := HK3.out;omega⟩,⟨by (with_reducible repeat (first | refine blk_drewN ?_ _ | refine blk_drew ?_ | refine blk_alloc ?_ _));exact BK101.out⟩,⟨by repeat (first | (with_reducible first | exact HB.out | apply below_alloc | apply pw_below_drewN | apply below_drew1 | refine below_set ?_ GE101.out) | exact HB.out)⟩⟩
            ·rw [if_neg c24] at H
             exact absurd H T49_
         ·replace c21 := Bool.eq_false_iff.mpr c21
          subst c21
          have H1 : (some (0,0,false)) = some (r1,r2,r3) := by rw [if_neg (show ¬ (false = true) by decide)] at H;exact H
          clear H
          have H := H1
          clear H1
          simp only [Option.some.injEq,Prod.mk.injEq] at H
          obtain ⟨rfl,rfl,rfl⟩ := H
          try go_wp2
          have n0_ := aZ_ (blk_drew BK101.out)
          have n1_ := aZ_ (below_drew1 HB.out)
          clear BK101
          clear HB
          have BK101 := n0_
          have HB := n1_
          clear n0_ n1_
          have p104 : 0 ≤ (x9_2 : Int) := of_decide_eq_true T6_
          have q104 : x9_2 < (l0.length : Int) := of_decide_eq_true T6_
          obtain ⟨ad104,e104,hx104_0⟩ := Kd.at_int HR0.out x9_2 p104 q104
          have hw104_0 := hx104_0
          cases e104
          replace hx104_0 := (HB.out.cell (World.block_lt_of_cell? w _ hx104_0)).trans hx104_0
          replace p104 := eq_true p104
          replace q104 := eq_true q104
          refine start_ (n := 12) (S := fun w' => w'.cell? (ad104.add (x9_2).toNat) = some (.int .i64 (rd l0 x9_2))) (ds := []) #[false,false,false,false,false,false,false,false,false,false,false,false] T15_ rfl rfl (((HB.out.cell (World.block_lt_of_cell? w _ hw104_0)).trans hw104_0)) (fun hHeld => ?_);refine with_tabW spec_TableOfMatrix.tab7 spec_TableOfMatrix.bits7 (fun HT_ HW_ => ?_)
          generalize wr.drew = w36 at BK101 HB hx104_0 hHeld ⊢
          refine pZ_ 0 (some 34) #[true,false,false,false,false,false,false,false,false,false,false,false] ?_
          refine pZ_ 1 (some 35) #[true,true,false,false,false,false,false,false,false,false,false,false] ?_
          refine pZ_ 2 (some 36) #[true,true,true,false,false,false,false,false,false,false,false,false] ?_
          refine pZ_ 4 (some 38) #[true,true,true,false,true,false,false,false,false,false,false,false] ?_
          refine pZ_ 5 (some 39) #[true,true,true,false,true,true,false,false,false,false,false,false] ?_
          refine pZ_ 6 (some 40) #[true,true,true,false,true,true,true,false,false,false,false,false] ?_
          refine pZ_ 7 (some 41) #[true,true,true,false,true,true,true,true,false,false,false,false] ?_
          refine pZ_ 8 (some 42) #[true,true,true,false,true,true,true,true,true,false,false,false] ?_
          refine pZ_ 9 (some 43) #[true,true,true,false,true,true,true,true,true,true,false,false] ?_
          refine take_ (i := 3) (N := some 37) (v := ?_) (a' := ?_) #[true,true,true,true,true,true,true,true,true,true,false,false] rfl rfl (take_ofW HT_.out HW_.out T15_) (fun _ _ _ h => h) (Or.inl ⟨by rfl,?_⟩) hHeld ?_ ?_
          rotate_left
          ·intro w' s0
           go_simp
           with_reducible rfl
          rotate_left
          ·simp only [Act.put,List.setIfInBounds_toArray,List.set_cons_zero,List.set_cons_succ,i64_w,i32_w]
           rfl
          refine one_ (i := 10) (N := some 44) #[true,true,true,true,true,true,true,true,true,true,true,false] rfl rfl (one_of HT_.out T15_) T48_ (fun K hK => ?_)
          refine goes_ Try.func61 T15_ rfl #[.int .i64 (rd l0 x9_2),.int .i64 0,.int .i64 (wrap64 ((ji19) - 1))] (by rfl) rfl rfl T64_ ?_
          with_reducible refine (spec_l1In.calls (rd l0 x9_2) 0 (wrap64 ((ji19) - 1)) false _ A20.out).mono ?_
          rintro e w' ⟨rfl,⟨nd,rfl⟩⟩
          refine ⟨_,rfl,?_⟩
          refine hK.out _ _ (((HB.out.cell (World.block_lt_of_cell? w _ hw104_0)).trans hw104_0)) (fun hHeld => ?_)
          clear hK K
          refine norm_ (a' := ?_) ?_ ?_
          rotate_left
          ·show Act.put _ (some 44) _ = _
           simp only [Act.put,List.setIfInBounds_toArray,List.set_cons_zero,List.set_cons_succ,i64_w,i32_w]
           rfl
          refine pZ_ 11 (some 45) #[true,true,true,true,true,true,true,true,true,true,true,true] ?_
          refine done_ (done_of HT_.out T15_) ?_
          have hcz37_0 : w36.cell? ⟨gb101,0,none⟩ = some (.int .i64 x102000_2) := (blk_cell BK101.out 0).trans rfl
          have hcz37_1 : w36.cell? ⟨gb101,1,none⟩ = some (.int .i64 x102001_2) := (blk_cell BK101.out 1).trans rfl
          have hfz37_0 := blk_frozen BK101.out 0
          have hfz37_1 := blk_frozen BK101.out 1
          try go_wp2
          refine bodyPost_ret (results_ct rfl _ _ gb101 25 #[.int .i64 0,.int .i64 0] (0,0) _ rfl (by (with_reducible repeat (first | refine blk_drewN ?_ _ | refine blk_drew ?_ | refine blk_alloc ?_ _));refine blk_put (cs := #[.int .i64 0,.int .i64 x102001_2]) ?_ 1 _ rfl;(with_reducible repeat (first | refine blk_drewN ?_ _ | refine blk_drew ?_ | refine blk_alloc ?_ _));refine blk_put (cs := #[.int .i64 x102000_2,.int .i64 x102001_2]) ?_ 0 _ rfl;(with_reducible repeat (first | refine blk_drewN ?_ _ | refine blk_drew ?_ | refine blk_alloc ?_ _));exact BK101.out) Try.underlying25 rfl T15_) rfl ?_
          exact ⟨by first | rfl | (simp [errW_none,errW_some] <;> rfl) | (simp only [← hji16,← hji18,← hji19];first | rfl | (simp [errW_none,errW_some] <;> rfl)) | (simp [*,errW_none,errW_some] <;> rfl),by repeat (first | (with_reducible first | exact HB.out | apply below_alloc | apply pw_below_drewN | apply below_drew1 | refine below_set ?_ GE101.out) | exact HB.out)⟩
        ·rw [if_neg c17] at H
         exact absurd H T49_
       ·rw [if_neg c15] at H
        exact absurd H T49_
      ·rw [if_neg c14] at H
       have c14b0 : decide (x9_2 < (l0.length : Int)) = false := decide_eq_false c14
       clear c14
       simp only [Option.some.injEq,Prod.mk.injEq] at H
       obtain ⟨rfl,rfl,rfl⟩ := H
       have hcz38_0 : wr.cell? ⟨gb101,0,none⟩ = some (.int .i64 x102000_2) := (blk_cell BK101.out 0).trans rfl
       have hcz38_1 : wr.cell? ⟨gb101,1,none⟩ = some (.int .i64 x102001_2) := (blk_cell BK101.out 1).trans rfl
       have hfz38_0 := blk_frozen BK101.out 0
       have hfz38_1 := blk_frozen BK101.out 1
       go_wp2
       refine bodyPost_ret (results_ct rfl _ _ gb101 25 #[.int .i64 a1,.int .i64 x8_2] (0,0) _ rfl (by (with_reducible repeat (first | refine blk_drewN ?_ _ | refine blk_drew ?_ | refine blk_alloc ?_ _));refine blk_put (cs := #[.int .i64 a1,.int .i64 x102001_2]) ?_ 1 _ rfl;(with_reducible repeat (first | refine blk_drewN ?_ _ | refine blk_drew ?_ | refine blk_alloc ?_ _));refine blk_put (cs := #[.int .i64 x102000_2,.int .i64 x102001_2]) ?_ 0 _ rfl;(with_reducible repeat (first | refine blk_drewN ?_ _ | refine blk_drew ?_ | refine blk_alloc ?_ _));exact BK101.out) Try.underlying25 rfl T15_) rfl ?_
       exact ⟨by first | rfl | (simp [errW_none,errW_some] <;> rfl) | (simp [*,errW_none,errW_some] <;> rfl),by repeat (first | (with_reducible first | exact HB.out | apply below_alloc | apply pw_below_drewN | apply below_drew1 | refine below_set ?_ GE101.out) | exact HB.out)⟩
def spec_DrawRankMod2.f (k : Nat) (l0 : List Int) : Option (List Int) := (spec_l20Both.f k l0).bind fun bt101 => ((spec_MatrixOf.f k bt101.1 bt101.2.1 bt101.2.2).bind fun bt105 => (if (bt105.1.length : Int) > 0 then (if ((l0.length : Int) % 7) = 0 then (if 0 < (bt105.1.length : Int) then (some (bt105.1.set (0 : Int).toNat (-1))) else (none)) else (some bt105.1)) else (some bt105.1)))
set_option maxHeartbeats 8000000 in
set_option maxRecDepth 100000 in
theorem spec_DrawRankMod2.calls (k : Nat) (A0 : Option Addr) (c0 : Nat) (l0 : List Int) (r : List Int) (w : World) (hr0 : Kd.C (Kd.int .u8) w A0 l0.length l0) (hc0 : l0.length ≤ c0) (h : spec_DrawRankMod2.f k l0 = some r) :
  Calls Try.prog 37 #[.slice A0 l0.length c0] w fun e w' => ∃ v0_ : Value,e = .returned (v0_) ∧ Kd.R (Kd.int .i64) 3 w' w.heap.size (fun _ => True) v0_ r ∧ Below w.heap.size w w' := by
 have hu25 := Try.underlying25
 have HR0 := aZ_ hr0
 have HC0 := aZ_ hc0
 clear hr0 hc0
 have HB := aZ_ (Below.refl w.heap.size w)
 have H : ((spec_l20Both.f k l0).bind fun bt101 => ((spec_MatrixOf.f k bt101.1 bt101.2.1 bt101.2.2).bind fun bt105 => (if (bt105.1.length : Int) > 0 then (if ((l0.length : Int) % 7) = 0 then (if 0 < (bt105.1.length : Int) then (some (bt105.1.set (0 : Int).toNat (-1))) else (none)) else (some bt105.1)) else (some bt105.1)))) = some r := h
 clear h
 replace H := Option.bind_eq_some_iff.mp H
 obtain ⟨⟨t101,t102,t103⟩,A20,H⟩ := H
 replace H : ((spec_MatrixOf.f k t101 t102 t103).bind fun bt105 => (if (bt105.1.length : Int) > 0 then (if ((l0.length : Int) % 7) = 0 then (if 0 < (bt105.1.length : Int) then (some (bt105.1.set (0 : Int).toNat (-1))) else (none)) else (some bt105.1)) else (some bt105.1))) = some r := H
 have A2 := aZ_ A20
 clear A20
 replace H := Option.bind_eq_some_iff.mp H
 obtain ⟨⟨t105,t108⟩,A30,H⟩ := H
 replace H : (if (t105.length : Int) > 0 then (if ((l0.length : Int) % 7) = 0 then (if 0 < (t105.length : Int) then (some (t105.set (0 : Int).toNat (-1))) else (none)) else (some t105)) else (some t105)) = some r := H
 have A3 := aZ_ A30
 clear A30
 by_cases c4 : (t105.length : Int) > 0
 ·rw [if_pos c4] at H
  have c4b0 : decide (0 < (t105.length : Int)) = true := decide_eq_true c4
  have c4b1 : decide (0 < t105.length) = true := decide_eq_true T44_
  clear c4
  by_cases c5 : ((l0.length : Int) % 7) = 0
  ·rw [if_pos c5] at H
   have c5b0 : (((l0.length : Int) % 7) == 0) = true := beq_iff_eq.mpr c5
   have c5b1 : (((l0.length : Int) % 7) != 0) = false := bne_eq_false_iff_eq.mpr c5
   clear c5
   by_cases c6 : 0 < (t105.length : Int)
   ·rw [if_pos c6] at H
    have c6b0 : decide (0 < (t105.length : Int)) = true := decide_eq_true c6
    have c6b1 : decide (0 < t105.length) = true := decide_eq_true T44_
    clear c6
    obtain ⟨y109,hy109⟩ : ∃ y_ : List Int,y_ = (t105.set (0 : Int).toNat (-1)) := ⟨_,rfl⟩
    replace H : (some y109) = some r := by first | (rw [hy109];with_reducible exact H) | (have H2_ := (Option.bind_some _ _).symm.trans H;rw [hy109];with_reducible exact H2_) | (have H2_ := (Option.bind_some _ _).symm.trans H;with_reducible exact H2_) | with_reducible exact H | (rw [hy109];exact H) | exact H
    have Ny109 := aZ_ hy109
    clear hy109
    obtain rfl := Option.some.inj H
    go_enter Try.func37,Try.ntmps37
    go_wp2_with (first | ((with_reducible refine gate_callee (f := 68) rfl ?_);refine goesL_ (some 9) rfl rfl Try.func68 T15_ rfl #[.slice A0 l0.length c0] rfl T4_ ?_;(with_reducible refine (spec_l20Both.calls k _ _ l0 t101 t102 t103 _ ?side1 ?side2 A2.out).mono ?_);(case side1 => repeat (first | exact HR0.out | (with_reducible refine Kd.C_alloc ?_ _) | (with_reducible refine Kd.C_drewN ?_ _) | (with_reducible refine Kd.C_drew ?_)));(case side2 => exact HC0.out);rintro e w8 ⟨rfl,hb⟩;refine ⟨_,rfl,?_⟩;have n0_ := aZ_ (below_step T5_ hb);clear HB;have HB := n0_;clear n0_;(try clear hb);(try clear hb2);(try clear hk);(try clear hi)) | ((with_reducible refine gate_dst (N := 3) rfl ?_);(try (refine gate_guard (by rfl) ?_;dsimp only));refine box_event ?hg (N := 3) ?hd (cs := #[.int .i64 0,.int .i64 0]) (t := 25) ?hr ?_;(case hd => rfl);(case hg => rfl);(case hr => first | (go_simp;done) | (go_simp;rfl));intro gb104 hg w9 hbox hb;have n0_ := aZ_ (below_step T5_ hb);have n1_ := aZ_ (hbox);have n2_ := aZ_ ((T2_ : w.heap.size ≤ gb104));have n3_ := aZ_ ((T2_ : w.heap.size ≤ gb104));clear HB;have HB := n0_;have BK104 := n1_;have GW104 := n2_;have GE104 := n3_;clear n0_ n1_ n2_ n3_;clear hb hbox hg;have hcz10_0 : w9.cell? ⟨gb104,0,none⟩ = some (.int .i64 0) := (blk_cell BK104.out 0).trans rfl;have hcz10_1 : w9.cell? ⟨gb104,1,none⟩ = some (.int .i64 0) := (blk_cell BK104.out 1).trans rfl;have hfz10_0 := blk_frozen BK104.out 0;have hfz10_1 := blk_frozen BK104.out 1) | ((with_reducible refine gate_callee (f := 27) rfl ?_);refine goesL_ (some 15) rfl rfl Try.func27 T15_ rfl #[.agg #[.int .i64 t101,.int .i64 t102],.int .i64 t103] rfl T4_ ?_;(with_reducible refine (spec_MatrixOf.calls k t101 t102 t103 t105 t108 _ A3.out).mono ?_);rintro e w11 ⟨v106,rfl,ho0,hb⟩;refine ⟨_,rfl,?_⟩;have n0_ := aZ_ (Kd.R_lower ho0 (below_size T9_));have n1_ := aZ_ (blk_below (g := gb104) (o := .cells #[.int .i64 t101,.int .i64 t102] 25 (0,0)) T7_ hb);have n2_ := aZ_ (below_step T9_ hb);clear BK104;clear HB;have HO107 := n0_;have BK104 := n1_;have HB := n2_;clear n0_ n1_ n2_;(try clear hb);(try clear hb2);(try clear hk);(try clear hi);(try clear ho0);obtain ⟨Ao12,co12,eo12⟩ := Kd.R_slice HO107.out;subst eo12;have p7 : 0 ≤ (0 : Int) := T44_;have q7 : (0 : Int) < ((t105.length : Int) : Int) := of_decide_eq_true T6_;have qi7 : (0 < t105.length) = True := eq_true T44_;obtain ⟨go7,co7,eo7,gb7,gl7,cl7,HG7⟩ := Kd.R_form HO107.out T44_;(first | cases eo7 | (injection eo7 with ea_ en_ ec_;(first | subst ea_ | (injection ea_ with ea_;subst ea_));subst ec_;clear en_));have GB7 := aZ_ gb7;have GG7 := aZ_ HG7;clear gb7 gl7 HG7;obtain ⟨hx7_0,hf7_0⟩ := Kd.R_celln 0 HO107.out (0 : Int) p7 q7;(try rw [show ((0 : Int)).toNat = 0 from rfl] at hx7_0);(try simp only [Nat.reduceMul,Nat.zero_mul,Nat.zero_add,Nat.reduceAdd] at hx7_0);(try rw [show ((0 : Int)).toNat = 0 from rfl] at hf7_0);(try simp only [Nat.reduceMul,Nat.zero_mul,Nat.zero_add,Nat.reduceAdd] at hf7_0);replace p7 := eq_true p7;replace q7 := eq_true q7;obtain ⟨hy13_,hz13_⟩ := Kd.R_celln 0 HO107.out (0 : Int) T44_ (of_decide_eq_true T6_);(try simp only [Int.reduceToNat,Int.toNat_zero,Int.toNat_ofNat,Nat.reduceMul,Nat.zero_mul,Nat.zero_add] at hy13_ hz13_);(try rw [show ((0 : Int)).toNat = 0 from rfl] at hy13_);(try rw [show ((0 : Int)).toNat = 0 from rfl] at hz13_);have HP13 := Kd.R_putg HO107.out (0 : Int) (-1)) | ((with_reducible refine gate_store (t := 3) (p := 28) rfl ?_);refine store_event (t := 3) (p := 28) (v := ?vo_w14) (w1 := (w11.setCell ⟨go7,(0 : Int).toNat,none⟩ (.int .i64 (-1)))) ?hg ?ho ?hn ?hr ?_;(case ho => rfl);(case hg => rfl);(case hn => rfl);(case hr => first | (go_simp;done) | (go_simp;rfl));intro w14 hw;have hg : w11.grownBy w14 (some go7) := (by rw [hw];exact HP13.2);have hp_ : Kd.R (Kd.int .i64) 3 w14 w.heap.size (fun _ => True) (.slice (some ⟨go7,0,none⟩) t105.length co12) y109 := (by rw [hw,Ny109.out];exact HP13.1);clear HP13;have n0_ := aZ_ (blk_grown (g := gb104) (o := .cells #[.int .i64 t101,.int .i64 t102] 25 (0,0)) T43_ hg (Kd.R_ne HO107.out BK104.out T48_));have n1_ := aZ_ (hp_);have n2_ := aZ_ ((by rw [hw];exact below_set (HB.out) GB7.out : Below w.heap.size w w14));clear BK104;clear HO107;clear HB;have BK104 := n0_;have HO107 := n1_;have HB := n2_;clear n0_ n1_ n2_;clear hg hw hp_))
    go_ret
    exact ⟨_,by first | rfl | (simp [errW_none,errW_some] <;> rfl) | (simp [*,errW_none,errW_some] <;> rfl),by (with_reducible repeat (first | apply Kd.R_alloc | apply Kd.R_drewN | apply Kd.R_drew));exact HO107.out,by repeat (first | (with_reducible first | exact HB.out | apply below_alloc | apply pw_below_drewN | apply below_drew1 | refine below_set ?_ GE104.out) | exact HB.out)⟩
   ·rw [if_neg c6] at H
    exact absurd H T49_
  ·rw [if_neg c5] at H
   have c5b0 : (((l0.length : Int) % 7) == 0) = false := beq_eq_false_iff_ne.mpr c5
   have c5b1 : (((l0.length : Int) % 7) != 0) = true := bne_iff_ne.mpr c5
   obtain rfl := Option.some.inj H
   go_enter Try.func37,Try.ntmps37
   go_wp2_with (first | ((with_reducible refine gate_callee (f := 68) rfl ?_);refine goesL_ (some 9) rfl rfl Try.func68 T15_ rfl #[.slice A0 l0.length c0] rfl T4_ ?_;(with_reducible refine (spec_l20Both.calls k _ _ l0 t101 t102 t103 _ ?side1 ?side2 A2.out).mono ?_);(case side1 => repeat (first | exact HR0.out | (with_reducible refine Kd.C_alloc ?_ _) | (with_reducible refine Kd.C_drewN ?_ _) | (with_reducible refine Kd.C_drew ?_)));(case side2 => exact HC0.out);rintro e w15 ⟨rfl,hb⟩;refine ⟨_,rfl,?_⟩;have n0_ := aZ_ (below_step T5_ hb);clear HB;have HB := n0_;clear n0_;(try clear hb);(try clear hb2);(try clear hk);(try clear hi)) | ((with_reducible refine gate_dst (N := 3) rfl ?_);(try (refine gate_guard (by rfl) ?_;dsimp only));refine box_event ?hg (N := 3) ?hd (cs := #[.int .i64 0,.int .i64 0]) (t := 25) ?hr ?_;(case hd => rfl);(case hg => rfl);(case hr => first | (go_simp;done) | (go_simp;rfl));intro gb104 hg w16 hbox hb;have n0_ := aZ_ (below_step T5_ hb);have n1_ := aZ_ (hbox);have n2_ := aZ_ ((T2_ : w.heap.size ≤ gb104));have n3_ := aZ_ ((T2_ : w.heap.size ≤ gb104));clear HB;have HB := n0_;have BK104 := n1_;have GW104 := n2_;have GE104 := n3_;clear n0_ n1_ n2_ n3_;clear hb hbox hg;have hcz17_0 : w16.cell? ⟨gb104,0,none⟩ = some (.int .i64 0) := (blk_cell BK104.out 0).trans rfl;have hcz17_1 : w16.cell? ⟨gb104,1,none⟩ = some (.int .i64 0) := (blk_cell BK104.out 1).trans rfl;have hfz17_0 := blk_frozen BK104.out 0;have hfz17_1 := blk_frozen BK104.out 1) | ((with_reducible refine gate_callee (f := 27) rfl ?_);refine goesL_ (some 15) rfl rfl Try.func27 T15_ rfl #[.agg #[.int .i64 t101,.int .i64 t102],.int .i64 t103] rfl T4_ ?_;(with_reducible refine (spec_MatrixOf.calls k t101 t102 t103 t105 t108 _ A3.out).mono ?_);rintro e w18 ⟨v106,rfl,ho0,hb⟩;refine ⟨_,rfl,?_⟩;have n0_ := aZ_ (Kd.R_lower ho0 (below_size T9_));have n1_ := aZ_ (blk_below (g := gb104) (o := .cells #[.int .i64 t101,.int .i64 t102] 25 (0,0)) T7_ hb);have n2_ := aZ_ (below_step T9_ hb);clear BK104;clear HB;have HO107 := n0_;have BK104 := n1_;have HB := n2_;clear n0_ n1_ n2_;(try clear hb);(try clear hb2);(try clear hk);(try clear hi);(try clear ho0);obtain ⟨Ao19,co19,eo19⟩ := Kd.R_slice HO107.out;subst eo19))
   go_ret
   exact ⟨_,by first | rfl | (simp [errW_none,errW_some] <;> rfl) | (simp [*,errW_none,errW_some] <;> rfl),by (with_reducible repeat (first | apply Kd.R_alloc | apply Kd.R_drewN | apply Kd.R_drew));exact HO107.out,by repeat (first | (with_reducible first | exact HB.out | apply below_alloc | apply pw_below_drewN | apply below_drew1 | refine below_set ?_ GE104.out) | exact HB.out)⟩
 ·rw [if_neg c4] at H
  have c4b0 : decide (0 < (t105.length : Int)) = false := decide_eq_false c4
  have c4b1 : decide (0 < t105.length) = false := decide_eq_false T44_
  clear c4
  obtain rfl := Option.some.inj H
  go_enter Try.func37,Try.ntmps37
  go_wp2_with (first | ((with_reducible refine gate_callee (f := 68) rfl ?_);refine goesL_ (some 9) rfl rfl Try.func68 T15_ rfl #[.slice A0 l0.length c0] rfl T4_ ?_;(with_reducible refine (spec_l20Both.calls k _ _ l0 t101 t102 t103 _ ?side1 ?side2 A2.out).mono ?_);(case side1 => repeat (first | exact HR0.out | (with_reducible refine Kd.C_alloc ?_ _) | (with_reducible refine Kd.C_drewN ?_ _) | (with_reducible refine Kd.C_drew ?_)));(case side2 => exact HC0.out);rintro e w20 ⟨rfl,hb⟩;refine ⟨_,rfl,?_⟩;have n0_ := aZ_ (below_step T5_ hb);clear HB;have HB := n0_;clear n0_;(try clear hb);(try clear hb2);(try clear hk);(try clear hi)) | ((with_reducible refine gate_dst (N := 3) rfl ?_);(try (refine gate_guard (by rfl) ?_;dsimp only));refine box_event ?hg (N := 3) ?hd (cs := #[.int .i64 0,.int .i64 0]) (t := 25) ?hr ?_;(case hd => rfl);(case hg => rfl);(case hr => first | (go_simp;done) | (go_simp;rfl));intro gb104 hg w21 hbox hb;have n0_ := aZ_ (below_step T5_ hb);have n1_ := aZ_ (hbox);have n2_ := aZ_ ((T2_ : w.heap.size ≤ gb104));have n3_ := aZ_ ((T2_ : w.heap.size ≤ gb104));clear HB;have HB := n0_;have BK104 := n1_;have GW104 := n2_;have GE104 := n3_;clear n0_ n1_ n2_ n3_;clear hb hbox hg;have hcz22_0 : w21.cell? ⟨gb104,0,none⟩ = some (.int .i64 0) := (blk_cell BK104.out 0).trans rfl;have hcz22_1 : w21.cell? ⟨gb104,1,none⟩ = some (.int .i64 0) := (blk_cell BK104.out 1).trans rfl;have hfz22_0 := blk_frozen BK104.out 0;have hfz22_1 := blk_frozen BK104.out 1) | ((with_reducible refine gate_callee (f := 27) rfl ?_);refine goesL_ (some 15) rfl rfl Try.func27 T15_ rfl #[.agg #[.int .i64 t101,.int .i64 t102],.int .i64 t103] rfl T4_ ?_;(with_reducible refine (spec_MatrixOf.calls k t101 t102 t103 t105 t108 _ A3.out).mono ?_);rintro e w23 ⟨v106,rfl,ho0,hb⟩;refine ⟨_,rfl,?_⟩;have n0_ := aZ_ (Kd.R_lower ho0 (below_size T9_));have n1_ := aZ_ (blk_below (g := gb104) (o := .cells #[.int .i64 t101,.int .i64 t102] 25 (0,0)) T7_ hb);have n2_ := aZ_ (below_step T9_ hb);clear BK104;clear HB;have HO107 := n0_;have BK104 := n1_;have HB := n2_;clear n0_ n1_ n2_;(try clear hb);(try clear hb2);(try clear hk);(try clear hi);(try clear ho0);obtain ⟨Ao24,co24,eo24⟩ := Kd.R_slice HO107.out;subst eo24))
  go_ret
  exact ⟨_,by first | rfl | (simp [errW_none,errW_some] <;> rfl) | (simp [*,errW_none,errW_some] <;> rfl),by (with_reducible repeat (first | apply Kd.R_alloc | apply Kd.R_drewN | apply Kd.R_drew));exact HO107.out,by repeat (first | (with_reducible first | exact HB.out | apply below_alloc | apply pw_below_drewN | apply below_drew1 | refine below_set ?_ GE104.out) | exact HB.out)⟩
def spec_DrawDifferentRows.f (k : Nat) (l0 : List Int) : Option (List Int) := (spec_l20Both.f k l0).bind fun bt101 => ((spec_MatrixOf.f k bt101.1 bt101.2.1 bt101.2.2).bind fun bt105 => (some bt105.1))
set_option maxHeartbeats 8000000 in
set_option maxRecDepth 100000 in
theorem spec_DrawDifferentRows.calls (k : Nat) (A0 : Option Addr) (c0 : Nat) (l0 : List Int) (r : List Int) (w : World) (hr0 : Kd.C (Kd.int .u8) w A0 l0.length l0) (hc0 : l0.length ≤ c0) (h : spec_DrawDifferentRows.f k l0 = some r) :
  Calls Try.prog 38 #[.slice A0 l0.length c0] w fun e w' => ∃ v0_ : Value,e = .returned (v0_) ∧ Kd.R (Kd.int .i64) 3 w' w.heap.size (fun _ => True) v0_ r ∧ Below w.heap.size w w' := by
 have hu25 := Try.underlying25
 have HR0 := aZ_ hr0
 have HC0 := aZ_ hc0
 clear hr0 hc0
 have HB := aZ_ (Below.refl w.heap.size w)
 have H : ((spec_l20Both.f k l0).bind fun bt101 => ((spec_MatrixOf.f k bt101.1 bt101.2.1 bt101.2.2).bind fun bt105 => (some bt105.1))) = some r := h
 clear h
 replace H := Option.bind_eq_some_iff.mp H
 obtain ⟨⟨t101,t102,t103⟩,A20,H⟩ := H
 replace H : ((spec_MatrixOf.f k t101 t102 t103).bind fun bt105 => (some bt105.1)) = some r := H
 have A2 := aZ_ A20
 clear A20
 replace H := Option.bind_eq_some_iff.mp H
 obtain ⟨⟨t105,t108⟩,A30,H⟩ := H
 replace H : (some t105) = some r := H
 have A3 := aZ_ A30
 clear A30
 obtain rfl := Option.some.inj H
 go_enter Try.func38,Try.ntmps38
 go_wp2_with (first | ((with_reducible refine gate_callee (f := 68) rfl ?_);refine goesL_ (some 9) rfl rfl Try.func68 T15_ rfl #[.slice A0 l0.length c0] rfl T4_ ?_;(with_reducible refine (spec_l20Both.calls k _ _ l0 t101 t102 t103 _ ?side1 ?side2 A2.out).mono ?_);(case side1 => repeat (first | exact HR0.out | (with_reducible refine Kd.C_alloc ?_ _) | (with_reducible refine Kd.C_drewN ?_ _) | (with_reducible refine Kd.C_drew ?_)));(case side2 => exact HC0.out);rintro e w4 ⟨rfl,hb⟩;refine ⟨_,rfl,?_⟩;have n0_ := aZ_ (below_step T5_ hb);clear HB;have HB := n0_;clear n0_;(try clear hb);(try clear hb2);(try clear hk);(try clear hi)) | ((with_reducible refine gate_dst (N := 3) rfl ?_);refine box_event ?hg (N := 3) ?hd (cs := #[.int .i64 0,.int .i64 0]) (t := 25) ?hr ?_;(case hd => rfl);(case hg => rfl);(case hr => first | (go_simp;done) | (go_simp;rfl));intro gb104 hg w5 hbox hb;have n0_ := aZ_ (below_step T5_ hb);have n1_ := aZ_ (hbox);have n2_ := aZ_ ((T2_ : w.heap.size ≤ gb104));have n3_ := aZ_ ((T2_ : w.heap.size ≤ gb104));clear HB;have HB := n0_;have BK104 := n1_;have GW104 := n2_;have GE104 := n3_;clear n0_ n1_ n2_ n3_;clear hb hbox hg;have hcz6_0 : w5.cell? ⟨gb104,0,none⟩ = some (.int .i64 0) := (blk_cell BK104.out 0).trans rfl;have hcz6_1 : w5.cell? ⟨gb104,1,none⟩ = some (.int .i64 0) := (blk_cell BK104.out 1).trans rfl;have hfz6_0 := blk_frozen BK104.out 0;have hfz6_1 := blk_frozen BK104.out 1) | ((with_reducible refine gate_callee (f := 27) rfl ?_);refine goesL_ (some 15) rfl rfl Try.func27 T15_ rfl #[.agg #[.int .i64 t101,.int .i64 t102],.int .i64 t103] rfl T4_ ?_;(with_reducible refine (spec_MatrixOf.calls k t101 t102 t103 t105 t108 _ A3.out).mono ?_);rintro e w7 ⟨v106,rfl,ho0,hb⟩;refine ⟨_,rfl,?_⟩;have n0_ := aZ_ (Kd.R_lower ho0 (below_size T9_));have n1_ := aZ_ (blk_below (g := gb104) (o := .cells #[.int .i64 t101,.int .i64 t102] 25 (0,0)) T7_ hb);have n2_ := aZ_ (below_step T9_ hb);clear BK104;clear HB;have HO107 := n0_;have BK104 := n1_;have HB := n2_;clear n0_ n1_ n2_;(try clear hb);(try clear hb2);(try clear hk);(try clear hi);(try clear ho0)))
 go_ret
 exact ⟨_,by first | rfl | (simp [errW_none,errW_some] <;> rfl) | (simp [*,errW_none,errW_some] <;> rfl),by (with_reducible repeat (first | apply Kd.R_alloc | apply Kd.R_drewN | apply Kd.R_drew));exact HO107.out,by repeat (first | (with_reducible first | exact HB.out | apply below_alloc | apply pw_below_drewN | apply below_drew1 | refine below_set ?_ GE104.out) | exact HB.out)⟩
end Go.Proofs.Ythlajlhjofjmcaa.F
