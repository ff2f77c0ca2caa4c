/- Walks of Go functions and lemmas on what they compute, for the row of FnDiagrams (a part of several): each call ends as the Lean function of its name tells; the conditions are those of each theorem. -/
import Derived.Test.YtflacbjpeecjcabGreatDoorM7FnDiagrams
set_option linter.unusedVariables false
set_option linter.unusedSimpArgs false
set_option maxHeartbeats 16000000
set_option maxRecDepth 100000
open Go.RowKit Go.Proofs.YtflacbjpeecjcabGreatDoorW.PrintWords Go.Proofs.YtflacbjpeecjcabGreatDoorW.PrintLast Go.Proofs.YtflacbjpeecjcabGreatDoorW.PrintMore
namespace Go.Proofs.YtflacbjpeecjcabGreatDoor.F
attribute [local go_sem] max2_int min2_int max_two min_two max_three min_three max_four min_four 
mutual
def spec_l19Build.l0:Nat → List Int → Int → Int → Int → List (S56) → List Int → Int → Int → Int → Int → Int → Option (Int × (List (S56)) × List Int)
 | 0,_,_,_,_,_,_,_,_,_,_,_=>none
 | k + 1,x1,x2,x3,x4,x5,x6,x18,x22,x23,x102000,x102001=>if x23 < (x6.length:Int) then (if 0 ≤ x23 then (if (rd x6 x23) = x22 then (some (x23,x5,x6)) else (spec_l19Build.l0 k x1 x2 x3 x4 x5 x6 x18 x22 (wrap64 (x23 + 1)) x102000 x102001)) else (none)) else ((spec_l19Build.f k x102000 x102001 x1 (wrap64 (x2 + 1)) (Go.bits .or .i64 x3 x18) x4 x5 x6).bind fun bt115=>((spec_l19Build.f k x102000 x102001 x1 (wrap64 (x2 + 1)) (Go.bits .or .i64 x3 x18) (Go.bits .or .i64 x4 x18) bt115.2.1 bt115.2.2).bind fun bt122=>(if 0 ≤ x2 then (if x2 < (x1.length:Int) then (if bt122.2.1.length < 5864062014805 then (if bt122.2.2.length < 17592186044416 then (some ((bt122.2.1.length:Int),(bt122.2.1 ++ [(⟨rd x1 x2,bt115.1,bt122.1⟩:S56)]),(bt122.2.2 ++ [x22]))) else (none)) else (none)) else (none)) else (none))))
def spec_l19Build.f:Nat → Int → Int → List Int → Int → Int → Int → List (S56) → List Int → Option (Int × (List (S56)) × List Int)
 | 0,_,_,_,_,_,_,_,_=>none
 | k + 1,a0_0,a0_1,l1,a2,a3,a4,l5,l6=>(spec_l3Cube.f k a0_0 a0_1 a3 a4).bind fun t102=>(if t102 < 2 then (some (wrap64 (t102 - 2),l5,l6)) else (if 0 ≤ a2 then (if a2 < (l1.length:Int) then (if 0 ≤ (rd l1 a2) then ((spec_l19Word.f k a0_0 a0_1 (Go.bits .or .i64 a3 (shl .i64 1 (rd l1 a2))) a4).bind fun t104=>((spec_l19Word.f k a0_0 a0_1 (Go.bits .or .i64 a3 (shl .i64 1 (rd l1 a2))) (Go.bits .or .i64 a4 (shl .i64 1 (rd l1 a2)))).bind fun t105=>(if t104 = t105 then ((spec_l19Build.f k a0_0 a0_1 l1 (wrap64 (a2 + 1)) (Go.bits .or .i64 a3 (shl .i64 1 (rd l1 a2))) a4 l5 l6).bind fun bt106=>(some (bt106.1,bt106.2.1,bt106.2.2))) else ((spec_l19Word.f k a0_0 a0_1 a3 a4).bind fun t113=>(spec_l19Build.l0 k l1 a2 a3 a4 l5 l6 (shl .i64 1 (rd l1 a2)) t113 0 a0_0 a0_1))))) else (none)) else (none)) else (none)))
end
def spec_l19Build.T5:Bool × List (List Nat × List Nat):=(true,[([],[]),([],[]),([],[]),([1,2],[1,2]),([],[]),([0,3,4],[0,3,4]),([],[]),([],[]),([],[]),([7,8],[7,8]),([],[]),([],[]),([10,11],[10,11]),([6,9,12,5],[6,9,12]),([5,13],[5,13])])
def spec_l19Build.B5:List Nat:=[0,0,0,6,0,31,0,0,0,384,0,0,3072,8191,16383]
theorem spec_l19Build.tab5:rtab .any (opsOf Tryz.f38 5) = spec_l19Build.T5:=by kernel_rfl
theorem spec_l19Build.bits5:waitsOk spec_l19Build.T5.2 spec_l19Build.B5 = true:=by kernel_rfl
theorem spec_l19Build.calls (k:Nat):∀ (a0_0:Int) (a0_1:Int) (A1:Option Addr) (c1:Nat) (l1:List Int) (a2:Int) (a3:Int) (a4:Int) (P5_:Nat → Prop) (u9000_:Value) (l5:List (S56)) (P6_:Nat → Prop) (u9001_:Value) (l6:List Int) (r1:Int) (r2:List (S56)) (r3:List Int) (w0 w:World) (hB:Below w0.heap.size w0 w) (hr1:∀ W_,Kept w W_ (fun k_=>P5_ k_ ∨ P6_ k_) → Kd.C (Kd.int .i64) W_ A1 l1.length l1) (hc1:l1.length ≤ c1) (ho5:Kd.R k56 56 w w0.heap.size P5_ u9000_ l5) (ho6:Kd.R (Kd.int .i64) 3 w w0.heap.size P6_ u9001_ l6) (h:spec_l19Build.f k a0_0 a0_1 l1 a2 a3 a4 l5 l6 = some (r1,r2,r3)),
  Calls Tryz.prog 38 #[.agg #[.int .i64 a0_0,.int .i64 a0_1],.slice A1 l1.length c1,.int .i64 a2,.int .i64 a3,.int .i64 a4,u9000_,u9001_] w fun e w'=>∃ v1_ v2_:Value,e = .returned (.tuple #[.int .i64 r1,v1_,v2_]) ∧ Kd.R k56 56 w' w0.heap.size (fun k_=>((P5_ k_ ∨ P6_ k_) ∨ w.heap.size ≤ k_)) v1_ r2 ∧ Kd.R (Kd.int .i64) 3 w' w0.heap.size (fun k_=>((P5_ k_ ∨ P6_ k_) ∨ w.heap.size ≤ k_)) v2_ r3 ∧ Below w0.heap.size w0 w' ∧ Kept w w' (fun k_=>P5_ k_ ∨ P6_ k_):=by
 induction k using Nat.strongRecOn with
 | _ k ih =>
 intro a0_0 a0_1 A1 c1 l1 a2 a3 a4 P5_ u9000_ l5 P6_ u9001_ l6 r1 r2 r3 w0 w hB hr1 hc1 ho5 ho6 h
 cases k with
 | zero=>exact absurd h (by simp [spec_l19Build.f])
 | succ k =>
 simp only [spec_l19Build.f] at h;have hu25:=Tryz.underlying25;have hu56:=Tryz.underlying56;have HR1:=aZ_ hr1;have HC1:=aZ_ hc1;clear hr1 hc1;have HO5:=aZ_ (show Kd.R k56 56 w w0.heap.size (fun k_=>((P5_ k_ ∨ P6_ k_) ∨ w.heap.size ≤ k_)) u9000_ l5 from Kd.R_mono ho5 (fun k_ hk=>(.inl (.inl hk))));have HO6:=aZ_ (show Kd.R (Kd.int .i64) 3 w w0.heap.size (fun k_=>((P5_ k_ ∨ P6_ k_) ∨ w.heap.size ≤ k_)) u9001_ l6 from Kd.R_mono ho6 (fun k_ hk=>(.inl (.inr hk))));have HK:=aZ_ (Kept.refl w (fun k_=>P5_ k_ ∨ P6_ k_));have HW0:=aZ_ hB.size;have HB:=aZ_ hB;clear hB;have H:((spec_l3Cube.f k a0_0 a0_1 a3 a4).bind fun t102=>(if t102 < 2 then (some (wrap64 (t102 - 2),l5,l6)) else (if 0 ≤ a2 then (if a2 < (l1.length:Int) then (if 0 ≤ (rd l1 a2) then ((spec_l19Word.f k a0_0 a0_1 (Go.bits .or .i64 a3 (shl .i64 1 (rd l1 a2))) a4).bind fun t104=>((spec_l19Word.f k a0_0 a0_1 (Go.bits .or .i64 a3 (shl .i64 1 (rd l1 a2))) (Go.bits .or .i64 a4 (shl .i64 1 (rd l1 a2)))).bind fun t105=>(if t104 = t105 then ((spec_l19Build.f k a0_0 a0_1 l1 (wrap64 (a2 + 1)) (Go.bits .or .i64 a3 (shl .i64 1 (rd l1 a2))) a4 l5 l6).bind fun bt106=>(some (bt106.1,bt106.2.1,bt106.2.2))) else ((spec_l19Word.f k a0_0 a0_1 a3 a4).bind fun t113=>(spec_l19Build.l0 k l1 a2 a3 a4 l5 l6 (shl .i64 1 (rd l1 a2)) t113 0 a0_0 a0_1))))) else (none)) else (none)) else (none)))) = some (r1,r2,r3):=h;clear h;replace H:=Option.bind_eq_some_iff.mp H;obtain ⟨t102,A80,H⟩:=H;replace H:(if t102 < 2 then (some (wrap64 (t102 - 2),l5,l6)) else (if 0 ≤ a2 then (if a2 < (l1.length:Int) then (if 0 ≤ (rd l1 a2) then ((spec_l19Word.f k a0_0 a0_1 (Go.bits .or .i64 a3 (shl .i64 1 (rd l1 a2))) a4).bind fun t104=>((spec_l19Word.f k a0_0 a0_1 (Go.bits .or .i64 a3 (shl .i64 1 (rd l1 a2))) (Go.bits .or .i64 a4 (shl .i64 1 (rd l1 a2)))).bind fun t105=>(if t104 = t105 then ((spec_l19Build.f k a0_0 a0_1 l1 (wrap64 (a2 + 1)) (Go.bits .or .i64 a3 (shl .i64 1 (rd l1 a2))) a4 l5 l6).bind fun bt106=>(some (bt106.1,bt106.2.1,bt106.2.2))) else ((spec_l19Word.f k a0_0 a0_1 a3 a4).bind fun t113=>(spec_l19Build.l0 k l1 a2 a3 a4 l5 l6 (shl .i64 1 (rd l1 a2)) t113 0 a0_0 a0_1))))) else (none)) else (none)) else (none))) = some (r1,r2,r3):=H;have A8:=aZ_ A80;clear A80
 by_cases c9:t102 < 2
 ·rw [if_pos c9] at H
  have c9b0:decide (t102 < 2) = true:=decide_eq_true c9;clear c9;simp only [Option.some.injEq,Prod.mk.injEq] at H;obtain ⟨rfl,rfl,rfl⟩:=H;go_enter Tryz.func38,Tryz.ntmps38
  go_wp2_with (first | ((with_reducible refine gate_dst (N:=7) rfl ?_);refine box_event ?hg (N:=7) ?hd (cs:=#[.int .i64 a0_0,.int .i64 a0_1]) (t:=25) ?hr ?_;(case hd=>rfl);(case hg=>rfl);(case hr=>exact T19_);intro gb101 hg w10 hbox hb;replace HO5:=aZ_ (Kd.R_below T60_ hb);replace HO6:=aZ_ (Kd.R_below T61_ hb);have BK101:=aZ_ (hbox);have GW101:=aZ_ ((T76_:w.heap.size ≤ gb101));replace HK:=aZ_ (Kept.below (S:=(fun k_=>P5_ k_ ∨ P6_ k_)) T96_ hb);have GE101:=aZ_ ((T3_:w0.heap.size ≤ gb101));replace HB:=aZ_ (below_step T2_ hb);clear hb hbox hg;obtain ⟨⟨hcz11_0,hcz11_1⟩,hfz11_0,hfz11_1⟩:=bc2_ BK101.out) | ((with_reducible refine gate_callee (f:=67) rfl ?_);refine goesL_ (some 33) rfl rfl Tryz.func67 T22_ rfl #[.agg #[.int .i64 a0_0,.int .i64 a0_1],.int .i64 a3,.int .i64 a4] rfl T4_ ?_;(with_reducible refine (spec_l3Cube.calls k a0_0 a0_1 a3 a4 t102 _ A8.out).mono ?_);rintro e w12 ⟨rfl,hb⟩;refine ⟨_,rfl,?_⟩;replace HO5:=aZ_ (Kd.R_below T60_ hb);replace HO6:=aZ_ (Kd.R_below T61_ hb);replace BK101:=aZ_ (blk_below (g:=gb101) (o:=.cells #[.int .i64 a0_0,.int .i64 a0_1] 25 (0,0)) T5_ hb);replace HK:=aZ_ (Kept.below (S:=(fun k_=>P5_ k_ ∨ P6_ k_)) T23_ hb);replace HB:=aZ_ (below_step T1_ hb);(try clear hb)))
  go_ret3
  exact ⟨_,_,T13_,by (with_reducible repeat (first | apply Kd.R_alloc | apply Kd.R_drewN | apply Kd.R_drew));exact HO5.out,by (with_reducible repeat (first | apply Kd.R_alloc | apply Kd.R_drewN | apply Kd.R_drew));exact HO6.out,T1_,T23_⟩
 ·rw [if_neg c9] at H
  have c9b0:decide (t102 < 2) = false:=decide_eq_false c9;clear c9
  by_cases c13:0 ≤ a2
  ·rw [if_pos c13] at H
   have c13b0:decide (0 ≤ a2) = true:=decide_eq_true c13;clear c13
   by_cases c14:a2 < (l1.length:Int)
   ·rw [if_pos c14] at H
    have c14b0:decide (a2 < (l1.length:Int)) = true:=decide_eq_true c14;clear c14
    by_cases c15:0 ≤ (rd l1 a2)
    ·rw [if_pos c15] at H
     have c15b0:=eq_true c15;have c15b1:decide (0 ≤ (rd l1 a2)) = true:=decide_eq_true c15;clear c15;obtain ⟨ji16,hji16⟩:∃ j_:Int,(shl .i64 1 (rd l1 a2)) = j_:=⟨_,rfl⟩;replace H:((spec_l19Word.f k a0_0 a0_1 (Go.bits .or .i64 a3 (ji16)) a4).bind fun t104=>((spec_l19Word.f k a0_0 a0_1 (Go.bits .or .i64 a3 (ji16)) (Go.bits .or .i64 a4 (ji16))).bind fun t105=>(if t104 = t105 then ((spec_l19Build.f k a0_0 a0_1 l1 (wrap64 (a2 + 1)) (Go.bits .or .i64 a3 (ji16)) a4 l5 l6).bind fun bt106=>(some (bt106.1,bt106.2.1,bt106.2.2))) else ((spec_l19Word.f k a0_0 a0_1 a3 a4).bind fun t113=>(spec_l19Build.l0 k l1 a2 a3 a4 l5 l6 ji16 t113 0 a0_0 a0_1))))) = some (r1,r2,r3):=by first | (rw [hji16] at H;exact H) | (simp only [hji16] at H ⊢;exact H)
     (try rw [hji16] at A8)
     have hji16_:(IntKind.i64.wrap (1 * 2 ^ min (rd l1 a2).toNat 64)) = ji16:=hji16;have hji16z:(rd l1 a2) ≤ 64 → (IntKind.i64.wrap (1 * 2 ^ (rd l1 a2).toNat)) = ji16:=shl_small hji16;have hji16u:(IntKind.i64.wrap (2 ^ min (rd l1 a2).toNat 64)) = ji16:=by have h_:=hji16_;rw [Int.one_mul] at h_;exact h_
     have hji16v:(rd l1 a2) ≤ 64 → (IntKind.i64.wrap (2 ^ (rd l1 a2).toNat)) = ji16:=fun hle_=>by have h_:=hji16z hle_;rw [Int.one_mul] at h_;exact h_
     have hji16y:(wrap64 (1 * 2 ^ min (rd l1 a2).toNat 64)) = ji16:=(i64_w _).symm.trans hji16_;have hji16x:(rd l1 a2) ≤ 64 → (wrap64 (1 * 2 ^ (rd l1 a2).toNat)) = ji16:=fun h_=>(i64_w _).symm.trans (hji16z h_)
     replace H:=Option.bind_eq_some_iff.mp H;obtain ⟨t104,A170,H⟩:=H;replace H:((spec_l19Word.f k a0_0 a0_1 (Go.bits .or .i64 a3 (ji16)) (Go.bits .or .i64 a4 (ji16))).bind fun t105=>(if t104 = t105 then ((spec_l19Build.f k a0_0 a0_1 l1 (wrap64 (a2 + 1)) (Go.bits .or .i64 a3 (ji16)) a4 l5 l6).bind fun bt106=>(some (bt106.1,bt106.2.1,bt106.2.2))) else ((spec_l19Word.f k a0_0 a0_1 a3 a4).bind fun t113=>(spec_l19Build.l0 k l1 a2 a3 a4 l5 l6 ji16 t113 0 a0_0 a0_1)))) = some (r1,r2,r3):=H;have A17:=aZ_ A170;clear A170;replace H:=Option.bind_eq_some_iff.mp H;obtain ⟨t105,A180,H⟩:=H;replace H:(if t104 = t105 then ((spec_l19Build.f k a0_0 a0_1 l1 (wrap64 (a2 + 1)) (Go.bits .or .i64 a3 (ji16)) a4 l5 l6).bind fun bt106=>(some (bt106.1,bt106.2.1,bt106.2.2))) else ((spec_l19Word.f k a0_0 a0_1 a3 a4).bind fun t113=>(spec_l19Build.l0 k l1 a2 a3 a4 l5 l6 ji16 t113 0 a0_0 a0_1))) = some (r1,r2,r3):=H;have A18:=aZ_ A180;clear A180
     by_cases c19:t104 = t105
     ·rw [if_pos c19] at H
      have c19b0:(t104 == t105) = true:=beq_iff_eq.mpr c19;have c19b1:(t104 != t105) = false:=bne_eq_false_iff_eq.mpr c19;clear c19;replace H:=Option.bind_eq_some_iff.mp H;obtain ⟨⟨t106,t107,t110⟩,A200,H⟩:=H;replace H:(some (t106,t107,t110)) = some (r1,r2,r3):=H;have A20:=aZ_ A200;clear A200;simp only [Option.some.injEq,Prod.mk.injEq] at H;obtain ⟨rfl,rfl,rfl⟩:=H;go_enter Tryz.func38,Tryz.ntmps38
      try go_wp2_with (first | ((with_reducible refine gate_dst (N:=7) rfl ?_);refine box_event ?hg (N:=7) ?hd (cs:=#[.int .i64 a0_0,.int .i64 a0_1]) (t:=25) ?hr ?_;(case hd=>rfl);(case hg=>rfl);(case hr=>exact T19_);intro gb101 hg w21 hbox hb;replace HO5:=aZ_ (Kd.R_below T60_ hb);replace HO6:=aZ_ (Kd.R_below T61_ hb);have BK101:=aZ_ (hbox);have GW101:=aZ_ ((T76_:w.heap.size ≤ gb101));replace HK:=aZ_ (Kept.below (S:=(fun k_=>P5_ k_ ∨ P6_ k_)) T96_ hb);have GE101:=aZ_ ((T3_:w0.heap.size ≤ gb101));replace HB:=aZ_ (below_step T2_ hb);clear hb hbox hg;obtain ⟨⟨hcz22_0,hcz22_1⟩,hfz22_0,hfz22_1⟩:=bc2_ BK101.out) | ((with_reducible refine gate_callee (f:=67) rfl ?_);refine goesL_ (some 33) rfl rfl Tryz.func67 T22_ rfl #[.agg #[.int .i64 a0_0,.int .i64 a0_1],.int .i64 a3,.int .i64 a4] rfl T4_ ?_;(with_reducible refine (spec_l3Cube.calls k a0_0 a0_1 a3 a4 t102 _ A8.out).mono ?_);rintro e w23 ⟨rfl,hb⟩;refine ⟨_,rfl,?_⟩;replace HO5:=aZ_ (Kd.R_below T60_ hb);replace HO6:=aZ_ (Kd.R_below T61_ hb);replace BK101:=aZ_ (blk_below (g:=gb101) (o:=.cells #[.int .i64 a0_0,.int .i64 a0_1] 25 (0,0)) T5_ hb);replace HK:=aZ_ (Kept.below (S:=(fun k_=>P5_ k_ ∨ P6_ k_)) T23_ hb);replace HB:=aZ_ (below_step T1_ hb);(try clear hb);have p103:0 ≤ (a2:Int):=of_decide_eq_true T14_;have q103:a2 < (l1.length:Int):=of_decide_eq_true T14_;obtain ⟨ad103,e103,hx103_0⟩:=Kd.at_int (Kd.C_kept_now HR1.out HK.out) a2 p103 q103;cases e103;replace p103:=eq_true p103;replace q103:=eq_true q103))
      replace HO5:=aZ_ (Kd.R_drew HO5.out);replace HO6:=aZ_ (Kd.R_drew HO6.out);replace BK101:=aZ_ (blk_drew BK101.out);replace HK:=aZ_ (Kept.drew HK.out);replace HB:=aZ_ (below_drew1 HB.out);refine start_ (n:=15) (S:=fun w'=>w'.cell? ⟨gb101,0,none⟩ = some (.int .i64 a0_0) ∧ w'.cell? ⟨gb101,1,none⟩ = some (.int .i64 a0_1)) (ds:=[]) (bA 15 0) T22_ rfl rfl ⟨(blk_cell BK101.out 0).trans rfl,(blk_cell BK101.out 1).trans rfl⟩ (fun hHeld=>?_);refine with_tabW spec_l19Build.tab5 spec_l19Build.bits5 (fun HT_ HW_=>?_);generalize w23.drew = w24 at HO5 HO6 BK101 HK HB hHeld ⊢;refine pZ_ 1 (some 46) (bA 15 2) ?_;refine pZ_ 2 (some 47) (bA 15 6) ?_;refine pZ_ 3 (some 48) (bA 15 14) ?_;refine pZ_ 4 (some 49) (bA 15 30) ?_;refine pZ_ 7 (some 52) (bA 15 158) ?_;refine pZ_ 8 (some 53) (bA 15 414) ?_;refine pZ_ 9 (some 54) (bA 15 926) ?_;refine pZ_ 10 (some 55) (bA 15 1950) ?_;refine pZ_ 11 (some 56) (bA 15 3998) ?_;refine pZ_ 12 (some 57) (bA 15 8094) ?_;refine tZ2_ 0 (some 45) (bA 15 8095) hHeld ?_;refine tZ2_ 6 (some 51) (bA 15 8159) hHeld ?_;refine one_ (i:=5) (N:=some 50) (bA 15 8191) rfl rfl (one_of HT_.out T22_) T55_ (fun K hK=>?_);refine goes_ Tryz.func68 T22_ rfl #[.agg #[.int .i64 a0_0,.int .i64 a0_1],.int .i64 (Go.bits .or .i64 a3 (ji16)),.int .i64 a4] (by rfl) rfl rfl T59_ ?_;with_reducible refine (spec_l19Word.calls k a0_0 a0_1 (Go.bits .or .i64 a3 (ji16)) a4 t104 _ A17.out).mono ?_
      rintro e w25 ⟨rfl,hb⟩;refine ⟨_,rfl,?_⟩;replace HO5:=aZ_ (Kd.R_below T60_ hb);replace HO6:=aZ_ (Kd.R_below T61_ hb);replace BK101:=aZ_ (blk_below (g:=gb101) (o:=.cells #[.int .i64 a0_0,.int .i64 a0_1] 25 (0,0)) T5_ hb);replace HK:=aZ_ (Kept.below (S:=(fun k_=>P5_ k_ ∨ P6_ k_)) T23_ hb);replace HB:=aZ_ (below_step T1_ hb)
      (try clear hb)
      (try clear hb2)
      (try clear hk)
      (try clear hi)
      refine hK.out _ _ ⟨(blk_cell BK101.out 0).trans rfl,(blk_cell BK101.out 1).trans rfl⟩ (fun hHeld=>?_);clear hK K;refine nZ_ (some 50) ?_;refine one_ (i:=13) (N:=some 58) (bA 15 16383) rfl rfl (one_of HT_.out T22_) T55_ (fun K hK=>?_);refine goes_ Tryz.func68 T22_ rfl #[.agg #[.int .i64 a0_0,.int .i64 a0_1],.int .i64 (Go.bits .or .i64 a3 (ji16)),.int .i64 (Go.bits .or .i64 a4 (ji16))] (by rfl) rfl rfl T59_ ?_;with_reducible refine (spec_l19Word.calls k a0_0 a0_1 (Go.bits .or .i64 a3 (ji16)) (Go.bits .or .i64 a4 (ji16)) t105 _ A18.out).mono ?_
      rintro e w26 ⟨rfl,hb⟩;refine ⟨_,rfl,?_⟩;replace HO5:=aZ_ (Kd.R_below T60_ hb);replace HO6:=aZ_ (Kd.R_below T61_ hb);replace BK101:=aZ_ (blk_below (g:=gb101) (o:=.cells #[.int .i64 a0_0,.int .i64 a0_1] 25 (0,0)) T5_ hb);replace HK:=aZ_ (Kept.below (S:=(fun k_=>P5_ k_ ∨ P6_ k_)) T23_ hb);replace HB:=aZ_ (below_step T1_ hb)
      (try clear hb)
      (try clear hb2)
      (try clear hk)
      (try clear hi)
      refine hK.out _ _ ⟨(blk_cell BK101.out 0).trans rfl,(blk_cell BK101.out 1).trans rfl⟩ (fun hHeld=>?_);clear hK K;refine nZ_ (some 58) ?_;refine pZ_ 14 (some 59) (bA 15 32767) ?_;refine done_ (done_of HT_.out T22_) ?_;obtain ⟨⟨hcz27_0,hcz27_1⟩,hfz27_0,hfz27_1⟩:=bc2_ BK101.out;obtain ⟨Ao28,co28,eo28⟩:=Kd.R_slice HO5.out;subst eo28;obtain ⟨Ao29,co29,eo29⟩:=Kd.R_slice HO6.out;subst eo29
      try go_wp2_with (first | ((with_reducible refine gate_callee (f:=38) rfl ?_);refine goesL_ (some 71) rfl rfl Tryz.func38 T22_ rfl #[.agg #[.int .i64 a0_0,.int .i64 a0_1],.slice (some ad103) l1.length c1,.int .i64 (wrap64 (a2 + 1)),.int .i64 (Go.bits .or .i64 a3 (ji16)),.int .i64 a4,.slice Ao28 l5.length co28,.slice Ao29 l6.length co29] rfl T59_ ?_;(with_reducible refine (ih k T73_ a0_0 a0_1 _ _ l1 (wrap64 (a2 + 1)) (Go.bits .or .i64 a3 (ji16)) a4 (fun k_=>some k_ = (.slice Ao28 l5.length co28:Value).ownBlock) (.slice Ao28 l5.length co28) l5 (fun k_=>some k_ = (.slice Ao29 l6.length co29:Value).ownBlock) (.slice Ao29 l6.length co29) l6 t106 t107 t110 w0 _ ?side1 ?side2 ?side3 ?side4 ?side5 A20.out).mono ?_);(case side1=>exact T1_);(case side2=>exact Kd.C_kept_call HR1.out T23_ (fun k_ hs_=>Or.elim hs_ (fun e_=>(fun e_=>(HO5.out.1 k_ e_.symm)) e_) (fun e_=>(fun e_=>(HO6.out.1 k_ e_.symm)) e_)));(case side3=>exact HC1.out);(case side4=>exact Kd.R_tight rfl HO5.out);(case side5=>exact Kd.R_tight rfl HO6.out);rintro e w30 ⟨v108,v111,rfl,ho0,ho1,hb,hkp⟩;refine ⟨_,rfl,?_⟩;replace BK101:=aZ_ (blk_kept T5_ hkp (fun hs_=>Or.elim hs_ (fun e_=>(fun e_=>(Kd.R_ne HO5.out BK101.out T55_) e_) e_) (fun e_=>(fun e_=>(Kd.R_ne HO6.out BK101.out T55_) e_) e_)));have HO109:=aZ_ (Kd.R_mono (ok':=fun k_=>((P5_ k_ ∨ P6_ k_) ∨ w.heap.size ≤ k_)) ho0 (fun k_ hk_=>Or.elim hk_ (fun hs_=>Or.elim hs_ (fun hs_=>(HO5.out.1 k_ (hs_).symm)) (fun hs_=>(HO6.out.1 k_ (hs_).symm))) (fun hn_=>(.inr (Nat.le_trans T38_ hn_)))));have HO112:=aZ_ (Kd.R_mono (ok':=fun k_=>((P5_ k_ ∨ P6_ k_) ∨ w.heap.size ≤ k_)) ho1 (fun k_ hk_=>Or.elim hk_ (fun hs_=>Or.elim hs_ (fun hs_=>(HO5.out.1 k_ (hs_).symm)) (fun hs_=>(HO6.out.1 k_ (hs_).symm))) (fun hn_=>(.inr (Nat.le_trans T38_ hn_)))));replace HK:=aZ_ (Kept.then_ (S:=(fun k_=>P5_ k_ ∨ P6_ k_)) T23_ hkp (fun k_ hs_=>Or.elim hs_ (fun e_=>(fun e_=>(HO5.out.1 k_ e_.symm)) e_) (fun e_=>(fun e_=>(HO6.out.1 k_ e_.symm)) e_)));replace HB:=aZ_ (hb);clear HO5 HO6;(try clear hb);(try clear hkp);(try clear ho0);(try clear ho1)))
      go_ret3
      exact ⟨_,_,T87_,by (with_reducible repeat (first | apply Kd.R_alloc | apply Kd.R_drewN | apply Kd.R_drew));exact HO109.out,by (with_reducible repeat (first | apply Kd.R_alloc | apply Kd.R_drewN | apply Kd.R_drew));exact HO112.out,T1_,T23_⟩
     ·rw [if_neg c19] at H
      have c19b0:(t104 == t105) = false:=beq_eq_false_iff_ne.mpr c19;have c19b1:(t104 != t105) = true:=bne_iff_ne.mpr c19;replace H:=Option.bind_eq_some_iff.mp H;obtain ⟨t113,A310,H⟩:=H;replace H:(spec_l19Build.l0 k l1 a2 a3 a4 l5 l6 ji16 t113 0 a0_0 a0_1) = some (r1,r2,r3):=H;have A31:=aZ_ A310;clear A310;have H':=aZ_ H;clear H;go_enter Tryz.func38,Tryz.ntmps38
      try go_wp2_with (first | ((with_reducible refine gate_dst (N:=7) rfl ?_);refine box_event ?hg (N:=7) ?hd (cs:=#[.int .i64 a0_0,.int .i64 a0_1]) (t:=25) ?hr ?_;(case hd=>rfl);(case hg=>rfl);(case hr=>exact T19_);intro gb101 hg w32 hbox hb;replace HO5:=aZ_ (Kd.R_below T60_ hb);replace HO6:=aZ_ (Kd.R_below T61_ hb);have BK101:=aZ_ (hbox);have GW101:=aZ_ ((T76_:w.heap.size ≤ gb101));replace HK:=aZ_ (Kept.below (S:=(fun k_=>P5_ k_ ∨ P6_ k_)) T96_ hb);have GE101:=aZ_ ((T3_:w0.heap.size ≤ gb101));replace HB:=aZ_ (below_step T2_ hb);clear hb hbox hg;obtain ⟨⟨hcz33_0,hcz33_1⟩,hfz33_0,hfz33_1⟩:=bc2_ BK101.out) | ((with_reducible refine gate_callee (f:=67) rfl ?_);refine goesL_ (some 33) rfl rfl Tryz.func67 T22_ rfl #[.agg #[.int .i64 a0_0,.int .i64 a0_1],.int .i64 a3,.int .i64 a4] rfl T4_ ?_;(with_reducible refine (spec_l3Cube.calls k a0_0 a0_1 a3 a4 t102 _ A8.out).mono ?_);rintro e w34 ⟨rfl,hb⟩;refine ⟨_,rfl,?_⟩;replace HO5:=aZ_ (Kd.R_below T60_ hb);replace HO6:=aZ_ (Kd.R_below T61_ hb);replace BK101:=aZ_ (blk_below (g:=gb101) (o:=.cells #[.int .i64 a0_0,.int .i64 a0_1] 25 (0,0)) T5_ hb);replace HK:=aZ_ (Kept.below (S:=(fun k_=>P5_ k_ ∨ P6_ k_)) T23_ hb);replace HB:=aZ_ (below_step T1_ hb);(try clear hb);have p103:0 ≤ (a2:Int):=of_decide_eq_true T14_;have q103:a2 < (l1.length:Int):=of_decide_eq_true T14_;obtain ⟨ad103,e103,hx103_0⟩:=Kd.at_int (Kd.C_kept_now HR1.out HK.out) a2 p103 q103;cases e103;replace p103:=eq_true p103;replace q103:=eq_true q103))
      replace HO5:=aZ_ (Kd.R_drew HO5.out);replace HO6:=aZ_ (Kd.R_drew HO6.out);replace BK101:=aZ_ (blk_drew BK101.out);replace HK:=aZ_ (Kept.drew HK.out);replace HB:=aZ_ (below_drew1 HB.out);refine start_ (n:=15) (S:=fun w'=>w'.cell? ⟨gb101,0,none⟩ = some (.int .i64 a0_0) ∧ w'.cell? ⟨gb101,1,none⟩ = some (.int .i64 a0_1)) (ds:=[]) (bA 15 0) T22_ rfl rfl ⟨(blk_cell BK101.out 0).trans rfl,(blk_cell BK101.out 1).trans rfl⟩ (fun hHeld=>?_);refine with_tabW spec_l19Build.tab5 spec_l19Build.bits5 (fun HT_ HW_=>?_);generalize w34.drew = w35 at HO5 HO6 BK101 HK HB hHeld ⊢;refine pZ_ 1 (some 46) (bA 15 2) ?_;refine pZ_ 2 (some 47) (bA 15 6) ?_;refine pZ_ 3 (some 48) (bA 15 14) ?_;refine pZ_ 4 (some 49) (bA 15 30) ?_;refine pZ_ 7 (some 52) (bA 15 158) ?_;refine pZ_ 8 (some 53) (bA 15 414) ?_;refine pZ_ 9 (some 54) (bA 15 926) ?_;refine pZ_ 10 (some 55) (bA 15 1950) ?_;refine pZ_ 11 (some 56) (bA 15 3998) ?_;refine pZ_ 12 (some 57) (bA 15 8094) ?_;refine tZ2_ 0 (some 45) (bA 15 8095) hHeld ?_;refine tZ2_ 6 (some 51) (bA 15 8159) hHeld ?_;refine one_ (i:=5) (N:=some 50) (bA 15 8191) rfl rfl (one_of HT_.out T22_) T55_ (fun K hK=>?_);refine goes_ Tryz.func68 T22_ rfl #[.agg #[.int .i64 a0_0,.int .i64 a0_1],.int .i64 (Go.bits .or .i64 a3 (ji16)),.int .i64 a4] (by rfl) rfl rfl T59_ ?_;with_reducible refine (spec_l19Word.calls k a0_0 a0_1 (Go.bits .or .i64 a3 (ji16)) a4 t104 _ A17.out).mono ?_
      rintro e w36 ⟨rfl,hb⟩;refine ⟨_,rfl,?_⟩;replace HO5:=aZ_ (Kd.R_below T60_ hb);replace HO6:=aZ_ (Kd.R_below T61_ hb);replace BK101:=aZ_ (blk_below (g:=gb101) (o:=.cells #[.int .i64 a0_0,.int .i64 a0_1] 25 (0,0)) T5_ hb);replace HK:=aZ_ (Kept.below (S:=(fun k_=>P5_ k_ ∨ P6_ k_)) T23_ hb);replace HB:=aZ_ (below_step T1_ hb)
      (try clear hb)
      (try clear hb2)
      (try clear hk)
      (try clear hi)
      refine hK.out _ _ ⟨(blk_cell BK101.out 0).trans rfl,(blk_cell BK101.out 1).trans rfl⟩ (fun hHeld=>?_);clear hK K;refine nZ_ (some 50) ?_;refine one_ (i:=13) (N:=some 58) (bA 15 16383) rfl rfl (one_of HT_.out T22_) T55_ (fun K hK=>?_);refine goes_ Tryz.func68 T22_ rfl #[.agg #[.int .i64 a0_0,.int .i64 a0_1],.int .i64 (Go.bits .or .i64 a3 (ji16)),.int .i64 (Go.bits .or .i64 a4 (ji16))] (by rfl) rfl rfl T59_ ?_;with_reducible refine (spec_l19Word.calls k a0_0 a0_1 (Go.bits .or .i64 a3 (ji16)) (Go.bits .or .i64 a4 (ji16)) t105 _ A18.out).mono ?_
      rintro e w37 ⟨rfl,hb⟩;refine ⟨_,rfl,?_⟩;replace HO5:=aZ_ (Kd.R_below T60_ hb);replace HO6:=aZ_ (Kd.R_below T61_ hb);replace BK101:=aZ_ (blk_below (g:=gb101) (o:=.cells #[.int .i64 a0_0,.int .i64 a0_1] 25 (0,0)) T5_ hb);replace HK:=aZ_ (Kept.below (S:=(fun k_=>P5_ k_ ∨ P6_ k_)) T23_ hb);replace HB:=aZ_ (below_step T1_ hb)
      (try clear hb)
      (try clear hb2)
      (try clear hk)
      (try clear hi)
      refine hK.out _ _ ⟨(blk_cell BK101.out 0).trans rfl,(blk_cell BK101.out 1).trans rfl⟩ (fun hHeld=>?_);clear hK K;refine nZ_ (some 58) ?_;refine pZ_ 14 (some 59) (bA 15 32767) ?_;refine done_ (done_of HT_.out T22_) ?_;obtain ⟨⟨hcz38_0,hcz38_1⟩,hfz38_0,hfz38_1⟩:=bc2_ BK101.out
      try go_wp2_with (first | ((with_reducible refine gate_callee (f:=68) rfl ?_);refine goesL_ (some 81) rfl rfl Tryz.func68 T22_ rfl #[.agg #[.int .i64 a0_0,.int .i64 a0_1],.int .i64 a3,.int .i64 a4] rfl T4_ ?_;(with_reducible refine (spec_l19Word.calls k a0_0 a0_1 a3 a4 t113 _ A31.out).mono ?_);rintro e w39 ⟨rfl,hb⟩;refine ⟨_,rfl,?_⟩;replace HO5:=aZ_ (Kd.R_below T60_ hb);replace HO6:=aZ_ (Kd.R_below T61_ hb);replace BK101:=aZ_ (blk_below (g:=gb101) (o:=.cells #[.int .i64 a0_0,.int .i64 a0_1] 25 (0,0)) T5_ hb);replace HK:=aZ_ (Kept.below (S:=(fun k_=>P5_ k_ ∨ P6_ k_)) T23_ hb);replace HB:=aZ_ (below_step T1_ hb);(try clear hb)))
      go_loopg [23] k (fun kq v23 w'=>∃ (x23_1:Int),v23 = .int .i64 x23_1 ∧ Aside0 (spec_l19Build.l0 kq l1 a2 a3 a4 l5 l6 ji16 t113 x23_1 a0_0 a0_1 = some (r1,r2,r3)) ∧ Aside0 (kq ≤ k) ∧ Aside0 (Kd.R k56 56 w' w0.heap.size (fun k_=>((P5_ k_ ∨ P6_ k_) ∨ w.heap.size ≤ k_)) u9000_ l5) ∧ Aside0 (Kd.R (Kd.int .i64) 3 w' w0.heap.size (fun k_=>((P5_ k_ ∨ P6_ k_) ∨ w.heap.size ≤ k_)) u9001_ l6) ∧ Aside0 (w'.heap[gb101]? = some (.cells #[.int .i64 a0_0,.int .i64 a0_1] 25 (0,0))) ∧ Aside0 (Kept w w' (fun k_=>P5_ k_ ∨ P6_ k_)) ∧ Aside0 (Below w0.heap.size w0 w'))
      case atStart=>exact ⟨(0),T11_,H',⟨Nat.le_refl _⟩,⟨by (with_reducible repeat (first | apply Kd.R_alloc | apply Kd.R_drewN | apply Kd.R_drew));exact HO5.out⟩,⟨by (with_reducible repeat (first | apply Kd.R_alloc | apply Kd.R_drewN | apply Kd.R_drew));exact HO6.out⟩,⟨by (with_reducible repeat (first | refine blk_drewN ?_ _ | refine blk_drew ?_ | refine blk_alloc ?_ _));exact BK101.out⟩,⟨T23_⟩,⟨T1_⟩⟩
      case round =>
       clear H'
       repeat (first | clear c1 | clear p1 | clear q1 | clear hx1 | clear p2 | clear c3 | clear c6 | clear p6 | clear c9 | clear c9b0 | clear p10 | clear q10 | clear hx10 | clear c13 | clear c13b0 | clear c14 | clear c14b0 | clear c15 | clear c15b0 | clear c15b1 | clear c19 | clear c19b0 | clear c19b1 | clear c38 | clear hcz11_0 | clear hcz11_1 | clear hcz22_0 | clear hcz22_1 | clear hcz27_0 | clear hcz27_1 | clear hcz33_0 | clear hcz33_1 | clear hcz38_0 | clear hcz38_1 | clear hfz11_0 | clear hfz11_1 | clear hfz22_0 | clear hfz22_1 | clear hfz27_0 | clear hfz27_1 | clear hfz33_0 | clear hfz33_1 | clear hfz38_0 | clear hfz38_1 | clear hx103_0 | clear p103 | clear q103)
       obtain ⟨x23_1,rfl,HA,HK1,HO_5,HO_6,BK101,HK,HB⟩:=hrel
       cases gk with
       | zero=>exact absurd HA.out (by simp [spec_l19Build.l0])
       | succ k1 =>
        have H:=HA.out;clear HA;simp only [spec_l19Build.l0] at H
        by_cases c40:x23_1 < (l6.length:Int)
        ·rw [if_pos c40] at H
         have c40b0:decide (x23_1 < (l6.length:Int)) = true:=decide_eq_true c40;clear c40
         by_cases c41:0 ≤ x23_1
         ·rw [if_pos c41] at H
          have c41b0:decide (0 ≤ x23_1) = true:=decide_eq_true c41;clear c41
          by_cases c42:(rd l6 x23_1) = t113
          ·rw [if_pos c42] at H
           have c42b0:((rd l6 x23_1) == t113) = true:=beq_iff_eq.mpr c42;have c42b1:((rd l6 x23_1) != t113) = false:=bne_eq_false_iff_eq.mpr c42;clear c42;simp only [Option.some.injEq,Prod.mk.injEq] at H;obtain ⟨rfl,rfl,rfl⟩:=H;obtain ⟨Ao43,co43,eo43⟩:=Kd.R_slice HO_6.out;subst eo43;have p114:0 ≤ (x23_1:Int):=of_decide_eq_true T14_;have q114:x23_1 < (l6.length:Int):=of_decide_eq_true T14_;obtain ⟨ad114,e114,hx114_0⟩:=Kd.at_int (Kd.R_reads' HO_6.out).2.2 x23_1 p114 q114
           cases e114
           replace p114:=eq_true p114;replace q114:=eq_true q114;go_wp2
           go_ret3
           exact ⟨_,_,T87_,by (with_reducible repeat (first | apply Kd.R_alloc | apply Kd.R_drewN | apply Kd.R_drew));exact HO_5.out,by (with_reducible repeat (first | apply Kd.R_alloc | apply Kd.R_drewN | apply Kd.R_drew));exact HO_6.out,T1_,T23_⟩
          ·rw [if_neg c42] at H
           have c42b0:((rd l6 x23_1) == t113) = false:=beq_eq_false_iff_ne.mpr c42;have c42b1:((rd l6 x23_1) != t113) = true:=bne_iff_ne.mpr c42;have H':=aZ_ H;clear H;obtain ⟨Ao44,co44,eo44⟩:=Kd.R_slice HO_6.out;subst eo44;have p114:0 ≤ (x23_1:Int):=of_decide_eq_true T14_;have q114:x23_1 < (l6.length:Int):=of_decide_eq_true T14_;obtain ⟨ad114,e114,hx114_0⟩:=Kd.at_int (Kd.R_reads' HO_6.out).2.2 x23_1 p114 q114
           cases e114
           replace p114:=eq_true p114;replace q114:=eq_true q114;go_wp2
           go_roundg k1
           case measure=>have:=HK1.out;omega
           case rel=>exact ⟨(wrap64 (x23_1 + 1)),T11_,H',⟨by have:=HK1.out;omega⟩,⟨by (with_reducible repeat (first | apply Kd.R_alloc | apply Kd.R_drewN | apply Kd.R_drew));exact HO_5.out⟩,⟨by (with_reducible repeat (first | apply Kd.R_alloc | apply Kd.R_drewN | apply Kd.R_drew));exact HO_6.out⟩,⟨by (with_reducible repeat (first | refine blk_drewN ?_ _ | refine blk_drew ?_ | refine blk_alloc ?_ _));exact BK101.out⟩,⟨T23_⟩,⟨T1_⟩⟩
         ·rw [if_neg c41] at H
          exact absurd H T64_
        ·rw [if_neg c40] at H
         have c40b0:decide (x23_1 < (l6.length:Int)) = false:=decide_eq_false c40;clear c40;replace H:=Option.bind_eq_some_iff.mp H;obtain ⟨⟨t115,t116,t119⟩,A450,H⟩:=H;replace H:((spec_l19Build.f k1 a0_0 a0_1 l1 (wrap64 (a2 + 1)) (Go.bits .or .i64 a3 ji16) (Go.bits .or .i64 a4 ji16) t116 t119).bind fun bt122=>(if 0 ≤ a2 then (if a2 < (l1.length:Int) then (if bt122.2.1.length < 5864062014805 then (if bt122.2.2.length < 17592186044416 then (some ((bt122.2.1.length:Int),(bt122.2.1 ++ [(⟨rd l1 a2,t115,bt122.1⟩:S56)]),(bt122.2.2 ++ [t113]))) else (none)) else (none)) else (none)) else (none))) = some (r1,r2,r3):=H;have A45:=aZ_ A450;clear A450;replace H:=Option.bind_eq_some_iff.mp H;obtain ⟨⟨t122,t123,t126⟩,A460,H⟩:=H;replace H:(if 0 ≤ a2 then (if a2 < (l1.length:Int) then (if t123.length < 5864062014805 then (if t126.length < 17592186044416 then (some ((t123.length:Int),(t123 ++ [(⟨rd l1 a2,t115,t122⟩:S56)]),(t126 ++ [t113]))) else (none)) else (none)) else (none)) else (none)) = some (r1,r2,r3):=H;have A46:=aZ_ A460;clear A460
         by_cases c47:0 ≤ a2
         ·rw [if_pos c47] at H
          have c47b0:decide (0 ≤ a2) = true:=decide_eq_true c47;clear c47
          by_cases c48:a2 < (l1.length:Int)
          ·rw [if_pos c48] at H
           have c48b0:decide (a2 < (l1.length:Int)) = true:=decide_eq_true c48;clear c48
           by_cases c49:t123.length < 5864062014805
           ·rw [if_pos c49] at H
            have LMc49:=aZ_ c49;clear c49;obtain ⟨y130,hy130⟩:∃ y_:List (S56),y_ = (t123 ++ [(⟨rd l1 a2,t115,t122⟩:S56)]):=⟨_,rfl⟩;replace H:(if t126.length < 17592186044416 then (some ((t123.length:Int),y130,(t126 ++ [t113]))) else (none)) = some (r1,r2,r3):=by first | (rw [hy130];with_reducible exact H) | (have H2_:=(Option.bind_some _ _).symm.trans H;rw [hy130];with_reducible exact H2_) | (have H2_:=(Option.bind_some _ _).symm.trans H;with_reducible exact H2_) | with_reducible exact H | (rw [hy130];exact H) | exact H
            have Ny130:=aZ_ hy130;clear hy130
            by_cases c50:t126.length < 17592186044416
            ·rw [if_pos c50] at H
             have LMc50:=aZ_ c50;clear c50;obtain ⟨y133,hy133⟩:∃ y_:List Int,y_ = (t126 ++ [t113]):=⟨_,rfl⟩;replace H:(some ((t123.length:Int),y130,y133)) = some (r1,r2,r3):=by first | (rw [hy133];with_reducible exact H) | (have H2_:=(Option.bind_some _ _).symm.trans H;rw [hy133];with_reducible exact H2_) | (have H2_:=(Option.bind_some _ _).symm.trans H;with_reducible exact H2_) | with_reducible exact H | (rw [hy133];exact H) | exact H
             have Ny133:=aZ_ hy133;clear hy133;simp only [Option.some.injEq,Prod.mk.injEq] at H;obtain ⟨rfl,rfl,rfl⟩:=H;obtain ⟨Ao51,co51,eo51⟩:=Kd.R_slice HO_6.out;subst eo51;obtain ⟨⟨hcz52_0,hcz52_1⟩,hfz52_0,hfz52_1⟩:=bc2_ BK101.out;obtain ⟨Ao53,co53,eo53⟩:=Kd.R_slice HO_5.out;subst eo53
             go_wp2_with (first | ((with_reducible refine gate_callee (f:=38) rfl ?_);refine goesL_ (some 108) rfl rfl Tryz.func38 T22_ rfl #[.agg #[.int .i64 a0_0,.int .i64 a0_1],.slice (some ad103) l1.length c1,.int .i64 (wrap64 (a2 + 1)),.int .i64 (Go.bits .or .i64 a3 ji16),.int .i64 a4,.slice Ao53 l5.length co53,.slice Ao51 l6.length co51] rfl T59_ ?_;(with_reducible refine (ih k1 (by have:=HK1.out;omega) a0_0 a0_1 _ _ l1 (wrap64 (a2 + 1)) (Go.bits .or .i64 a3 ji16) a4 (fun k_=>some k_ = (.slice Ao53 l5.length co53:Value).ownBlock) (.slice Ao53 l5.length co53) l5 (fun k_=>some k_ = (.slice Ao51 l6.length co51:Value).ownBlock) (.slice Ao51 l6.length co51) l6 t115 t116 t119 w0 _ ?side1 ?side2 ?side3 ?side4 ?side5 A45.out).mono ?_);(case side1=>exact T1_);(case side2=>exact Kd.C_kept_call HR1.out T23_ (fun k_ hs_=>Or.elim hs_ (fun e_=>(fun e_=>(HO_5.out.1 k_ e_.symm)) e_) (fun e_=>(fun e_=>(HO_6.out.1 k_ e_.symm)) e_)));(case side3=>exact HC1.out);(case side4=>exact Kd.R_tight rfl HO_5.out);(case side5=>exact Kd.R_tight rfl HO_6.out);rintro e w54 ⟨v117,v120,rfl,ho0,ho1,hb,hkp⟩;refine ⟨_,rfl,?_⟩;replace BK101:=aZ_ (blk_kept T5_ hkp (fun hs_=>Or.elim hs_ (fun e_=>(fun e_=>(Kd.R_ne HO_5.out BK101.out T55_) e_) e_) (fun e_=>(fun e_=>(Kd.R_ne HO_6.out BK101.out T55_) e_) e_)));have HO118:=aZ_ (Kd.R_mono (ok':=fun k_=>((P5_ k_ ∨ P6_ k_) ∨ w.heap.size ≤ k_)) ho0 (fun k_ hk_=>Or.elim hk_ (fun hs_=>Or.elim hs_ (fun hs_=>(HO_5.out.1 k_ (hs_).symm)) (fun hs_=>(HO_6.out.1 k_ (hs_).symm))) (fun hn_=>(.inr (Nat.le_trans T38_ hn_)))));have HO121:=aZ_ (Kd.R_mono (ok':=fun k_=>((P5_ k_ ∨ P6_ k_) ∨ w.heap.size ≤ k_)) ho1 (fun k_ hk_=>Or.elim hk_ (fun hs_=>Or.elim hs_ (fun hs_=>(HO_5.out.1 k_ (hs_).symm)) (fun hs_=>(HO_6.out.1 k_ (hs_).symm))) (fun hn_=>(.inr (Nat.le_trans T38_ hn_)))));replace HK:=aZ_ (Kept.then_ (S:=(fun k_=>P5_ k_ ∨ P6_ k_)) T23_ hkp (fun k_ hs_=>Or.elim hs_ (fun e_=>(fun e_=>(HO_5.out.1 k_ e_.symm)) e_) (fun e_=>(fun e_=>(HO_6.out.1 k_ e_.symm)) e_)));replace HB:=aZ_ (hb);clear HO_5 HO_6;(try clear hb);(try clear hkp);(try clear ho0);(try clear ho1);obtain ⟨⟨hcz55_0,hcz55_1⟩,hfz55_0,hfz55_1⟩:=bc2_ BK101.out;obtain ⟨Ao56,co56,eo56⟩:=Kd.R_slice HO118.out;subst eo56;obtain ⟨Ao57,co57,eo57⟩:=Kd.R_slice HO121.out;subst eo57) | ((with_reducible refine gate_callee (f:=38) rfl ?_);refine goesL_ (some 125) rfl rfl Tryz.func38 T22_ rfl #[.agg #[.int .i64 a0_0,.int .i64 a0_1],.slice (some ad103) l1.length c1,.int .i64 (wrap64 (a2 + 1)),.int .i64 (Go.bits .or .i64 a3 ji16),.int .i64 (Go.bits .or .i64 a4 ji16),.slice Ao56 t116.length co56,.slice Ao57 t119.length co57] rfl T59_ ?_;(with_reducible refine (ih k1 (by have:=HK1.out;omega) a0_0 a0_1 _ _ l1 (wrap64 (a2 + 1)) (Go.bits .or .i64 a3 ji16) (Go.bits .or .i64 a4 ji16) (fun k_=>some k_ = (.slice Ao56 t116.length co56:Value).ownBlock) (.slice Ao56 t116.length co56) t116 (fun k_=>some k_ = (.slice Ao57 t119.length co57:Value).ownBlock) (.slice Ao57 t119.length co57) t119 t122 t123 t126 w0 _ ?side1 ?side2 ?side3 ?side4 ?side5 A46.out).mono ?_);(case side1=>exact T1_);(case side2=>exact Kd.C_kept_call HR1.out T23_ (fun k_ hs_=>Or.elim hs_ (fun e_=>(fun e_=>(HO118.out.1 k_ e_.symm)) e_) (fun e_=>(fun e_=>(HO121.out.1 k_ e_.symm)) e_)));(case side3=>exact HC1.out);(case side4=>exact Kd.R_tight rfl HO118.out);(case side5=>exact Kd.R_tight rfl HO121.out);rintro e w58 ⟨v124,v127,rfl,ho0,ho1,hb,hkp⟩;refine ⟨_,rfl,?_⟩;replace BK101:=aZ_ (blk_kept T5_ hkp (fun hs_=>Or.elim hs_ (fun e_=>(fun e_=>(Kd.R_ne HO118.out BK101.out T55_) e_) e_) (fun e_=>(fun e_=>(Kd.R_ne HO121.out BK101.out T55_) e_) e_)));have HO125:=aZ_ (Kd.R_mono (ok':=fun k_=>((P5_ k_ ∨ P6_ k_) ∨ w.heap.size ≤ k_)) ho0 (fun k_ hk_=>Or.elim hk_ (fun hs_=>Or.elim hs_ (fun hs_=>(HO118.out.1 k_ (hs_).symm)) (fun hs_=>(HO121.out.1 k_ (hs_).symm))) (fun hn_=>(.inr (Nat.le_trans T38_ hn_)))));have HO128:=aZ_ (Kd.R_mono (ok':=fun k_=>((P5_ k_ ∨ P6_ k_) ∨ w.heap.size ≤ k_)) ho1 (fun k_ hk_=>Or.elim hk_ (fun hs_=>Or.elim hs_ (fun hs_=>(HO118.out.1 k_ (hs_).symm)) (fun hs_=>(HO121.out.1 k_ (hs_).symm))) (fun hn_=>(.inr (Nat.le_trans T38_ hn_)))));replace HK:=aZ_ (Kept.then_ (S:=(fun k_=>P5_ k_ ∨ P6_ k_)) T23_ hkp (fun k_ hs_=>Or.elim hs_ (fun e_=>(fun e_=>(HO118.out.1 k_ e_.symm)) e_) (fun e_=>(fun e_=>(HO121.out.1 k_ e_.symm)) e_)));replace HB:=aZ_ (hb);clear HO118 HO121;(try clear hb);(try clear hkp);(try clear ho0);(try clear ho1);obtain ⟨Ao59,co59,eo59⟩:=Kd.R_slice HO125.out;subst eo59;have p129:0 ≤ (a2:Int):=of_decide_eq_true T14_;have q129:a2 < (l1.length:Int):=of_decide_eq_true T14_;obtain ⟨ad129,e129,hx129_0⟩:=Kd.at_int (Kd.C_kept_now HR1.out HK.out) a2 p129 q129;obtain rfl:ad103 = ad129:=(by injection e129);replace p129:=eq_true p129;replace q129:=eq_true q129) | ((with_reducible refine gate_builtin (b:=.append) (xs:=#[.tmp 131,.tmp 139]) rfl ?_);at_builtin;refine Kd.R_append k56 (w0:=w0) w0.heap.size rfl (.tmp 131) (.tmp 139) 29 56 (.agg #[(.int .i64 0),(.int .i64 0),(.int .i64 0)]) 24 rfl Tryz.underlying29 info56 rfl T55_ T73_ (.slice Ao59 t123.length co59) t123 (⟨rd l1 a2,t115,t122⟩:S56) [.int .i64 (rd l1 a2),.int .i64 t115,.int .i64 t122] (fun k_=>((P5_ k_ ∨ P6_ k_) ∨ w.heap.size ≤ k_)) (fun _=>False) rfl rfl ?aP (fun _ hk=>hk.elim) ?aF ?aO ?aB ?aS ?aL ?_;(case aP=>exact k56_mkM _ _ _ (⟨rd l1 a2,t115,t122⟩:S56));(case aB=>exact T1_);(case aF=>exact (fun k_ hk=>(.inr (Nat.le_trans T38_ hk))));(case aO=>exact (by (with_reducible repeat (first | apply Kd.R_alloc | apply Kd.R_drewN | apply Kd.R_drew));exact HO125.out));(case aS=>exact (below_size T1_));(case aL=>have:=LMc49.out;omega);intro v131 w60 ho hb hg hat;rw [← Ny130.out] at ho;replace BK101:=aZ_ (blk_grown (g:=gb101) (o:=.cells #[.int .i64 a0_0,.int .i64 a0_1] 25 (0,0)) T5_ hg (Kd.R_ne HO125.out BK101.out T55_));replace HO128:=aZ_ (Kd.R_over' T106_ (Kd.R_typed (by (with_reducible repeat (first | apply Kd.R_alloc | apply Kd.R_drewN | apply Kd.R_drew));exact HO125.out)) T55_ hg);replace HB:=aZ_ (hb);replace HK:=aZ_ (Kept.of_grown (S:=(fun k_=>P5_ k_ ∨ P6_ k_)) hg T23_ (fun k_ e_=>(HO125.out.1 k_ e_)));have HO132:=aZ_ (ho);clear HO125;clear ho hb hg hat) | ((with_reducible refine gate_builtin (b:=.append) (xs:=#[.tmp 141,.tmp 143]) rfl ?_);at_builtin;refine Kd.R_append (Kd.int .i64) (w0:=w0) w0.heap.size rfl (.tmp 141) (.tmp 143) 26 3 (.int .i64 0) 8 rfl Tryz.underlying26 info3 rfl T55_ T73_ v127 t126 t113 [.int .i64 t113] (fun k_=>((P5_ k_ ∨ P6_ k_) ∨ w.heap.size ≤ k_)) (fun _=>False) rfl rfl ?aP (fun _ hk=>hk.elim) ?aF ?aO ?aB ?aS ?aL ?_;(case aP=>exact rfl);(case aB=>exact T1_);(case aF=>exact (fun k_ hk=>(.inr (Nat.le_trans T38_ hk))));(case aO=>exact T106_);(case aS=>exact (below_size T1_));(case aL=>have:=LMc50.out;omega);intro v134 w61 ho hb hg hat;rw [← Ny133.out] at ho;replace BK101:=aZ_ (blk_grown (g:=gb101) (o:=.cells #[.int .i64 a0_0,.int .i64 a0_1] 25 (0,0)) T5_ hg (Kd.R_ne HO128.out BK101.out T55_));replace HO132:=aZ_ (Kd.R_over' (by (with_reducible repeat (first | apply Kd.R_alloc | apply Kd.R_drewN | apply Kd.R_drew));exact HO132.out) (Kd.R_typed T106_) T55_ hg);replace HB:=aZ_ (hb);replace HK:=aZ_ (Kept.of_grown (S:=(fun k_=>P5_ k_ ∨ P6_ k_)) hg T23_ (fun k_ e_=>(HO128.out.1 k_ e_)));have HO135:=aZ_ (ho);clear HO128;clear ho hb hg hat))
             go_ret3
             exact ⟨_,_,T87_,by (with_reducible repeat (first | apply Kd.R_alloc | apply Kd.R_drewN | apply Kd.R_drew));exact HO132.out,by (with_reducible repeat (first | apply Kd.R_alloc | apply Kd.R_drewN | apply Kd.R_drew));exact HO135.out,T1_,T23_⟩
            ·rw [if_neg c50] at H
             exact absurd H T64_
           ·rw [if_neg c49] at H
            exact absurd H T64_
          ·rw [if_neg c48] at H
           exact absurd H T64_
         ·rw [if_neg c47] at H
          exact absurd H T64_
    ·rw [if_neg c15] at H
     exact absurd H T64_
   ·rw [if_neg c14] at H
    exact absurd H T64_
  ·rw [if_neg c13] at H
   exact absurd H T64_
def spec_DiagramOf.j0:Nat → List Int → Bool → Int → Int → Option ((List (S56)) × Bool)
 | 0,_,_,_,_=>none
 | k + 1,x1,x18,x102000,x102001=>if x18 = true then (some ((([]:List (S56))),false)) else ((spec_IsConstant.f x102000 x102001).bind fun t107=>(if t107 = true then (some ((([]:List (S56))),true)) else ((spec_l19Build.f k x102000 x102001 x1 0 0 0 (([]:List (S56))) (([]:List Int))).bind fun bt117=>(some (bt117.2.1,true)))))
def spec_DiagramOf.f (k:Nat) (a0_0:Int) (a0_1:Int) (l1:List Int):Option ((List (S56)) × Bool):=(spec_IsTable.f a0_0 a0_1).bind fun t102=>(if t102 = true then ((spec_l3Perm.f k l1 a0_0).bind fun t103=>(spec_DiagramOf.j0 k l1 (!t103) a0_0 a0_1)) else (spec_DiagramOf.j0 k l1 true a0_0 a0_1))
theorem spec_DiagramOf.calls (k:Nat) (a0_0:Int) (a0_1:Int) (A1:Option Addr) (c1:Nat) (l1:List Int) (r1:List (S56)) (r2:Bool) (w:World) (hr1:Kd.C (Kd.int .i64) w A1 l1.length l1) (hc1:l1.length ≤ c1) (h:spec_DiagramOf.f k a0_0 a0_1 l1 = some (r1,r2)) :
  Calls Tryz.prog 7 #[.agg #[.int .i64 a0_0,.int .i64 a0_1],.slice A1 l1.length c1] w fun e w'=>∃ v0_:Value,e = .returned (.tuple #[v0_,.bool r2]) ∧ Kd.R k56 56 w' w.heap.size (fun _=>True) v0_ r1 ∧ Below w.heap.size w w':=by
 have hu25:=Tryz.underlying25;have HR1:=aZ_ hr1;have HC1:=aZ_ hc1;clear hr1 hc1;have HB:=aZ_ (Below.refl w.heap.size w);have H:((spec_IsTable.f a0_0 a0_1).bind fun t102=>(if t102 = true then ((spec_l3Perm.f k l1 a0_0).bind fun t103=>(spec_DiagramOf.j0 k l1 (!t103) a0_0 a0_1)) else (spec_DiagramOf.j0 k l1 true a0_0 a0_1))) = some (r1,r2):=h;clear h;have HC3:=aZ_ H;clear H;go_enter Tryz.func7,Tryz.ntmps7
 go_upto_region 1 with (first | ((with_reducible refine gate_dst (N:=2) rfl ?_);refine box_event ?hg (N:=2) ?hd (cs:=#[.int .i64 a0_0,.int .i64 a0_1]) (t:=25) ?hr ?_;(case hd=>rfl);(case hg=>rfl);(case hr=>exact T19_);intro gb101 hg w4 hbox hb;have BK101:=aZ_ (hbox);have GW101:=aZ_ ((T3_:w.heap.size ≤ gb101));have GE101:=aZ_ ((T3_:w.heap.size ≤ gb101));replace HB:=aZ_ (below_step T2_ hb);clear hb hbox hg))
 (try simp only [Act.put,List.setIfInBounds_toArray,List.set_cons_zero,List.set_cons_succ])
 go_cut [18] (fun v18 wc=>∃ (kq:Nat) (x18_2:Bool),v18 = .bool x18_2 ∧ Aside0 (spec_DiagramOf.j0 kq l1 x18_2 a0_0 a0_1 = some (r1,r2)) ∧ Aside0 (kq ≤ k) ∧ Aside0 (wc.heap[gb101]? = some (.cells #[.int .i64 a0_0,.int .i64 a0_1] 25 (0,0))) ∧ Aside0 (Below w.heap.size w wc))
 case first =>
  have H:=HC3.out;clear HC3;replace H:=Option.bind_eq_some_iff.mp H;obtain ⟨t102,A50,H⟩:=H;replace H:(if t102 = true then ((spec_l3Perm.f k l1 a0_0).bind fun t103=>(spec_DiagramOf.j0 k l1 (!t103) a0_0 a0_1)) else (spec_DiagramOf.j0 k l1 true a0_0 a0_1)) = some (r1,r2):=H;have A5:=aZ_ A50;clear A50
  by_cases c6:t102 = true
  ·subst c6
   have H1:((spec_l3Perm.f k l1 a0_0).bind fun t103=>(spec_DiagramOf.j0 k l1 (!t103) a0_0 a0_1)) = some (r1,r2):=by rw [if_pos rfl] at H;exact H
   clear H;have H:=H1;clear H1;replace H:=Option.bind_eq_some_iff.mp H;obtain ⟨t103,A70,H⟩:=H;replace H:(spec_DiagramOf.j0 k l1 (!t103) a0_0 a0_1) = some (r1,r2):=H;have A7:=aZ_ A70;clear A70;have H':=aZ_ H;clear H;obtain ⟨⟨hcz8_0,hcz8_1⟩,hfz8_0,hfz8_1⟩:=bc2_ BK101.out
   go_wp2_with (first | ((with_reducible refine gate_callee (f:=35) rfl ?_);refine goesL_ (some 10) rfl rfl Tryz.func35 T22_ rfl #[.agg #[.int .i64 a0_0,.int .i64 a0_1]] rfl T4_ ?_;(with_reducible refine (spec_IsTable.calls a0_0 a0_1 true _ A5.out).mono ?_);rintro e w9 ⟨rfl,hb⟩;refine ⟨_,rfl,?_⟩;replace BK101:=aZ_ (blk_below (g:=gb101) (o:=.cells #[.int .i64 a0_0,.int .i64 a0_1] 25 (0,0)) T5_ hb);replace HB:=aZ_ (below_step T1_ hb);(try clear hb);obtain ⟨⟨hcz10_0,hcz10_1⟩,hfz10_0,hfz10_1⟩:=bc2_ BK101.out) | (go_at_call 36;(with_reducible refine (spec_l3Perm.calls k _ _ l1 a0_0 t103 _ ?side1 ?side2 A7.out).mono ?_);(case side1=>exact T15_);(case side2=>exact HC1.out);rintro e w' ⟨rfl,⟨nd,rfl⟩⟩))
   go_meet
   case rel=>exact ⟨_,(!t103),T11_,H',⟨T89_⟩,⟨by (with_reducible repeat (first | refine blk_drewN ?_ _ | refine blk_drew ?_ | refine blk_alloc ?_ _));exact BK101.out⟩,⟨T1_⟩⟩
  ·replace c6:=Bool.eq_false_iff.mpr c6
   subst c6;have H1:(spec_DiagramOf.j0 k l1 true a0_0 a0_1) = some (r1,r2):=by rw [if_neg (show ¬ (false = true) by decide)] at H;exact H
   clear H;have H:=H1;clear H1;have H':=aZ_ H;clear H;obtain ⟨⟨hcz11_0,hcz11_1⟩,hfz11_0,hfz11_1⟩:=bc2_ BK101.out
   go_wp2_with (first | ((with_reducible refine gate_callee (f:=35) rfl ?_);refine goesL_ (some 10) rfl rfl Tryz.func35 T22_ rfl #[.agg #[.int .i64 a0_0,.int .i64 a0_1]] rfl T4_ ?_;(with_reducible refine (spec_IsTable.calls a0_0 a0_1 false _ A5.out).mono ?_);rintro e w12 ⟨rfl,hb⟩;refine ⟨_,rfl,?_⟩;replace BK101:=aZ_ (blk_below (g:=gb101) (o:=.cells #[.int .i64 a0_0,.int .i64 a0_1] 25 (0,0)) T5_ hb);replace HB:=aZ_ (below_step T1_ hb);(try clear hb)))
   go_meet
   case rel=>exact ⟨_,(true),T11_,H',⟨T89_⟩,⟨by (with_reducible repeat (first | refine blk_drewN ?_ _ | refine blk_drew ?_ | refine blk_alloc ?_ _));exact BK101.out⟩,⟨T1_⟩⟩
 case rest =>
  clear HC3
  repeat (first | clear c1 | clear p2 | clear c3 | clear c6 | clear c7 | clear hcz10_0 | clear hcz10_1 | clear hcz11_0 | clear hcz11_1 | clear hcz8_0 | clear hcz8_1 | clear hfz10_0 | clear hfz10_1 | clear hfz11_0 | clear hfz11_1 | clear hfz8_0 | clear hfz8_1)
  obtain ⟨kq,x18_2,rfl,HA,HJ2,BK101,HB⟩:=hcut
  cases kq with
  | zero=>exact absurd HA.out (by simp [spec_DiagramOf.j0])
  | succ kj2 =>
   have H:=HA.out;clear HA;simp only [spec_DiagramOf.j0] at H
   by_cases c13:x18_2 = true
   ·subst c13
    have H1:(some ((([]:List (S56))),false)) = some (r1,r2):=by rw [if_pos rfl] at H;exact H
    clear H;have H:=H1;clear H1;obtain ⟨y104,hy104⟩:∃ y_:List (S56),y_ = (([]:List (S56))):=⟨_,rfl⟩;replace H:(some (y104,false)) = some (r1,r2):=by first | (rw [hy104];with_reducible exact H) | (have H2_:=(Option.bind_some _ _).symm.trans H;rw [hy104];with_reducible exact H2_) | (have H2_:=(Option.bind_some _ _).symm.trans H;with_reducible exact H2_) | with_reducible exact H | (rw [hy104];exact H) | exact H
    have Ny104:=aZ_ hy104;clear hy104;simp only [Option.some.injEq,Prod.mk.injEq] at H;obtain ⟨rfl,rfl⟩:=H
    go_wp2_with (first | ((with_reducible refine gate_dst (N:=19) rfl ?_);refine Kd.R_lit k56 _ 56 ?hg (N:=19) ?hd (xs:=([]:List (S56))) (inner:=[]) (ok:=fun _=>True) (okp:=fun _=>True) ?hr ?hp (fun _ hk=>hk) trivial (Below.refl _ _) (Nat.le_refl _) T64_ ?_;(case hd=>rfl);(case hg=>rfl);(case hr=>exact T19_);(case hp=>exact (Reps.none _ _));intro v105 w14 ho15 hb hg_ hnew_;clear hg_ hnew_;(first | rw [← Ny104.out] at ho15 | (simp only [Int.reduceToNat] at ho15;rw [← Ny104.out] at ho15));have HO106:=aZ_ (Kd.R_lower ho15 (below_size T1_));replace BK101:=aZ_ (blk_below (g:=gb101) (o:=.cells #[.int .i64 a0_0,.int .i64 a0_1] 25 (0,0)) T5_ hb);replace HB:=aZ_ (below_step T1_ hb);clear hb ho15))
    go_ret2
    exact ⟨_,T13_,by (with_reducible repeat (first | apply Kd.R_alloc | apply Kd.R_drewN | apply Kd.R_drew));exact HO106.out,T1_⟩
   ·replace c13:=Bool.eq_false_iff.mpr c13
    subst c13;have H1:((spec_IsConstant.f a0_0 a0_1).bind fun t107=>(if t107 = true then (some ((([]:List (S56))),true)) else ((spec_l19Build.f kj2 a0_0 a0_1 l1 0 0 0 (([]:List (S56))) (([]:List Int))).bind fun bt117=>(some (bt117.2.1,true))))) = some (r1,r2):=by rw [if_neg (show ¬ (false = true) by decide)] at H;exact H
    clear H;have H:=H1;clear H1;replace H:=Option.bind_eq_some_iff.mp H;obtain ⟨t107,A160,H⟩:=H;replace H:(if t107 = true then (some ((([]:List (S56))),true)) else ((spec_l19Build.f kj2 a0_0 a0_1 l1 0 0 0 (([]:List (S56))) (([]:List Int))).bind fun bt117=>(some (bt117.2.1,true)))) = some (r1,r2):=H;have A16:=aZ_ A160;clear A160
    by_cases c17:t107 = true
    ·subst c17
     have H1:(some ((([]:List (S56))),true)) = some (r1,r2):=by rw [if_pos rfl] at H;exact H
     clear H;have H:=H1;clear H1;obtain ⟨y108,hy108⟩:∃ y_:List (S56),y_ = (([]:List (S56))):=⟨_,rfl⟩;replace H:(some (y108,true)) = some (r1,r2):=by first | (rw [hy108];with_reducible exact H) | (have H2_:=(Option.bind_some _ _).symm.trans H;rw [hy108];with_reducible exact H2_) | (have H2_:=(Option.bind_some _ _).symm.trans H;with_reducible exact H2_) | with_reducible exact H | (rw [hy108];exact H) | exact H
     have Ny108:=aZ_ hy108;clear hy108;simp only [Option.some.injEq,Prod.mk.injEq] at H;obtain ⟨rfl,rfl⟩:=H;obtain ⟨⟨hcz18_0,hcz18_1⟩,hfz18_0,hfz18_1⟩:=bc2_ BK101.out
     go_wp2_with (first | ((with_reducible refine gate_callee (f:=37) rfl ?_);refine goesL_ (some 21) rfl rfl Tryz.func37 T22_ rfl #[.agg #[.int .i64 a0_0,.int .i64 a0_1]] rfl T4_ ?_;(with_reducible refine (spec_IsConstant.calls a0_0 a0_1 true _ A16.out).mono ?_);rintro e w19 ⟨rfl,hb⟩;refine ⟨_,rfl,?_⟩;replace BK101:=aZ_ (blk_below (g:=gb101) (o:=.cells #[.int .i64 a0_0,.int .i64 a0_1] 25 (0,0)) T5_ hb);replace HB:=aZ_ (below_step T1_ hb);(try clear hb)) | ((with_reducible refine gate_dst (N:=22) rfl ?_);refine Kd.R_lit k56 _ 56 ?hg (N:=22) ?hd (xs:=([]:List (S56))) (inner:=[]) (ok:=fun _=>True) (okp:=fun _=>True) ?hr ?hp (fun _ hk=>hk) trivial (Below.refl _ _) (Nat.le_refl _) T64_ ?_;(case hd=>rfl);(case hg=>rfl);(case hr=>exact T19_);(case hp=>exact (Reps.none _ _));intro v109 w20 ho21 hb hg_ hnew_;clear hg_ hnew_;(first | rw [← Ny108.out] at ho21 | (simp only [Int.reduceToNat] at ho21;rw [← Ny108.out] at ho21));have HO110:=aZ_ (Kd.R_lower ho21 (below_size T1_));replace BK101:=aZ_ (blk_below (g:=gb101) (o:=.cells #[.int .i64 a0_0,.int .i64 a0_1] 25 (0,0)) T5_ hb);replace HB:=aZ_ (below_step T1_ hb);clear hb ho21))
     go_ret2
     exact ⟨_,T13_,by (with_reducible repeat (first | apply Kd.R_alloc | apply Kd.R_drewN | apply Kd.R_drew));exact HO110.out,T1_⟩
    ·replace c17:=Bool.eq_false_iff.mpr c17
     subst c17;have H1:((spec_l19Build.f kj2 a0_0 a0_1 l1 0 0 0 (([]:List (S56))) (([]:List Int))).bind fun bt117=>(some (bt117.2.1,true))) = some (r1,r2):=by rw [if_neg (show ¬ (false = true) by decide)] at H;exact H
     clear H;have H:=H1;clear H1;obtain ⟨y111,hy111⟩:∃ y_:List (S56),y_ = (([]:List (S56))):=⟨_,rfl⟩;replace H:((spec_l19Build.f kj2 a0_0 a0_1 l1 0 0 0 y111 (([]:List Int))).bind fun bt117=>(some (bt117.2.1,true))) = some (r1,r2):=by first | (rw [hy111];with_reducible exact H) | (have H2_:=(Option.bind_some _ _).symm.trans H;rw [hy111];with_reducible exact H2_) | (have H2_:=(Option.bind_some _ _).symm.trans H;with_reducible exact H2_) | with_reducible exact H | (rw [hy111];exact H) | exact H
     have Ny111:=aZ_ hy111;clear hy111;obtain ⟨y114,hy114⟩:∃ y_:List Int,y_ = (([]:List Int)):=⟨_,rfl⟩;replace H:((spec_l19Build.f kj2 a0_0 a0_1 l1 0 0 0 y111 y114).bind fun bt117=>(some (bt117.2.1,true))) = some (r1,r2):=by first | (rw [hy114];with_reducible exact H) | (have H2_:=(Option.bind_some _ _).symm.trans H;rw [hy114];with_reducible exact H2_) | (have H2_:=(Option.bind_some _ _).symm.trans H;with_reducible exact H2_) | with_reducible exact H | (rw [hy114];exact H) | exact H
     have Ny114:=aZ_ hy114;clear hy114;replace H:=Option.bind_eq_some_iff.mp H;obtain ⟨⟨t117,t118,t121⟩,A220,H⟩:=H;replace H:(some (t118,true)) = some (r1,r2):=H;have A22:=aZ_ A220;clear A220;simp only [Option.some.injEq,Prod.mk.injEq] at H;obtain ⟨rfl,rfl⟩:=H;obtain ⟨⟨hcz23_0,hcz23_1⟩,hfz23_0,hfz23_1⟩:=bc2_ BK101.out
     go_wp2_with (first | ((with_reducible refine gate_callee (f:=37) rfl ?_);refine goesL_ (some 21) rfl rfl Tryz.func37 T22_ rfl #[.agg #[.int .i64 a0_0,.int .i64 a0_1]] rfl T4_ ?_;(with_reducible refine (spec_IsConstant.calls a0_0 a0_1 false _ A16.out).mono ?_);rintro e w24 ⟨rfl,hb⟩;refine ⟨_,rfl,?_⟩;replace BK101:=aZ_ (blk_below (g:=gb101) (o:=.cells #[.int .i64 a0_0,.int .i64 a0_1] 25 (0,0)) T5_ hb);replace HB:=aZ_ (below_step T1_ hb);(try clear hb);obtain ⟨⟨hcz25_0,hcz25_1⟩,hfz25_0,hfz25_1⟩:=bc2_ BK101.out) | ((with_reducible refine gate_dst (N:=26) rfl ?_);refine Kd.R_lit k56 _ 56 ?hg (N:=26) ?hd (xs:=([]:List (S56))) (inner:=[]) (ok:=fun _=>True) (okp:=fun _=>True) ?hr ?hp (fun _ hk=>hk) trivial (Below.refl _ _) (Nat.le_refl _) T64_ ?_;(case hd=>rfl);(case hg=>rfl);(case hr=>exact T19_);(case hp=>exact (Reps.none _ _));intro v112 w26 ho27 hb hg_ hnew_;clear hg_ hnew_;(first | rw [← Ny111.out] at ho27 | (simp only [Int.reduceToNat] at ho27;rw [← Ny111.out] at ho27));have HO113:=aZ_ (Kd.R_lower ho27 (below_size T1_));replace BK101:=aZ_ (blk_below (g:=gb101) (o:=.cells #[.int .i64 a0_0,.int .i64 a0_1] 25 (0,0)) T5_ hb);replace HB:=aZ_ (below_step T1_ hb);clear hb ho27) | ((with_reducible refine gate_dst (N:=27) rfl ?_);refine Kd.R_lit (Kd.int .i64) _ 3 ?hg (N:=27) ?hd (xs:=([]:List Int)) (inner:=[]) (ok:=fun _=>True) (okp:=fun _=>True) ?hr ?hp (fun _ hk=>hk) trivial (Below.refl _ _) (Nat.le_refl _) T64_ ?_;(case hd=>rfl);(case hg=>rfl);(case hr=>exact T19_);(case hp=>exact (Reps.none _ _));intro v115 w28 ho29 hb hg_ hnew_;clear hg_ hnew_;(first | rw [← Ny114.out] at ho29 | (simp only [Int.reduceToNat] at ho29;rw [← Ny114.out] at ho29));replace HO113:=aZ_ (Kd.R_below T86_ hb);have HO116:=aZ_ (Kd.R_lower ho29 (below_size T1_));replace BK101:=aZ_ (blk_below (g:=gb101) (o:=.cells #[.int .i64 a0_0,.int .i64 a0_1] 25 (0,0)) T5_ hb);replace HB:=aZ_ (below_step T1_ hb);clear hb ho29;obtain ⟨Ao30,co30,eo30⟩:=Kd.R_slice HO113.out;subst eo30;obtain ⟨Ao31,co31,eo31⟩:=Kd.R_slice HO116.out;subst eo31) | ((with_reducible refine gate_callee (f:=38) rfl ?_);refine goesL_ (some 28) rfl rfl Tryz.func38 T22_ rfl #[.agg #[.int .i64 a0_0,.int .i64 a0_1],.slice A1 l1.length c1,.int .i64 0,.int .i64 0,.int .i64 0,.slice Ao30 y111.length co30,.slice Ao31 y114.length co31] rfl T4_ ?_;(with_reducible refine (spec_l19Build.calls kj2 a0_0 a0_1 _ _ l1 0 0 0 (fun k_=>some k_ = (.slice Ao30 y111.length co30:Value).ownBlock) (.slice Ao30 y111.length co30) y111 (fun k_=>some k_ = (.slice Ao31 y114.length co31:Value).ownBlock) (.slice Ao31 y114.length co31) y114 t117 t118 t121 w _ ?side1 ?side2 ?side3 ?side4 ?side5 A22.out).mono ?_);(case side1=>exact T1_);(case side2=>exact Kd.C_kept_came (Kd.heap_int .i64) HR1.out T1_ (fun k_ hs_=>Or.elim hs_ (fun e_=>(fun e_=>Kd.R_base HO113.out k_ e_.symm) e_) (fun e_=>(fun e_=>Kd.R_base HO116.out k_ e_.symm) e_)));(case side3=>exact HC1.out);(case side4=>exact Kd.R_tight rfl HO113.out);(case side5=>exact Kd.R_tight rfl HO116.out);rintro e w32 ⟨v119,v122,rfl,ho0,ho1,hb,hkp⟩;refine ⟨_,rfl,?_⟩;replace BK101:=aZ_ (blk_kept T5_ hkp (fun hs_=>Or.elim hs_ (fun e_=>(fun e_=>(Kd.R_ne HO113.out BK101.out T55_) e_) e_) (fun e_=>(fun e_=>(Kd.R_ne HO116.out BK101.out T55_) e_) e_)));have HO120:=aZ_ (Kd.R_mono (ok':=fun k_=>True) ho0 (fun k_ hk_=>trivial));have HO123:=aZ_ (Kd.R_mono (ok':=fun k_=>True) ho1 (fun k_ hk_=>trivial));replace HB:=aZ_ (hb);clear HO113 HO116;(try clear hb);(try clear hkp);(try clear ho0);(try clear ho1)))
     go_ret2
     exact ⟨_,T13_,by (with_reducible repeat (first | apply Kd.R_alloc | apply Kd.R_drewN | apply Kd.R_drew));exact HO120.out,T1_⟩
theorem eqA56 (d:Nat) (w:World) (x0 y0:Int) (x1 y1:Int) (x2 y2:Int) :
  (Op.equalIn (d + 2) 56 (.agg #[.int .i64 x0,.int .i64 x1,.int .i64 x2]) (.agg #[.int .i64 y0,.int .i64 y1,.int .i64 y2])).run Tryz.prog w = .ok (x0 == y0 && (x1 == y1 && (x2 == y2))) w:=by
 refine eqA_of Tryz.underlying56 T22_ ?_;refine eqf_cons (by rfl) (by go_simp;rfl) (by go_simp;rfl) (by go_simp) ?_;refine eqf_cons (by rfl) (by go_simp;rfl) (by go_simp;rfl) (by go_simp) ?_;exact eqf_last (by rfl) (by go_simp;rfl) (by go_simp;rfl) (by go_simp)
end Go.Proofs.YtflacbjpeecjcabGreatDoor.F
namespace Go.Proofs.YtflacbjpeecjcabGreatDoor.F
attribute [local go_sem] max2_int min2_int max_two min_two max_three min_three max_four min_four 
attribute [local go_sem high] eqA56
def laws_sameNodes.l0:Nat → List (S56) → List (S56) → Int → Option (Bool)
 | 0,_,_,_=>none
 | k + 1,x0,x1,x5=>if x5 < (x0.length:Int) then (if 0 ≤ x5 then (if x5 < (x1.length:Int) then (if (!(((rd_T56 x0 x5).f0) == ((rd_T56 x1 x5).f0)) || (!(((rd_T56 x0 x5).f1) == ((rd_T56 x1 x5).f1)) || (!(((rd_T56 x0 x5).f2) == ((rd_T56 x1 x5).f2))))) = true then (some false) else (laws_sameNodes.l0 k x0 x1 (wrap64 (x5 + 1)))) else (none)) else (none)) else (some true)
def laws_sameNodes.f (k:Nat) (l0:List (S56)) (l1:List (S56)):Option (Bool):=if (l0.length:Int) = (l1.length:Int) then (laws_sameNodes.l0 k l0 l1 0) else (some false)
theorem laws_sameNodes.calls (k:Nat) (A0:Option Addr) (c0:Nat) (l0:List (S56)) (A1:Option Addr) (c1:Nat) (l1:List (S56)) (r:Bool) (w:World) (hr0:Kd.C k56 w A0 l0.length l0) (hc0:l0.length ≤ c0) (hr1:Kd.C k56 w A1 l1.length l1) (hc1:l1.length ≤ c1) (h:laws_sameNodes.f k l0 l1 = some r) :
  Calls Tryz.prog 8 #[.slice A0 l0.length c0,.slice A1 l1.length c1] w fun e w'=>e = .returned (.bool r) ∧ Drawn0 w w':=by
 have hu56:=Tryz.underlying56;have HR0:=aZ_ hr0;have HC0:=aZ_ hc0;clear hr0 hc0;have HR1:=aZ_ hr1;have HC1:=aZ_ hc1;clear hr1 hc1;have H:(if (l0.length:Int) = (l1.length:Int) then (laws_sameNodes.l0 k l0 l1 0) else (some false)) = some r:=h;clear h
 by_cases c3:(l0.length:Int) = (l1.length:Int)
 ·rw [if_pos c3] at H
  have c3b0:((l0.length:Int) == (l1.length:Int)) = true:=beq_iff_eq.mpr c3;have c3b1:((l0.length:Int) != (l1.length:Int)) = false:=bne_eq_false_iff_eq.mpr c3;have c3b2:(l0.length == l1.length) = true:=by first | simpa using c3 | (simp at c3 ⊢;omega)
  clear c3;have H':=aZ_ H;clear H;go_enter Tryz.func8,Tryz.ntmps8;go_wp2
  repeat (go_quiet (fail);try go_wp2)
  go_loopg [5] k (fun kq v5 w'=>∃ (x5_1:Int),v5 = .int .i64 x5_1 ∧ Aside0 (laws_sameNodes.l0 kq l0 l1 x5_1 = some r) ∧ Aside0 (kq ≤ k) ∧ Drawn0 w w')
  case atStart=>exact ⟨(0),T11_,H',⟨Nat.le_refl _⟩,T29_⟩
  case round =>
   clear H'
   repeat (first | clear c1 | clear p2 | clear c3 | clear c3b0 | clear c3b1 | clear c3b2)
   obtain ⟨x5_1,rfl,HA,HK1,⟨m1,rfl⟩⟩:=hrel
   cases gk with
   | zero=>exact absurd HA.out (by simp [laws_sameNodes.l0])
   | succ k1 =>
    have H:=HA.out;clear HA;simp only [laws_sameNodes.l0] at H
    by_cases c4:x5_1 < (l0.length:Int)
    ·rw [if_pos c4] at H
     have c4b0:decide (x5_1 < (l0.length:Int)) = true:=decide_eq_true c4;clear c4
     by_cases c5:0 ≤ x5_1
     ·rw [if_pos c5] at H
      have c5b0:decide (0 ≤ x5_1) = true:=decide_eq_true c5;clear c5
      by_cases c6:x5_1 < (l1.length:Int)
      ·rw [if_pos c6] at H
       have c6b0:decide (x5_1 < (l1.length:Int)) = true:=decide_eq_true c6;clear c6
       by_cases c7:(!(((rd_T56 l0 x5_1).f0) == ((rd_T56 l1 x5_1).f0)) || (!(((rd_T56 l0 x5_1).f1) == ((rd_T56 l1 x5_1).f1)) || (!(((rd_T56 l0 x5_1).f2) == ((rd_T56 l1 x5_1).f2))))) = true
       ·rw [if_pos c7] at H
        have c7b0:(!(((rd_T56 l0 x5_1).f0) == ((rd_T56 l1 x5_1).f0)) || (!(((rd_T56 l0 x5_1).f1) == ((rd_T56 l1 x5_1).f1)) || (!(((rd_T56 l0 x5_1).f2) == ((rd_T56 l1 x5_1).f2))))) = true:=c7;clear c7;obtain rfl:=Option.some.inj H;have p101:0 ≤ (x5_1:Int):=of_decide_eq_true T14_;have q101:x5_1 < (l0.length:Int):=of_decide_eq_true T14_;obtain ⟨ad101,e101,hx101_0,hx101_1,hx101_2⟩:=at_T56 HR0.out x5_1 p101 q101
        cases e101
        replace p101:=eq_true p101;replace q101:=eq_true q101;have p102:0 ≤ (x5_1:Int):=of_decide_eq_true T14_;have q102:x5_1 < (l1.length:Int):=of_decide_eq_true T14_;obtain ⟨ad102,e102,hx102_0,hx102_1,hx102_2⟩:=at_T56 HR1.out x5_1 p102 q102
        cases e102
        replace p102:=eq_true p102;replace q102:=eq_true q102;go_wp2
        repeat (go_quiet (fail);try go_wp2)
        go_ret;exact ⟨T11_,T29_⟩
       ·rw [if_neg c7] at H
        have c7b0:(!(((rd_T56 l0 x5_1).f0) == ((rd_T56 l1 x5_1).f0)) || (!(((rd_T56 l0 x5_1).f1) == ((rd_T56 l1 x5_1).f1)) || (!(((rd_T56 l0 x5_1).f2) == ((rd_T56 l1 x5_1).f2))))) = false:=by simpa using c7
        clear c7;have H':=aZ_ H;clear H;have p101:0 ≤ (x5_1:Int):=of_decide_eq_true T14_;have q101:x5_1 < (l0.length:Int):=of_decide_eq_true T14_;obtain ⟨ad101,e101,hx101_0,hx101_1,hx101_2⟩:=at_T56 HR0.out x5_1 p101 q101
        cases e101
        replace p101:=eq_true p101;replace q101:=eq_true q101;have p102:0 ≤ (x5_1:Int):=of_decide_eq_true T14_;have q102:x5_1 < (l1.length:Int):=of_decide_eq_true T14_;obtain ⟨ad102,e102,hx102_0,hx102_1,hx102_2⟩:=at_T56 HR1.out x5_1 p102 q102
        cases e102
        replace p102:=eq_true p102;replace q102:=eq_true q102;go_wp2
        repeat (go_quiet (fail);try go_wp2)
        go_roundg k1
        case measure=>have:=HK1.out;omega
        case rel=>exact ⟨(wrap64 (x5_1 + 1)),T11_,H',⟨by have:=HK1.out;omega⟩,T29_⟩
      ·rw [if_neg c6] at H
       exact absurd H T64_
     ·rw [if_neg c5] at H
      exact absurd H T64_
    ·rw [if_neg c4] at H
     have c4b0:decide (x5_1 < (l0.length:Int)) = false:=decide_eq_false c4;clear c4;obtain rfl:=Option.some.inj H;go_wp2
     repeat (go_quiet (fail);try go_wp2)
     go_ret;exact ⟨T11_,T29_⟩
 ·rw [if_neg c3] at H
  have c3b0:((l0.length:Int) == (l1.length:Int)) = false:=beq_eq_false_iff_ne.mpr c3;have c3b1:((l0.length:Int) != (l1.length:Int)) = true:=bne_iff_ne.mpr c3;have c3b2:(l0.length == l1.length) = false:=by first | simpa using c3 | (simp at c3 ⊢;omega)
  obtain rfl:=Option.some.inj H;go_enter Tryz.func8,Tryz.ntmps8;go_wp2
  repeat (go_quiet (fail);try go_wp2)
  go_ret;exact ⟨T11_,T29_⟩
end Go.Proofs.YtflacbjpeecjcabGreatDoor.F
namespace Go.Proofs.YtflacbjpeecjcabGreatDoor.F
attribute [local go_sem] max2_int min2_int max_two min_two max_three min_three max_four min_four 
def impl_SizeOfDiagram.f (k:Nat) (a0_0:Int) (a0_1:Int) (l1:List Int):Option (Int):=(impl_DiagramOf.f k a0_0 a0_1 l1).bind fun bt102=>(if bt102.2 = true then (some (bt102.1.length:Int)) else (some (-1)))
theorem impl_SizeOfDiagram.calls (k:Nat) (a0_0:Int) (a0_1:Int) (A1:Option Addr) (c1:Nat) (l1:List Int) (r:Int) (w:World) (hr1:Kd.C (Kd.int .i64) w A1 l1.length l1) (hc1:l1.length ≤ c1) (h:impl_SizeOfDiagram.f k a0_0 a0_1 l1 = some r) :
  Calls Tryz.prog 9 #[.agg #[.int .i64 a0_0,.int .i64 a0_1],.slice A1 l1.length c1] w fun e w'=>e = .returned (.int .i64 r) ∧ Below w.heap.size w w':=by
 have hu25:=Tryz.underlying25;have HR1:=aZ_ hr1;have HC1:=aZ_ hc1;clear hr1 hc1;have HB:=aZ_ (Below.refl w.heap.size w);have H:((impl_DiagramOf.f k a0_0 a0_1 l1).bind fun bt102=>(if bt102.2 = true then (some (bt102.1.length:Int)) else (some (-1)))) = some r:=h;clear h;replace H:=Option.bind_eq_some_iff.mp H;obtain ⟨⟨t102,t105⟩,A30,H⟩:=H;replace H:(if t105 = true then (some (t102.length:Int)) else (some (-1))) = some r:=H;have A3:=aZ_ A30;clear A30
 by_cases c4:t105 = true
 ·subst c4
  have H1:(some (t102.length:Int)) = some r:=by rw [if_pos rfl] at H;exact H
  clear H;have H:=H1;clear H1;obtain rfl:=Option.some.inj H;go_enter Tryz.func9,Tryz.ntmps9
  go_wp2_with (first | ((with_reducible refine gate_dst (N:=2) rfl ?_);refine box_event ?hg (N:=2) ?hd (cs:=#[.int .i64 a0_0,.int .i64 a0_1]) (t:=25) ?hr ?_;(case hd=>rfl);(case hg=>rfl);(case hr=>exact T19_);intro gb101 hg w5 hbox hb;have BK101:=aZ_ (hbox);have GW101:=aZ_ ((T3_:w.heap.size ≤ gb101));have GE101:=aZ_ ((T3_:w.heap.size ≤ gb101));replace HB:=aZ_ (below_step T2_ hb);clear hb hbox hg;obtain ⟨⟨hcz6_0,hcz6_1⟩,hfz6_0,hfz6_1⟩:=bc2_ BK101.out) | ((with_reducible refine gate_callee (f:=6) rfl ?_);refine goesL_ (some 10) rfl rfl Tryz.func6 T22_ rfl #[.agg #[.int .i64 a0_0,.int .i64 a0_1],.slice A1 l1.length c1] rfl T4_ ?_;(with_reducible refine (impl_DiagramOf.calls k a0_0 a0_1 _ _ l1 t102 true _ ?side1 ?side2 A3.out).mono ?_);(case side1=>exact T15_);(case side2=>exact HC1.out);rintro e w7 ⟨v103,rfl,ho0,hb⟩;refine ⟨_,rfl,?_⟩;have HO104:=aZ_ (Kd.R_lower ho0 (below_size T1_));replace BK101:=aZ_ (blk_below (g:=gb101) (o:=.cells #[.int .i64 a0_0,.int .i64 a0_1] 25 (0,0)) T5_ hb);replace HB:=aZ_ (below_step T1_ hb);(try clear hb);(try clear ho0);obtain ⟨Ao8,co8,eo8⟩:=Kd.R_slice HO104.out;subst eo8))
  go_ret;exact ⟨T13_,T1_⟩
 ·replace c4:=Bool.eq_false_iff.mpr c4
  subst c4;have H1:(some (-1)) = some r:=by rw [if_neg (show ¬ (false = true) by decide)] at H;exact H
  clear H;have H:=H1;clear H1;obtain rfl:=Option.some.inj H;go_enter Tryz.func9,Tryz.ntmps9
  go_wp2_with (first | ((with_reducible refine gate_dst (N:=2) rfl ?_);refine box_event ?hg (N:=2) ?hd (cs:=#[.int .i64 a0_0,.int .i64 a0_1]) (t:=25) ?hr ?_;(case hd=>rfl);(case hg=>rfl);(case hr=>exact T19_);intro gb101 hg w9 hbox hb;have BK101:=aZ_ (hbox);have GW101:=aZ_ ((T3_:w.heap.size ≤ gb101));have GE101:=aZ_ ((T3_:w.heap.size ≤ gb101));replace HB:=aZ_ (below_step T2_ hb);clear hb hbox hg;obtain ⟨⟨hcz10_0,hcz10_1⟩,hfz10_0,hfz10_1⟩:=bc2_ BK101.out) | ((with_reducible refine gate_callee (f:=6) rfl ?_);refine goesL_ (some 10) rfl rfl Tryz.func6 T22_ rfl #[.agg #[.int .i64 a0_0,.int .i64 a0_1],.slice A1 l1.length c1] rfl T4_ ?_;(with_reducible refine (impl_DiagramOf.calls k a0_0 a0_1 _ _ l1 t102 false _ ?side1 ?side2 A3.out).mono ?_);(case side1=>exact T15_);(case side2=>exact HC1.out);rintro e w11 ⟨v103,rfl,ho0,hb⟩;refine ⟨_,rfl,?_⟩;have HO104:=aZ_ (Kd.R_lower ho0 (below_size T1_));replace BK101:=aZ_ (blk_below (g:=gb101) (o:=.cells #[.int .i64 a0_0,.int .i64 a0_1] 25 (0,0)) T5_ hb);replace HB:=aZ_ (below_step T1_ hb);(try clear hb);(try clear ho0)))
  go_ret;exact ⟨T13_,T1_⟩
def spec_SizeOfDiagram.f (k:Nat) (a0_0:Int) (a0_1:Int) (l1:List Int):Option (Int):=(spec_DiagramOf.f k a0_0 a0_1 l1).bind fun bt102=>(if bt102.2 = true then (some (bt102.1.length:Int)) else (some (-1)))
theorem spec_SizeOfDiagram.calls (k:Nat) (a0_0:Int) (a0_1:Int) (A1:Option Addr) (c1:Nat) (l1:List Int) (r:Int) (w:World) (hr1:Kd.C (Kd.int .i64) w A1 l1.length l1) (hc1:l1.length ≤ c1) (h:spec_SizeOfDiagram.f k a0_0 a0_1 l1 = some r) :
  Calls Tryz.prog 10 #[.agg #[.int .i64 a0_0,.int .i64 a0_1],.slice A1 l1.length c1] w fun e w'=>e = .returned (.int .i64 r) ∧ Below w.heap.size w w':=by
 have hu25:=Tryz.underlying25;have HR1:=aZ_ hr1;have HC1:=aZ_ hc1;clear hr1 hc1;have HB:=aZ_ (Below.refl w.heap.size w);have H:((spec_DiagramOf.f k a0_0 a0_1 l1).bind fun bt102=>(if bt102.2 = true then (some (bt102.1.length:Int)) else (some (-1)))) = some r:=h;clear h;replace H:=Option.bind_eq_some_iff.mp H;obtain ⟨⟨t102,t105⟩,A30,H⟩:=H;replace H:(if t105 = true then (some (t102.length:Int)) else (some (-1))) = some r:=H;have A3:=aZ_ A30;clear A30
 by_cases c4:t105 = true
 ·subst c4
  have H1:(some (t102.length:Int)) = some r:=by rw [if_pos rfl] at H;exact H
  clear H;have H:=H1;clear H1;obtain rfl:=Option.some.inj H;go_enter Tryz.func10,Tryz.ntmps10
  go_wp2_with (first | ((with_reducible refine gate_dst (N:=2) rfl ?_);refine box_event ?hg (N:=2) ?hd (cs:=#[.int .i64 a0_0,.int .i64 a0_1]) (t:=25) ?hr ?_;(case hd=>rfl);(case hg=>rfl);(case hr=>exact T19_);intro gb101 hg w5 hbox hb;have BK101:=aZ_ (hbox);have GW101:=aZ_ ((T3_:w.heap.size ≤ gb101));have GE101:=aZ_ ((T3_:w.heap.size ≤ gb101));replace HB:=aZ_ (below_step T2_ hb);clear hb hbox hg;obtain ⟨⟨hcz6_0,hcz6_1⟩,hfz6_0,hfz6_1⟩:=bc2_ BK101.out) | ((with_reducible refine gate_callee (f:=7) rfl ?_);refine goesL_ (some 10) rfl rfl Tryz.func7 T22_ rfl #[.agg #[.int .i64 a0_0,.int .i64 a0_1],.slice A1 l1.length c1] rfl T4_ ?_;(with_reducible refine (spec_DiagramOf.calls k a0_0 a0_1 _ _ l1 t102 true _ ?side1 ?side2 A3.out).mono ?_);(case side1=>exact T15_);(case side2=>exact HC1.out);rintro e w7 ⟨v103,rfl,ho0,hb⟩;refine ⟨_,rfl,?_⟩;have HO104:=aZ_ (Kd.R_lower ho0 (below_size T1_));replace BK101:=aZ_ (blk_below (g:=gb101) (o:=.cells #[.int .i64 a0_0,.int .i64 a0_1] 25 (0,0)) T5_ hb);replace HB:=aZ_ (below_step T1_ hb);(try clear hb);(try clear ho0);obtain ⟨Ao8,co8,eo8⟩:=Kd.R_slice HO104.out;subst eo8))
  go_ret;exact ⟨T13_,T1_⟩
 ·replace c4:=Bool.eq_false_iff.mpr c4
  subst c4;have H1:(some (-1)) = some r:=by rw [if_neg (show ¬ (false = true) by decide)] at H;exact H
  clear H;have H:=H1;clear H1;obtain rfl:=Option.some.inj H;go_enter Tryz.func10,Tryz.ntmps10
  go_wp2_with (first | ((with_reducible refine gate_dst (N:=2) rfl ?_);refine box_event ?hg (N:=2) ?hd (cs:=#[.int .i64 a0_0,.int .i64 a0_1]) (t:=25) ?hr ?_;(case hd=>rfl);(case hg=>rfl);(case hr=>exact T19_);intro gb101 hg w9 hbox hb;have BK101:=aZ_ (hbox);have GW101:=aZ_ ((T3_:w.heap.size ≤ gb101));have GE101:=aZ_ ((T3_:w.heap.size ≤ gb101));replace HB:=aZ_ (below_step T2_ hb);clear hb hbox hg;obtain ⟨⟨hcz10_0,hcz10_1⟩,hfz10_0,hfz10_1⟩:=bc2_ BK101.out) | ((with_reducible refine gate_callee (f:=7) rfl ?_);refine goesL_ (some 10) rfl rfl Tryz.func7 T22_ rfl #[.agg #[.int .i64 a0_0,.int .i64 a0_1],.slice A1 l1.length c1] rfl T4_ ?_;(with_reducible refine (spec_DiagramOf.calls k a0_0 a0_1 _ _ l1 t102 false _ ?side1 ?side2 A3.out).mono ?_);(case side1=>exact T15_);(case side2=>exact HC1.out);rintro e w11 ⟨v103,rfl,ho0,hb⟩;refine ⟨_,rfl,?_⟩;have HO104:=aZ_ (Kd.R_lower ho0 (below_size T1_));replace BK101:=aZ_ (blk_below (g:=gb101) (o:=.cells #[.int .i64 a0_0,.int .i64 a0_1] 25 (0,0)) T5_ hb);replace HB:=aZ_ (below_step T1_ hb);(try clear hb);(try clear ho0)))
  go_ret;exact ⟨T13_,T1_⟩
def impl_IsConstant.f (a0_0:Int) (a0_1:Int):Option (Bool):=(impl_IsTable.f a0_0 a0_1).bind fun t102=>(if t102 = true then ((impl_Table_isSame.f a0_0 a0_1).bind fun t103=>(some t103)) else (some false))
theorem impl_IsConstant.calls (a0_0:Int) (a0_1:Int) (r:Bool) (w:World) (h:impl_IsConstant.f a0_0 a0_1 = some r) :
  Calls Tryz.prog 11 #[.agg #[.int .i64 a0_0,.int .i64 a0_1]] w fun e w'=>e = .returned (.bool r) ∧ Below w.heap.size w w':=by
 have hu25:=Tryz.underlying25;have HB:=aZ_ (Below.refl w.heap.size w);have H:((impl_IsTable.f a0_0 a0_1).bind fun t102=>(if t102 = true then ((impl_Table_isSame.f a0_0 a0_1).bind fun t103=>(some t103)) else (some false))) = some r:=h;clear h;replace H:=Option.bind_eq_some_iff.mp H;obtain ⟨t102,A20,H⟩:=H;replace H:(if t102 = true then ((impl_Table_isSame.f a0_0 a0_1).bind fun t103=>(some t103)) else (some false)) = some r:=H;have A2:=aZ_ A20;clear A20
 by_cases c3:t102 = true
 ·subst c3
  have H1:((impl_Table_isSame.f a0_0 a0_1).bind fun t103=>(some t103)) = some r:=by rw [if_pos rfl] at H;exact H
  clear H;have H:=H1;clear H1;replace H:=Option.bind_eq_some_iff.mp H;obtain ⟨t103,A40,H⟩:=H;replace H:(some t103) = some r:=H;have A4:=aZ_ A40;clear A40;obtain rfl:=Option.some.inj H;go_enter Tryz.func11,Tryz.ntmps11
  go_wp2_with (first | ((with_reducible refine gate_dst (N:=1) rfl ?_);refine box_event ?hg (N:=1) ?hd (cs:=#[.int .i64 a0_0,.int .i64 a0_1]) (t:=25) ?hr ?_;(case hd=>rfl);(case hg=>rfl);(case hr=>exact T19_);intro gb101 hg w5 hbox hb;have BK101:=aZ_ (hbox);have GW101:=aZ_ ((T3_:w.heap.size ≤ gb101));have GE101:=aZ_ ((T3_:w.heap.size ≤ gb101));replace HB:=aZ_ (below_step T2_ hb);clear hb hbox hg;obtain ⟨⟨hcz6_0,hcz6_1⟩,hfz6_0,hfz6_1⟩:=bc2_ BK101.out) | ((with_reducible refine gate_callee (f:=32) rfl ?_);refine goesL_ (some 4) rfl rfl Tryz.func32 T22_ rfl #[.agg #[.int .i64 a0_0,.int .i64 a0_1]] rfl T4_ ?_;(with_reducible refine (impl_IsTable.calls a0_0 a0_1 true _ A2.out).mono ?_);rintro e w7 ⟨rfl,hb⟩;refine ⟨_,rfl,?_⟩;replace BK101:=aZ_ (blk_below (g:=gb101) (o:=.cells #[.int .i64 a0_0,.int .i64 a0_1] 25 (0,0)) T5_ hb);replace HB:=aZ_ (below_step T1_ hb);(try clear hb);obtain ⟨⟨hcz8_0,hcz8_1⟩,hfz8_0,hfz8_1⟩:=bc2_ BK101.out) | (go_at_call 39;(with_reducible refine (impl_Table_isSame.calls a0_0 a0_1 t103 _ A4.out).mono ?_);rintro e w9 ⟨rfl,hb⟩;replace BK101:=aZ_ (blk_below (g:=gb101) (o:=.cells #[.int .i64 a0_0,.int .i64 a0_1] 25 (0,0)) T5_ hb);replace HB:=aZ_ (below_step T1_ hb);(try clear hb)))
  go_ret;exact ⟨T13_,T1_⟩
 ·replace c3:=Bool.eq_false_iff.mpr c3
  subst c3;have H1:(some false) = some r:=by rw [if_neg (show ¬ (false = true) by decide)] at H;exact H
  clear H;have H:=H1;clear H1;obtain rfl:=Option.some.inj H;go_enter Tryz.func11,Tryz.ntmps11
  go_wp2_with (first | ((with_reducible refine gate_dst (N:=1) rfl ?_);refine box_event ?hg (N:=1) ?hd (cs:=#[.int .i64 a0_0,.int .i64 a0_1]) (t:=25) ?hr ?_;(case hd=>rfl);(case hg=>rfl);(case hr=>exact T19_);intro gb101 hg w10 hbox hb;have BK101:=aZ_ (hbox);have GW101:=aZ_ ((T3_:w.heap.size ≤ gb101));have GE101:=aZ_ ((T3_:w.heap.size ≤ gb101));replace HB:=aZ_ (below_step T2_ hb);clear hb hbox hg;obtain ⟨⟨hcz11_0,hcz11_1⟩,hfz11_0,hfz11_1⟩:=bc2_ BK101.out) | ((with_reducible refine gate_callee (f:=32) rfl ?_);refine goesL_ (some 4) rfl rfl Tryz.func32 T22_ rfl #[.agg #[.int .i64 a0_0,.int .i64 a0_1]] rfl T4_ ?_;(with_reducible refine (impl_IsTable.calls a0_0 a0_1 false _ A2.out).mono ?_);rintro e w12 ⟨rfl,hb⟩;refine ⟨_,rfl,?_⟩;replace BK101:=aZ_ (blk_below (g:=gb101) (o:=.cells #[.int .i64 a0_0,.int .i64 a0_1] 25 (0,0)) T5_ hb);replace HB:=aZ_ (below_step T1_ hb);(try clear hb)))
  go_ret;exact ⟨T13_,T1_⟩
end Go.Proofs.YtflacbjpeecjcabGreatDoor.F
namespace Go.Proofs.YtflacbjpeecjcabGreatDoor.F
attribute [local go_sem] max2_int min2_int max_two min_two max_three min_three max_four min_four 
attribute [local go_sem high] eqA56
def impl_Node.l0:Nat → List (S56) → Int → Int → Int → Int → Int → Option (Int)
 | 0,_,_,_,_,_,_=>none
 | k + 1,x0,x7,x8,x102000,x102001,x102002=>if x8 < x7 then (if 0 ≤ x8 then (if x8 < (x0.length:Int) then (if (x102000 == ((rd_T56 x0 x8).f0) && (x102001 == ((rd_T56 x0 x8).f1) && (x102002 == ((rd_T56 x0 x8).f2)))) = true then (some x8) else (impl_Node.l0 k x0 x7 (wrap64 (x8 + 1)) x102000 x102001 x102002)) else (none)) else (none)) else (some (-1))
def impl_Node.f (k:Nat) (l0:List (S56)) (a1_0:Int) (a1_1:Int) (a1_2:Int):Option (Int):=impl_Node.l0 k l0 (l0.length:Int) 0 a1_0 a1_1 a1_2
theorem impl_Node.calls (k:Nat) (A0:Option Addr) (c0:Nat) (l0:List (S56)) (a1_0:Int) (a1_1:Int) (a1_2:Int) (r:Int) (w:World) (hr0:Kd.C k56 w A0 l0.length l0) (hc0:l0.length ≤ c0) (h:impl_Node.f k l0 a1_0 a1_1 a1_2 = some r) :
  Calls Tryz.prog 42 #[.slice A0 l0.length c0,.agg #[.int .i64 a1_0,.int .i64 a1_1,.int .i64 a1_2]] w fun e w'=>e = .returned (.int .i64 r) ∧ Below w.heap.size w w':=by
 have hu56:=Tryz.underlying56;have HR0:=aZ_ hr0;have HC0:=aZ_ hc0;clear hr0 hc0;have HB:=aZ_ (Below.refl w.heap.size w);have H:(impl_Node.l0 k l0 (l0.length:Int) 0 a1_0 a1_1 a1_2) = some r:=h;clear h;have H':=aZ_ H;clear H;go_enter Tryz.func42,Tryz.ntmps42
 go_wp2_with (first | ((with_reducible refine gate_dst (N:=3) rfl ?_);refine box_event ?hg (N:=3) ?hd (cs:=#[.int .i64 a1_0,.int .i64 a1_1,.int .i64 a1_2]) (t:=56) ?hr ?_;(case hd=>rfl);(case hg=>rfl);(case hr=>exact T19_);intro gb101 hg w3 hbox hb;have BK101:=aZ_ (hbox);have GW101:=aZ_ ((T3_:w.heap.size ≤ gb101));have GE101:=aZ_ ((T3_:w.heap.size ≤ gb101));replace HB:=aZ_ (below_step T2_ hb);clear hb hbox hg))
 repeat (go_quiet (first | ((with_reducible refine gate_dst (N:=3) rfl ?_);refine box_event ?hg (N:=3) ?hd (cs:=#[.int .i64 a1_0,.int .i64 a1_1,.int .i64 a1_2]) (t:=56) ?hr ?_;(case hd=>rfl);(case hg=>rfl);(case hr=>exact T19_);intro gb101 hg w3 hbox hb;have BK101:=aZ_ (hbox);have GW101:=aZ_ ((T3_:w.heap.size ≤ gb101));have GE101:=aZ_ ((T3_:w.heap.size ≤ gb101));replace HB:=aZ_ (below_step T2_ hb);clear hb hbox hg));try go_wp2_with (first | ((with_reducible refine gate_dst (N:=3) rfl ?_);refine box_event ?hg (N:=3) ?hd (cs:=#[.int .i64 a1_0,.int .i64 a1_1,.int .i64 a1_2]) (t:=56) ?hr ?_;(case hd=>rfl);(case hg=>rfl);(case hr=>exact T19_);intro gb101 hg w3 hbox hb;have BK101:=aZ_ (hbox);have GW101:=aZ_ ((T3_:w.heap.size ≤ gb101));have GE101:=aZ_ ((T3_:w.heap.size ≤ gb101));replace HB:=aZ_ (below_step T2_ hb);clear hb hbox hg)))
 go_loopg [8] k (fun kq v8 w'=>∃ (x8_1:Int),v8 = .int .i64 x8_1 ∧ Aside0 (impl_Node.l0 kq l0 (l0.length:Int) x8_1 a1_0 a1_1 a1_2 = some r) ∧ Aside0 (kq ≤ k) ∧ Aside0 (w'.heap[gb101]? = some (.cells #[.int .i64 a1_0,.int .i64 a1_1,.int .i64 a1_2] 56 (0,0))) ∧ Aside0 (Below w.heap.size w w'))
 case atStart=>exact ⟨(0),T11_,H',⟨Nat.le_refl _⟩,⟨by (with_reducible repeat (first | refine blk_drewN ?_ _ | refine blk_drew ?_ | refine blk_alloc ?_ _));exact BK101.out⟩,⟨T1_⟩⟩
 case round =>
  clear H'
  try clear p2
  obtain ⟨x8_1,rfl,HA,HK1,BK101,HB⟩:=hrel
  cases gk with
  | zero=>exact absurd HA.out (by simp [impl_Node.l0])
  | succ k1 =>
   have H:=HA.out;clear HA;simp only [impl_Node.l0] at H
   by_cases c4:x8_1 < (l0.length:Int)
   ·rw [if_pos c4] at H
    have c4b0:decide (x8_1 < (l0.length:Int)) = true:=decide_eq_true c4;clear c4
    by_cases c5:0 ≤ x8_1
    ·rw [if_pos c5] at H
     have c5b0:decide (0 ≤ x8_1) = true:=decide_eq_true c5;clear c5
     by_cases c6:x8_1 < (l0.length:Int)
     ·rw [if_pos c6] at H
      have c6b0:decide (x8_1 < (l0.length:Int)) = true:=decide_eq_true c6;clear c6
      by_cases c7:(a1_0 == ((rd_T56 l0 x8_1).f0) && (a1_1 == ((rd_T56 l0 x8_1).f1) && (a1_2 == ((rd_T56 l0 x8_1).f2)))) = true
      ·rw [if_pos c7] at H
       have c7b0:(a1_0 == ((rd_T56 l0 x8_1).f0) && (a1_1 == ((rd_T56 l0 x8_1).f1) && (a1_2 == ((rd_T56 l0 x8_1).f2)))) = true:=c7
       (try (have c7b1:decide (a1_0 = ((rd_T56 l0 x8_1).f0) && (a1_1 == ((rd_T56 l0 x8_1).f1) && (a1_2 == ((rd_T56 l0 x8_1).f2)))) = true:=by simpa using c7))
       (try (have c7b2:(a1_0 == ((rd_T56 l0 x8_1).f0) && (a1_1 == ((rd_T56 l0 x8_1).f1) && (a1_2 == ((rd_T56 l0 x8_1).f2)))) = true:=by simpa using c7))
       clear c7;obtain rfl:=Option.some.inj H;obtain ⟨⟨hcz8_0,hcz8_1,hcz8_2⟩,hfz8_0,hfz8_1,hfz8_2⟩:=bc3_ BK101.out;have p102:0 ≤ (x8_1:Int):=of_decide_eq_true T14_;have q102:x8_1 < (l0.length:Int):=of_decide_eq_true T14_;obtain ⟨ad102,e102,hx102_0,hx102_1,hx102_2⟩:=at_T56 HR0.out x8_1 p102 q102
       cases e102
       replace hx102_0:=(HB.out.cell (World.block_lt_of_cell? w _ hx102_0)).trans hx102_0;replace hx102_1:=(HB.out.cell (World.block_lt_of_cell? w _ hx102_1)).trans hx102_1;replace hx102_2:=(HB.out.cell (World.block_lt_of_cell? w _ hx102_2)).trans hx102_2;replace p102:=eq_true p102;replace q102:=eq_true q102;go_wp2
       repeat (go_quiet (fail);try go_wp2)
       go_ret;exact ⟨T13_,T1_⟩
      ·rw [if_neg c7] at H
       have c7b0:(a1_0 == ((rd_T56 l0 x8_1).f0) && (a1_1 == ((rd_T56 l0 x8_1).f1) && (a1_2 == ((rd_T56 l0 x8_1).f2)))) = false:=by simpa using c7
       (try (have c7b1:decide (a1_0 = ((rd_T56 l0 x8_1).f0) && (a1_1 == ((rd_T56 l0 x8_1).f1) && (a1_2 == ((rd_T56 l0 x8_1).f2)))) = false:=by simpa using c7))
       (try (have c7b2:(a1_0 == ((rd_T56 l0 x8_1).f0) && (a1_1 == ((rd_T56 l0 x8_1).f1) && (a1_2 == ((rd_T56 l0 x8_1).f2)))) = false:=by simpa using c7))
       (try (have c7b3:¬ (a1_0 = ((rd_T56 l0 x8_1).f0) && (a1_1 == ((rd_T56 l0 x8_1).f1) && (a1_2 == ((rd_T56 l0 x8_1).f2)))):=by simpa using c7))
       clear c7;have H':=aZ_ H;clear H;obtain ⟨⟨hcz9_0,hcz9_1,hcz9_2⟩,hfz9_0,hfz9_1,hfz9_2⟩:=bc3_ BK101.out;have p102:0 ≤ (x8_1:Int):=of_decide_eq_true T14_;have q102:x8_1 < (l0.length:Int):=of_decide_eq_true T14_;obtain ⟨ad102,e102,hx102_0,hx102_1,hx102_2⟩:=at_T56 HR0.out x8_1 p102 q102
       cases e102
       replace hx102_0:=(HB.out.cell (World.block_lt_of_cell? w _ hx102_0)).trans hx102_0;replace hx102_1:=(HB.out.cell (World.block_lt_of_cell? w _ hx102_1)).trans hx102_1;replace hx102_2:=(HB.out.cell (World.block_lt_of_cell? w _ hx102_2)).trans hx102_2;replace p102:=eq_true p102;replace q102:=eq_true q102;go_wp2
       repeat (go_quiet (fail);try go_wp2)
       go_roundg k1
       case measure=>have:=HK1.out;omega
       case rel=>exact ⟨(wrap64 (x8_1 + 1)),T11_,H',⟨by have:=HK1.out;omega⟩,⟨by (with_reducible repeat (first | refine blk_drewN ?_ _ | refine blk_drew ?_ | refine blk_alloc ?_ _));exact BK101.out⟩,⟨T1_⟩⟩
     ·rw [if_neg c6] at H
      exact absurd H T64_
    ·rw [if_neg c5] at H
     exact absurd H T64_
   ·rw [if_neg c4] at H
    have c4b0:decide (x8_1 < (l0.length:Int)) = false:=decide_eq_false c4;clear c4;obtain rfl:=Option.some.inj H;go_wp2
    repeat (go_quiet (fail);try go_wp2)
    go_ret;exact ⟨T13_,T1_⟩
end Go.Proofs.YtflacbjpeecjcabGreatDoor.F
