/- Walks of Go functions and lemmas on what they compute, for the row of FnDiagrams (a part of several): each call ends as the Lean function of its name tells; the conditions are those of each theorem. -/
import Derived.Test.YtflacbjpeecjcabGreatDoorM3FnDiagrams
set_option linter.unusedVariables false
set_option linter.unusedSimpArgs false
set_option maxHeartbeats 16000000
set_option maxRecDepth 100000
open Go.RowKit Go.Proofs.YtflacbjpeecjcabGreatDoorW.PrintWords Go.Proofs.YtflacbjpeecjcabGreatDoorW.PrintLast Go.Proofs.YtflacbjpeecjcabGreatDoorW.PrintMore
namespace Go.Proofs.YtflacbjpeecjcabGreatDoor.F
attribute [local go_sem] max2_int min2_int max_two min_two max_three min_three max_four min_four 
def spec_l2Full.f (a0:Int):Option (Int):=if 0 ≤ a0 ∧ a0 ≤ 5 then some (2 ^ 2 ^ a0.toNat - 1) else none
theorem spec_l2Full.calls (a0:Int) (r:Int) (w:World) (h:spec_l2Full.f a0 = some r) :
  Calls Tryz.prog 66 #[.int .i64 a0] w fun e w'=>e = .returned (.int .i64 r) ∧ Drawn0 w w':=by
 unfold spec_l2Full.f at h
 by_cases h1:0 ≤ a0 ∧ a0 ≤ 5
 ·rw [if_pos h1] at h
  obtain rfl:=Option.some.inj h;clear h;rcases (show a0 = 0 ∨ a0 = 1 ∨ a0 = 2 ∨ a0 = 3 ∨ a0 = 4 ∨ a0 = 5 by omega) with rfl | rfl | rfl | rfl | rfl | rfl
  all_goals
   clear h1;go_enter Tryz.func66,Tryz.ntmps66;go_wp2;go_ret;exact ⟨rfl,⟨0,rfl⟩⟩
 ·rw [if_neg h1] at h
  cases h
end Go.Proofs.YtflacbjpeecjcabGreatDoor.F
namespace Go.Proofs.YtflacbjpeecjcabGreatDoor.F
attribute [local go_sem] max2_int min2_int max_two min_two max_three min_three max_four min_four 
def spec_l2Variable.l0:Nat → Int → Int → Int → Int → Option (Int)
 | 0,_,_,_,_=>none
 | k + 1,x0,x1,x5,x6=>if 0 ≤ x0 then (if x6 < (shl .i64 1 x0) then (if 0 ≤ x1 then (if (Go.bits .and .i64 (shr .i64 x6 x1) 1) = 1 then (if 0 ≤ x6 then (spec_l2Variable.l0 k x0 x1 (Go.bits .or .i64 x5 (shl .i64 1 x6)) (wrap64 (x6 + 1))) else (none)) else (spec_l2Variable.l0 k x0 x1 x5 (wrap64 (x6 + 1)))) else (none)) else (some x5)) else (none)
def spec_l2Variable.f (k:Nat) (a0:Int) (a1:Int):Option (Int):=spec_l2Variable.l0 k a0 a1 0 0
theorem spec_l2Variable.calls (k:Nat) (a0:Int) (a1:Int) (r:Int) (w:World) (h:spec_l2Variable.f k a0 a1 = some r) :
  Calls Tryz.prog 85 #[.int .i64 a0,.int .i64 a1] w fun e w'=>e = .returned (.int .i64 r) ∧ Drawn0 w w':=by
 have H:(spec_l2Variable.l0 k a0 a1 0 0) = some r:=h;clear h;have H':=aZ_ H;clear H;go_enter Tryz.func85,Tryz.ntmps85;go_wp2
 go_loopg [5,6] k (fun kq v5 v6 w'=>∃ (x5_1:Int) (x6_1:Int),v5 = .int .i64 x5_1 ∧ v6 = .int .i64 x6_1 ∧ Aside0 (spec_l2Variable.l0 kq a0 a1 x5_1 x6_1 = some r) ∧ Aside0 (kq ≤ k) ∧ Drawn0 w w')
 case atStart=>exact ⟨(0),(0),T11_,T11_,H',⟨Nat.le_refl _⟩,T29_⟩
 case round =>
  clear H'
  try clear p2
  obtain ⟨x5_1,x6_1,rfl,rfl,HA,HK1,⟨m1,rfl⟩⟩:=hrel
  cases gk with
  | zero=>exact absurd HA.out (by simp [spec_l2Variable.l0])
  | succ k1 =>
   have H:=HA.out;clear HA;simp only [spec_l2Variable.l0] at H
   by_cases c3:0 ≤ a0
   ·rw [if_pos c3] at H
    have c3b0:=eq_true c3;have c3b1:decide (0 ≤ a0) = true:=decide_eq_true c3;clear c3;obtain ⟨ji4,hji4⟩:∃ j_:Int,(shl .i64 1 a0) = j_:=⟨_,rfl⟩;replace H:(if x6_1 < (ji4) then (if 0 ≤ a1 then (if (Go.bits .and .i64 (shr .i64 x6_1 a1) 1) = 1 then (if 0 ≤ x6_1 then (spec_l2Variable.l0 k1 a0 a1 (Go.bits .or .i64 x5_1 (shl .i64 1 x6_1)) (wrap64 (x6_1 + 1))) else (none)) else (spec_l2Variable.l0 k1 a0 a1 x5_1 (wrap64 (x6_1 + 1)))) else (none)) else (some x5_1)) = some r:=by first | (rw [hji4] at H;exact H) | (simp only [hji4] at H ⊢;exact H)
    have hji4_:(IntKind.i64.wrap (1 * 2 ^ min a0.toNat 64)) = ji4:=hji4;have hji4z:a0 ≤ 64 → (IntKind.i64.wrap (1 * 2 ^ a0.toNat)) = ji4:=shl_small hji4;have hji4u:(IntKind.i64.wrap (2 ^ min a0.toNat 64)) = ji4:=by have h_:=hji4_;rw [Int.one_mul] at h_;exact h_
    have hji4v:a0 ≤ 64 → (IntKind.i64.wrap (2 ^ a0.toNat)) = ji4:=fun hle_=>by have h_:=hji4z hle_;rw [Int.one_mul] at h_;exact h_
    have hji4y:(wrap64 (1 * 2 ^ min a0.toNat 64)) = ji4:=(i64_w _).symm.trans hji4_;have hji4x:a0 ≤ 64 → (wrap64 (1 * 2 ^ a0.toNat)) = ji4:=fun h_=>(i64_w _).symm.trans (hji4z h_)
    by_cases c5:x6_1 < (ji4)
    ·rw [if_pos c5] at H
     have c5b0:decide (x6_1 < (ji4)) = true:=decide_eq_true c5;clear c5
     by_cases c6:0 ≤ a1
     ·rw [if_pos c6] at H
      have c6b0:=eq_true c6;have c6b1:decide (0 ≤ a1) = true:=decide_eq_true c6;clear c6;obtain ⟨ji7,hji7⟩:∃ j_:Int,(shr .i64 x6_1 a1) = j_:=⟨_,rfl⟩;replace H:(if (Go.bits .and .i64 (ji7) 1) = 1 then (if 0 ≤ x6_1 then (spec_l2Variable.l0 k1 a0 a1 (Go.bits .or .i64 x5_1 (shl .i64 1 x6_1)) (wrap64 (x6_1 + 1))) else (none)) else (spec_l2Variable.l0 k1 a0 a1 x5_1 (wrap64 (x6_1 + 1)))) = some r:=by first | (rw [hji7] at H;exact H) | (simp only [hji7] at H ⊢;exact H)
      have hji7_:(x6_1 / 2 ^ min a1.toNat 64) = ji7:=hji7;have hji7z:a1 ≤ 64 → (x6_1 / 2 ^ a1.toNat) = ji7:=shr_small hji7
      by_cases c8:(Go.bits .and .i64 (ji7) 1) = 1
      ·rw [if_pos c8] at H
       have c8b0:((Go.bits .and .i64 (ji7) 1) == 1) = true:=beq_iff_eq.mpr c8;have c8b1:((Go.bits .and .i64 (ji7) 1) != 1) = false:=bne_eq_false_iff_eq.mpr c8;clear c8
       by_cases c9:0 ≤ x6_1
       ·rw [if_pos c9] at H
        have c9b0:=eq_true c9;have c9b1:decide (0 ≤ x6_1) = true:=decide_eq_true c9;clear c9;obtain ⟨ji10,hji10⟩:∃ j_:Int,(shl .i64 1 x6_1) = j_:=⟨_,rfl⟩;replace H:(spec_l2Variable.l0 k1 a0 a1 (Go.bits .or .i64 x5_1 (ji10)) (wrap64 (x6_1 + 1))) = some r:=by first | (rw [hji10] at H;exact H) | (simp only [hji10] at H ⊢;exact H)
        have hji10_:(IntKind.i64.wrap (1 * 2 ^ min x6_1.toNat 64)) = ji10:=hji10;have hji10z:x6_1 ≤ 64 → (IntKind.i64.wrap (1 * 2 ^ x6_1.toNat)) = ji10:=shl_small hji10;have hji10u:(IntKind.i64.wrap (2 ^ min x6_1.toNat 64)) = ji10:=by have h_:=hji10_;rw [Int.one_mul] at h_;exact h_
        have hji10v:x6_1 ≤ 64 → (IntKind.i64.wrap (2 ^ x6_1.toNat)) = ji10:=fun hle_=>by have h_:=hji10z hle_;rw [Int.one_mul] at h_;exact h_
        have hji10y:(wrap64 (1 * 2 ^ min x6_1.toNat 64)) = ji10:=(i64_w _).symm.trans hji10_;have hji10x:x6_1 ≤ 64 → (wrap64 (1 * 2 ^ x6_1.toNat)) = ji10:=fun h_=>(i64_w _).symm.trans (hji10z h_)
        have H':=aZ_ H;clear H;go_wp2
        go_roundg k1
        case measure=>have:=HK1.out;omega
        case rel=>exact ⟨(Go.bits .or .i64 x5_1 (ji10)),(wrap64 (x6_1 + 1)),T110_,T11_,H',⟨by have:=HK1.out;omega⟩,T29_⟩
       ·rw [if_neg c9] at H
        exact absurd H T64_
      ·rw [if_neg c8] at H
       have c8b0:((Go.bits .and .i64 (ji7) 1) == 1) = false:=beq_eq_false_iff_ne.mpr c8;have c8b1:((Go.bits .and .i64 (ji7) 1) != 1) = true:=bne_iff_ne.mpr c8;have H':=aZ_ H;clear H;go_wp2
       go_roundg k1
       case measure=>have:=HK1.out;omega
       case rel=>exact ⟨(x5_1),(wrap64 (x6_1 + 1)),T11_,T11_,H',⟨by have:=HK1.out;omega⟩,T29_⟩
     ·rw [if_neg c6] at H
      exact absurd H T64_
    ·rw [if_neg c5] at H
     have c5b0:decide (x6_1 < (ji4)) = false:=decide_eq_false c5;clear c5;obtain rfl:=Option.some.inj H;go_wp2;go_ret;exact ⟨(by first | rfl | (simp;done) | (simp only [← hji4] <;> (first | rfl | simp)) | (simp [*];done)),T29_⟩
   ·rw [if_neg c3] at H
    exact absurd H T64_
end Go.Proofs.YtflacbjpeecjcabGreatDoor.F
namespace Go.Proofs.YtflacbjpeecjcabGreatDoor.F
attribute [local go_sem] max2_int min2_int max_two min_two max_three min_three max_four min_four 
def spec_l2Count.l0:Nat → Int → Int → Option (Int)
 | 0,_,_=>none
 | k + 1,x3,x4=>if x4 > 0 then (spec_l2Count.l0 k (wrap64 (x3 + (Go.bits .and .i64 x4 1))) (x4 / 2)) else (some x3)
def spec_l2Count.f (k:Nat) (a0:Int):Option (Int):=spec_l2Count.l0 k 0 a0
theorem spec_l2Count.calls (k:Nat) (a0:Int) (r:Int) (w:World) (h:spec_l2Count.f k a0 = some r) :
  Calls Tryz.prog 86 #[.int .i64 a0] w fun e w'=>e = .returned (.int .i64 r) ∧ Drawn0 w w':=by
 have H:(spec_l2Count.l0 k 0 a0) = some r:=h;clear h;have H':=aZ_ H;clear H;go_enter Tryz.func86,Tryz.ntmps86;go_wp2
 go_loopg [3,4] k (fun kq v3 v4 w'=>∃ (x3_1:Int) (x4_1:Int),v3 = .int .i64 x3_1 ∧ v4 = .int .i64 x4_1 ∧ Aside0 (spec_l2Count.l0 kq x3_1 x4_1 = some r) ∧ Aside0 (kq ≤ k) ∧ Drawn0 w w')
 case atStart=>exact ⟨(0),(a0),T11_,T11_,H',⟨Nat.le_refl _⟩,T29_⟩
 case round =>
  clear H';obtain ⟨x3_1,x4_1,rfl,rfl,HA,HK1,⟨m1,rfl⟩⟩:=hrel
  cases gk with
  | zero=>exact absurd HA.out (by simp [spec_l2Count.l0])
  | succ k1 =>
   have H:=HA.out;clear HA;simp only [spec_l2Count.l0] at H
   by_cases c2:x4_1 > 0
   ·rw [if_pos c2] at H
    have c2b0:decide (0 < x4_1) = true:=decide_eq_true c2;clear c2;have H':=aZ_ H;clear H;go_wp2
    go_roundg k1
    case measure=>have:=HK1.out;omega
    case rel=>exact ⟨(wrap64 (x3_1 + (Go.bits .and .i64 x4_1 1))),(x4_1 / 2),T11_,T11_,H',⟨by have:=HK1.out;omega⟩,T29_⟩
   ·rw [if_neg c2] at H
    have c2b0:decide (0 < x4_1) = false:=decide_eq_false c2;clear c2;obtain rfl:=Option.some.inj H;go_wp2;go_ret;exact ⟨T11_,T29_⟩
end Go.Proofs.YtflacbjpeecjcabGreatDoor.F
namespace Go.Proofs.YtflacbjpeecjcabGreatDoor.F
attribute [local go_sem] max2_int min2_int max_two min_two max_three min_three max_four min_four 
def impl_isBits.f (a0:Int):Option (Bool):=if a0 ≥ 0 then (some (decide (a0 ≤ 5))) else (some false)
theorem impl_isBits.calls (a0:Int) (r:Bool) (w:World) (h:impl_isBits.f a0 = some r) :
  Calls Tryz.prog 62 #[.int .i64 a0] w fun e w'=>e = .returned (.bool r) ∧ Drawn0 w w':=by
 have H:(if a0 ≥ 0 then (some (decide (a0 ≤ 5))) else (some false)) = some r:=h;clear h
 by_cases c2:a0 ≥ 0
 ·rw [if_pos c2] at H
  have c2b0:decide (0 ≤ a0) = true:=decide_eq_true c2;clear c2;obtain rfl:=Option.some.inj H;go_enter Tryz.func62,Tryz.ntmps62;go_wp2;go_ret;exact ⟨T11_,T29_⟩
 ·rw [if_neg c2] at H
  have c2b0:decide (0 ≤ a0) = false:=decide_eq_false c2;clear c2;obtain rfl:=Option.some.inj H;go_enter Tryz.func62,Tryz.ntmps62;go_wp2;go_ret;exact ⟨T11_,T29_⟩
end Go.Proofs.YtflacbjpeecjcabGreatDoor.F
namespace Go.Proofs.YtflacbjpeecjcabGreatDoor.F
attribute [local go_sem] max2_int min2_int max_two min_two max_three min_three max_four min_four 
def impl_Table_size.f (a0_0:Int) (a0_1:Int):Option (Int):=if 0 ≤ a0_0 then (some (shl .i64 1 a0_0)) else (none)
theorem impl_Table_size.calls (a0_0:Int) (a0_1:Int) (r:Int) (w:World) (h:impl_Table_size.f a0_0 a0_1 = some r) :
  Calls Tryz.prog 63 #[.agg #[.int .i64 a0_0,.int .i64 a0_1]] w fun e w'=>e = .returned (.int .i64 r) ∧ Below w.heap.size w w':=by
 have hu25:=Tryz.underlying25;have HB:=aZ_ (Below.refl w.heap.size w);have H:(if 0 ≤ a0_0 then (some (shl .i64 1 a0_0)) else (none)) = some r:=h;clear h
 by_cases c2:0 ≤ a0_0
 ·rw [if_pos c2] at H
  have c2b0:=eq_true c2;have c2b1:decide (0 ≤ a0_0) = true:=decide_eq_true c2;clear c2;obtain ⟨ji3,hji3⟩:∃ j_:Int,(shl .i64 1 a0_0) = j_:=⟨_,rfl⟩;replace H:(some ji3) = some r:=by first | (rw [hji3] at H;exact H) | (simp only [hji3] at H ⊢;exact H)
  have hji3_:(IntKind.i64.wrap (1 * 2 ^ min a0_0.toNat 64)) = ji3:=hji3;have hji3z:a0_0 ≤ 64 → (IntKind.i64.wrap (1 * 2 ^ a0_0.toNat)) = ji3:=shl_small hji3;have hji3u:(IntKind.i64.wrap (2 ^ min a0_0.toNat 64)) = ji3:=by have h_:=hji3_;rw [Int.one_mul] at h_;exact h_
  have hji3v:a0_0 ≤ 64 → (IntKind.i64.wrap (2 ^ a0_0.toNat)) = ji3:=fun hle_=>by have h_:=hji3z hle_;rw [Int.one_mul] at h_;exact h_
  have hji3y:(wrap64 (1 * 2 ^ min a0_0.toNat 64)) = ji3:=(i64_w _).symm.trans hji3_;have hji3x:a0_0 ≤ 64 → (wrap64 (1 * 2 ^ a0_0.toNat)) = ji3:=fun h_=>(i64_w _).symm.trans (hji3z h_)
  obtain rfl:=Option.some.inj H;go_enter Tryz.func63,Tryz.ntmps63
  go_wp2_with (first | ((with_reducible refine gate_dst (N:=1) rfl ?_);refine box_event ?hg (N:=1) ?hd (cs:=#[.int .i64 a0_0,.int .i64 a0_1]) (t:=25) ?hr ?_;(case hd=>rfl);(case hg=>rfl);(case hr=>exact T19_);intro gb101 hg w4 hbox hb;have BK101:=aZ_ (hbox);have GW101:=aZ_ ((T3_:w.heap.size ≤ gb101));have GE101:=aZ_ ((T3_:w.heap.size ≤ gb101));replace HB:=aZ_ (below_step T2_ hb);clear hb hbox hg;obtain ⟨⟨hcz5_0,hcz5_1⟩,hfz5_0,hfz5_1⟩:=bc2_ BK101.out))
  go_ret;exact ⟨(by first | rfl | (simp [errW_none,errW_some] <;> rfl) | (simp only [← hji3];first | rfl | (simp [errW_none,errW_some] <;> rfl)) | (simp [*,errW_none,errW_some] <;> rfl)),T1_⟩
 ·rw [if_neg c2] at H
  exact absurd H T64_
end Go.Proofs.YtflacbjpeecjcabGreatDoor.F
namespace Go.Proofs.YtflacbjpeecjcabGreatDoor.F
attribute [local go_sem] max2_int min2_int max_two min_two max_three min_three max_four min_four 
def impl_IsTable.f (a0_0:Int) (a0_1:Int):Option (Bool):=(impl_isBits.f a0_0).bind fun t102=>(if t102 = true then (if a0_1 ≥ 0 then ((impl_Table_size.f a0_0 a0_1).bind fun t103=>(if 0 ≤ t103 then (some ((shr .i64 a0_1 t103) == 0)) else (none))) else (some false)) else (some false))
def impl_IsTable.T1:Bool × List (List Nat × List Nat):=(true,[([],[]),([0],[0]),([1],[1]),([2,2],[2]),([3],[3]),([4,3],[3,4]),([5,3],[3,5]),([3,6],[3,6]),([7,3],[7]),([8],[8]),([9,8],[8,9]),([8],[8]),([11,8,8],[8,11]),([10,12,8],[8,10,12]),([13,8],[8,13]),([8,14],[8,14]),([15,12,0,1,2,3,4,5,6,7,8,9,10,11,12,13,14,15],[15])])
def impl_IsTable.B1:List Nat:=[0,1,3,7,15,31,63,127,255,511,1023,511,2559,8191,16383,32767,65535]
theorem impl_IsTable.tab1:rtab .any (opsOf Tryz.f32 1) = impl_IsTable.T1:=by kernel_rfl
theorem impl_IsTable.bits1:waitsOk impl_IsTable.T1.2 impl_IsTable.B1 = true:=by kernel_rfl
theorem impl_IsTable.calls (a0_0:Int) (a0_1:Int) (r:Bool) (w:World) (h:impl_IsTable.f a0_0 a0_1 = some r) :
  Calls Tryz.prog 32 #[.agg #[.int .i64 a0_0,.int .i64 a0_1]] w fun e w'=>e = .returned (.bool r) ∧ Below w.heap.size w w':=by
 have hu25:=Tryz.underlying25;have HB:=aZ_ (Below.refl w.heap.size w);have H:((impl_isBits.f a0_0).bind fun t102=>(if t102 = true then (if a0_1 ≥ 0 then ((impl_Table_size.f a0_0 a0_1).bind fun t103=>(if 0 ≤ t103 then (some ((shr .i64 a0_1 t103) == 0)) else (none))) else (some false)) else (some false))) = some r:=h;clear h;replace H:=Option.bind_eq_some_iff.mp H;obtain ⟨t102,A20,H⟩:=H;replace H:(if t102 = true then (if a0_1 ≥ 0 then ((impl_Table_size.f a0_0 a0_1).bind fun t103=>(if 0 ≤ t103 then (some ((shr .i64 a0_1 t103) == 0)) else (none))) else (some false)) else (some false)) = some r:=H;have A2:=aZ_ A20;clear A20
 by_cases c3:t102 = true
 ·subst c3
  have H1:(if a0_1 ≥ 0 then ((impl_Table_size.f a0_0 a0_1).bind fun t103=>(if 0 ≤ t103 then (some ((shr .i64 a0_1 t103) == 0)) else (none))) else (some false)) = some r:=by rw [if_pos rfl] at H;exact H
  clear H;have H:=H1;clear H1
  by_cases c4:a0_1 ≥ 0
  ·rw [if_pos c4] at H
   have c4b0:decide (0 ≤ a0_1) = true:=decide_eq_true c4;clear c4;replace H:=Option.bind_eq_some_iff.mp H;obtain ⟨t103,A50,H⟩:=H;replace H:(if 0 ≤ t103 then (some ((shr .i64 a0_1 t103) == 0)) else (none)) = some r:=H;have A5:=aZ_ A50;clear A50
   by_cases c6:0 ≤ t103
   ·rw [if_pos c6] at H
    have c6b0:=eq_true c6;have c6b1:decide (0 ≤ t103) = true:=decide_eq_true c6;clear c6;obtain ⟨ji7,hji7⟩:∃ j_:Int,(shr .i64 a0_1 t103) = j_:=⟨_,rfl⟩;replace H:(some ((ji7) == 0)) = some r:=by first | (rw [hji7] at H;exact H) | (simp only [hji7] at H ⊢;exact H)
    (try rw [hji7] at A2)
    (try rw [hji7] at A5)
    have hji7_:(a0_1 / 2 ^ min t103.toNat 64) = ji7:=hji7;have hji7z:t103 ≤ 64 → (a0_1 / 2 ^ t103.toNat) = ji7:=shr_small hji7;obtain rfl:=Option.some.inj H;go_enter Tryz.func32,Tryz.ntmps32
    try go_wp2_with (first | ((with_reducible refine gate_dst (N:=1) rfl ?_);refine box_event ?hg (N:=1) ?hd (cs:=#[.int .i64 a0_0,.int .i64 a0_1]) (t:=25) ?hr ?_;(case hd=>rfl);(case hg=>rfl);(case hr=>exact T19_);intro gb101 hg w8 hbox hb;have BK101:=aZ_ (hbox);have GW101:=aZ_ ((T3_:w.heap.size ≤ gb101));have GE101:=aZ_ ((T3_:w.heap.size ≤ gb101));replace HB:=aZ_ (below_step T2_ hb);clear hb hbox hg))
    replace BK101:=aZ_ (blk_drew BK101.out);replace HB:=aZ_ (below_drew1 HB.out);refine start_ (n:=17) (S:=fun w'=>w'.cell? ⟨gb101,0,none⟩ = some (.int .i64 a0_0) ∧ w'.cell? ⟨gb101,1,none⟩ = some (.int .i64 a0_1)) (ds:=[]) (bA 17 0) T22_ rfl rfl ⟨(blk_cell BK101.out 0).trans rfl,(blk_cell BK101.out 1).trans rfl⟩ (fun hHeld=>?_);refine with_tabW impl_IsTable.tab1 impl_IsTable.bits1 (fun HT_ HW_=>?_);generalize w8.drew = w9 at BK101 HB hHeld ⊢;refine pZ_ 0 (some 3) (bA 17 1) ?_;refine tZ2_ 1 (some 4) (bA 17 3) hHeld ?_;refine one_ (i:=2) (N:=some 5) (bA 17 7) rfl rfl (one_of HT_.out T22_) T55_ (fun K hK=>?_);refine gZ_ Tryz.func62 #[.int .i64 a0_0] ?_;with_reducible refine (impl_isBits.calls a0_0 true _ A2.out).mono ?_
    rintro e w' ⟨rfl,⟨nd,rfl⟩⟩;refine ⟨_,rfl,?_⟩;refine hK.out _ _ ⟨(blk_cell BK101.out 0).trans rfl,(blk_cell BK101.out 1).trans rfl⟩ (fun hHeld=>?_);clear hK K;refine nZ_ (some 5) ?_;refine pZ_ 3 (some 6) (bA 17 15) ?_;refine pZ_ 4 (some 7) (bA 17 31) ?_;refine tZ2_ 5 (some 8) (bA 17 63) hHeld ?_;refine pZ_ 6 (some 9) (bA 17 127) ?_;refine pZ_ 7 (some 10) (bA 17 255) ?_;refine pZ_ 8 (some 11) (bA 17 511) ?_;refine pZ_ 9 (some 12) (bA 17 1023) ?_;refine tZ2_ 10 (some 13) (bA 17 2047) hHeld ?_;refine tZ2_ 11 (some 14) (bA 17 4095) hHeld ?_;refine one_ (i:=12) (N:=some 15) (bA 17 8191) rfl rfl (one_of HT_.out T22_) T55_ (fun K hK=>?_);refine gZ_ Tryz.func63 #[.agg #[.int .i64 a0_0,.int .i64 a0_1]] ?_;with_reducible refine (impl_Table_size.calls a0_0 a0_1 t103 _ A5.out).mono ?_
    rintro e w10 ⟨rfl,hb⟩;refine ⟨_,rfl,?_⟩;replace BK101:=aZ_ (blk_below (g:=gb101) (o:=.cells #[.int .i64 a0_0,.int .i64 a0_1] 25 (0,0)) T5_ hb);replace HB:=aZ_ (below_step T1_ hb)
    (try clear hb)
    (try clear hb2)
    (try clear hk)
    (try clear hi)
    refine hK.out _ _ ⟨(blk_cell BK101.out 0).trans rfl,(blk_cell BK101.out 1).trans rfl⟩ (fun hHeld=>?_);clear hK K;refine nZ_ (some 15) ?_;refine pZ_ 13 (some 16) (bA 17 16383) ?_;refine pZ_ 14 (some 17) (bA 17 32767) ?_;refine pZ_ 15 (some 18) (bA 17 65535) ?_;refine pZ_ 16 (some 2) (bA 17 131071) ?_;refine done_ (done_of HT_.out T22_) ?_
    try go_wp2
    go_ret;exact ⟨(by first | rfl | (simp [errW_none,errW_some] <;> rfl) | (simp only [← hji7];first | rfl | (simp [errW_none,errW_some] <;> rfl)) | (simp [*,errW_none,errW_some] <;> rfl)),T1_⟩
   ·rw [if_neg c6] at H
    exact absurd H T64_
  ·rw [if_neg c4] at H
   have c4b0:decide (0 ≤ a0_1) = false:=decide_eq_false c4;clear c4;obtain rfl:=Option.some.inj H;go_enter Tryz.func32,Tryz.ntmps32
   try go_wp2_with (first | ((with_reducible refine gate_dst (N:=1) rfl ?_);refine box_event ?hg (N:=1) ?hd (cs:=#[.int .i64 a0_0,.int .i64 a0_1]) (t:=25) ?hr ?_;(case hd=>rfl);(case hg=>rfl);(case hr=>exact T19_);intro gb101 hg w11 hbox hb;have BK101:=aZ_ (hbox);have GW101:=aZ_ ((T3_:w.heap.size ≤ gb101));have GE101:=aZ_ ((T3_:w.heap.size ≤ gb101));replace HB:=aZ_ (below_step T2_ hb);clear hb hbox hg))
   replace BK101:=aZ_ (blk_drew BK101.out);replace HB:=aZ_ (below_drew1 HB.out);refine start_ (n:=17) (S:=fun w'=>w'.cell? ⟨gb101,0,none⟩ = some (.int .i64 a0_0) ∧ w'.cell? ⟨gb101,1,none⟩ = some (.int .i64 a0_1)) (ds:=[]) (bA 17 0) T22_ rfl rfl ⟨(blk_cell BK101.out 0).trans rfl,(blk_cell BK101.out 1).trans rfl⟩ (fun hHeld=>?_);refine with_tabW impl_IsTable.tab1 impl_IsTable.bits1 (fun HT_ HW_=>?_);generalize w11.drew = w12 at BK101 HB hHeld ⊢;refine pZ_ 0 (some 3) (bA 17 1) ?_;refine tZ2_ 1 (some 4) (bA 17 3) hHeld ?_;refine one_ (i:=2) (N:=some 5) (bA 17 7) rfl rfl (one_of HT_.out T22_) T55_ (fun K hK=>?_);refine gZ_ Tryz.func62 #[.int .i64 a0_0] ?_;with_reducible refine (impl_isBits.calls a0_0 true _ A2.out).mono ?_
   rintro e w' ⟨rfl,⟨nd,rfl⟩⟩;refine ⟨_,rfl,?_⟩;refine hK.out _ _ ⟨(blk_cell BK101.out 0).trans rfl,(blk_cell BK101.out 1).trans rfl⟩ (fun hHeld=>?_);clear hK K;refine nZ_ (some 5) ?_;refine pZ_ 3 (some 6) (bA 17 15) ?_;refine pZ_ 4 (some 7) (bA 17 31) ?_;refine tZ2_ 5 (some 8) (bA 17 63) hHeld ?_;refine pZ_ 6 (some 9) (bA 17 127) ?_;refine pZ_ 7 (some 10) (bA 17 255) ?_;refine pZ_ 8 (some 11) (bA 17 511) ?_;refine oZ_ 9 (some 12) (bA 17 1023) ?_;refine oZ_ 10 (some 13) (bA 17 2047) ?_;refine oZ_ 11 (some 14) (bA 17 4095) ?_;refine oZ_ 12 (some 15) (bA 17 8191) ?_;refine oZ_ 13 (some 16) (bA 17 16383) ?_;refine oZ_ 14 (some 17) (bA 17 32767) ?_;refine pZ_ 15 (some 18) (bA 17 65535) ?_;refine pZ_ 16 (some 2) (bA 17 131071) ?_;refine done_ (done_of HT_.out T22_) ?_
   try go_wp2
   go_ret;exact ⟨T13_,T1_⟩
 ·replace c3:=Bool.eq_false_iff.mpr c3
  subst c3;have H1:(some false) = some r:=by rw [if_neg (show ¬ (false = true) by decide)] at H;exact H
  clear H;have H:=H1;clear H1;obtain rfl:=Option.some.inj H;go_enter Tryz.func32,Tryz.ntmps32
  try go_wp2_with (first | ((with_reducible refine gate_dst (N:=1) rfl ?_);refine box_event ?hg (N:=1) ?hd (cs:=#[.int .i64 a0_0,.int .i64 a0_1]) (t:=25) ?hr ?_;(case hd=>rfl);(case hg=>rfl);(case hr=>exact T19_);intro gb101 hg w13 hbox hb;have BK101:=aZ_ (hbox);have GW101:=aZ_ ((T3_:w.heap.size ≤ gb101));have GE101:=aZ_ ((T3_:w.heap.size ≤ gb101));replace HB:=aZ_ (below_step T2_ hb);clear hb hbox hg))
  replace BK101:=aZ_ (blk_drew BK101.out);replace HB:=aZ_ (below_drew1 HB.out);refine start_ (n:=17) (S:=fun w'=>w'.cell? ⟨gb101,0,none⟩ = some (.int .i64 a0_0) ∧ w'.cell? ⟨gb101,1,none⟩ = some (.int .i64 a0_1)) (ds:=[]) (bA 17 0) T22_ rfl rfl ⟨(blk_cell BK101.out 0).trans rfl,(blk_cell BK101.out 1).trans rfl⟩ (fun hHeld=>?_);refine with_tabW impl_IsTable.tab1 impl_IsTable.bits1 (fun HT_ HW_=>?_);generalize w13.drew = w14 at BK101 HB hHeld ⊢;refine pZ_ 0 (some 3) (bA 17 1) ?_;refine tZ2_ 1 (some 4) (bA 17 3) hHeld ?_;refine one_ (i:=2) (N:=some 5) (bA 17 7) rfl rfl (one_of HT_.out T22_) T55_ (fun K hK=>?_);refine gZ_ Tryz.func62 #[.int .i64 a0_0] ?_;with_reducible refine (impl_isBits.calls a0_0 false _ A2.out).mono ?_
  rintro e w' ⟨rfl,⟨nd,rfl⟩⟩;refine ⟨_,rfl,?_⟩;refine hK.out _ _ ⟨(blk_cell BK101.out 0).trans rfl,(blk_cell BK101.out 1).trans rfl⟩ (fun hHeld=>?_);clear hK K;refine nZ_ (some 5) ?_;refine pZ_ 3 (some 6) (bA 17 15) ?_;refine oZ_ 4 (some 7) (bA 17 31) ?_;refine oZ_ 5 (some 8) (bA 17 63) ?_;refine oZ_ 6 (some 9) (bA 17 127) ?_;refine pZ_ 7 (some 10) (bA 17 255) ?_;refine pZ_ 8 (some 11) (bA 17 511) ?_;refine oZ_ 9 (some 12) (bA 17 1023) ?_;refine oZ_ 10 (some 13) (bA 17 2047) ?_;refine oZ_ 11 (some 14) (bA 17 4095) ?_;refine oZ_ 12 (some 15) (bA 17 8191) ?_;refine oZ_ 13 (some 16) (bA 17 16383) ?_;refine oZ_ 14 (some 17) (bA 17 32767) ?_;refine pZ_ 15 (some 18) (bA 17 65535) ?_;refine pZ_ 16 (some 2) (bA 17 131071) ?_;refine done_ (done_of HT_.out T22_) ?_
  try go_wp2
  go_ret;exact ⟨T13_,T1_⟩
end Go.Proofs.YtflacbjpeecjcabGreatDoor.F
namespace Go.Proofs.YtflacbjpeecjcabGreatDoor.F
attribute [local go_sem] max2_int min2_int max_two min_two max_three min_three max_four min_four 
def impl_Table_not.f (a0_0:Int) (a0_1:Int):Option (Int × Int):=(impl_Table_size.f a0_0 a0_1).bind fun t103=>(if 0 ≤ t103 then (some (a0_0,Go.bits .xor .i64 a0_1 (wrap64 ((shl .i64 1 t103) - 1)))) else (none))
def impl_Table_not.T1:Bool × List (List Nat × List Nat):=(true,[([],[]),([0],[0]),([],[]),([2],[2]),([],[]),([4],[4]),([5],[5]),([6],[6]),([3,7],[3,7]),([1,8],[1,8]),([9,5,0,1,2,3,4,5,6,7,8,9],[9])])
def impl_Table_not.B1:List Nat:=[0,1,0,4,0,16,48,112,252,511,1023]
theorem impl_Table_not.tab1:rtab .any (opsOf Tryz.f69 1) = impl_Table_not.T1:=by kernel_rfl
theorem impl_Table_not.bits1:waitsOk impl_Table_not.T1.2 impl_Table_not.B1 = true:=by kernel_rfl
theorem impl_Table_not.calls (a0_0:Int) (a0_1:Int) (r1:Int) (r2:Int) (w:World) (h:impl_Table_not.f a0_0 a0_1 = some (r1,r2)) :
  Calls Tryz.prog 69 #[.agg #[.int .i64 a0_0,.int .i64 a0_1]] w fun e w'=>e = .returned (.agg #[.int .i64 r1,.int .i64 r2]) ∧ Below w.heap.size w w':=by
 have hu25:=Tryz.underlying25;have HB:=aZ_ (Below.refl w.heap.size w);have H:((impl_Table_size.f a0_0 a0_1).bind fun t103=>(if 0 ≤ t103 then (some (a0_0,Go.bits .xor .i64 a0_1 (wrap64 ((shl .i64 1 t103) - 1)))) else (none))) = some (r1,r2):=h;clear h;replace H:=Option.bind_eq_some_iff.mp H;obtain ⟨t103,A20,H⟩:=H;replace H:(if 0 ≤ t103 then (some (a0_0,Go.bits .xor .i64 a0_1 (wrap64 ((shl .i64 1 t103) - 1)))) else (none)) = some (r1,r2):=H;have A2:=aZ_ A20;clear A20
 by_cases c3:0 ≤ t103
 ·rw [if_pos c3] at H
  have c3b0:=eq_true c3;have c3b1:decide (0 ≤ t103) = true:=decide_eq_true c3;clear c3;obtain ⟨ji4,hji4⟩:∃ j_:Int,(shl .i64 1 t103) = j_:=⟨_,rfl⟩;replace H:(some (a0_0,Go.bits .xor .i64 a0_1 (wrap64 ((ji4) - 1)))) = some (r1,r2):=by first | (rw [hji4] at H;exact H) | (simp only [hji4] at H ⊢;exact H)
  (try rw [hji4] at A2)
  have hji4_:(IntKind.i64.wrap (1 * 2 ^ min t103.toNat 64)) = ji4:=hji4;have hji4z:t103 ≤ 64 → (IntKind.i64.wrap (1 * 2 ^ t103.toNat)) = ji4:=shl_small hji4;have hji4u:(IntKind.i64.wrap (2 ^ min t103.toNat 64)) = ji4:=by have h_:=hji4_;rw [Int.one_mul] at h_;exact h_
  have hji4v:t103 ≤ 64 → (IntKind.i64.wrap (2 ^ t103.toNat)) = ji4:=fun hle_=>by have h_:=hji4z hle_;rw [Int.one_mul] at h_;exact h_
  have hji4y:(wrap64 (1 * 2 ^ min t103.toNat 64)) = ji4:=(i64_w _).symm.trans hji4_;have hji4x:t103 ≤ 64 → (wrap64 (1 * 2 ^ t103.toNat)) = ji4:=fun h_=>(i64_w _).symm.trans (hji4z h_)
  simp only [Option.some.injEq,Prod.mk.injEq] at H;obtain ⟨rfl,rfl⟩:=H;go_enter Tryz.func69,Tryz.ntmps69
  try go_wp2_with (first | ((with_reducible refine gate_dst (N:=1) rfl ?_);refine box_event ?hg (N:=1) ?hd (cs:=#[.int .i64 a0_0,.int .i64 a0_1]) (t:=25) ?hr ?_;(case hd=>rfl);(case hg=>rfl);(case hr=>exact T19_);intro gb101 hg w5 hbox hb;have BK101:=aZ_ (hbox);have GW101:=aZ_ ((T3_:w.heap.size ≤ gb101));have GE101:=aZ_ ((T3_:w.heap.size ≤ gb101));replace HB:=aZ_ (below_step T2_ hb);clear hb hbox hg) | ((with_reducible refine gate_dst (N:=2) rfl ?_);refine box_event ?hg (N:=2) ?hd (cs:=#[.int .i64 0,.int .i64 0]) (t:=25) ?hr ?_;(case hd=>rfl);(case hg=>rfl);(case hr=>exact T19_);intro gb102 hg w6 hbox hb;have BK102:=aZ_ (hbox);have GW102:=aZ_ ((T74_:w.heap.size ≤ gb102));have GE102:=aZ_ ((T74_:w.heap.size ≤ gb102));replace HB:=aZ_ (below_step T1_ hb);have NB101_102:=aZ_ ((by rw [hg];exact Nat.ne_of_lt (blk_lt (g:=gb101) (o:=.cells #[.int .i64 a0_0,.int .i64 a0_1] 25 (0,0)) T5_):gb101 ≠ gb102));have NB102_101:=aZ_ ((by rw [hg];exact Nat.ne_of_gt (blk_lt (g:=gb101) (o:=.cells #[.int .i64 a0_0,.int .i64 a0_1] 25 (0,0)) T5_):gb102 ≠ gb101));replace BK101:=aZ_ (blk_below (g:=gb101) (o:=.cells #[.int .i64 a0_0,.int .i64 a0_1] 25 (0,0)) T5_ hb);clear hb hbox hg))
  replace BK101:=aZ_ (blk_drew BK101.out);replace BK102:=aZ_ (blk_drew BK102.out);replace HB:=aZ_ (below_drew1 HB.out);refine start_ (n:=11) (S:=fun w'=>w'.cell? ⟨gb101,0,none⟩ = some (.int .i64 a0_0) ∧ w'.cell? ⟨gb101,1,none⟩ = some (.int .i64 a0_1)) (ds:=[]) (bA 11 0) T22_ rfl rfl ⟨(blk_cell BK101.out 0).trans rfl,(blk_cell BK101.out 1).trans rfl⟩ (fun hHeld=>?_);refine with_tabW impl_Table_not.tab1 impl_Table_not.bits1 (fun HT_ HW_=>?_);generalize w6.drew = w7 at BK101 BK102 HB hHeld ⊢;refine pZ_ 0 (some 3) (bA 11 1) ?_;refine pZ_ 2 (some 5) (bA 11 5) ?_;refine tZ2_ 1 (some 4) (bA 11 7) hHeld ?_;refine tZ2_ 3 (some 6) (bA 11 15) hHeld ?_;refine tZ2_ 4 (some 7) (bA 11 31) hHeld ?_;refine one_ (i:=5) (N:=some 8) (bA 11 63) rfl rfl (one_of HT_.out T22_) T55_ (fun K hK=>?_);refine gZ_ Tryz.func63 #[.agg #[.int .i64 a0_0,.int .i64 a0_1]] ?_;with_reducible refine (impl_Table_size.calls a0_0 a0_1 t103 _ A2.out).mono ?_
  rintro e w8 ⟨rfl,hb⟩;refine ⟨_,rfl,?_⟩;replace BK101:=aZ_ (blk_below (g:=gb101) (o:=.cells #[.int .i64 a0_0,.int .i64 a0_1] 25 (0,0)) T5_ hb);replace BK102:=aZ_ (blk_below (g:=gb102) (o:=.cells #[.int .i64 0,.int .i64 0] 25 (0,0)) T82_ hb);replace HB:=aZ_ (below_step T94_ hb)
  (try clear hb)
  (try clear hb2)
  (try clear hk)
  (try clear hi)
  refine hK.out _ _ ⟨(blk_cell BK101.out 0).trans rfl,(blk_cell BK101.out 1).trans rfl⟩ (fun hHeld=>?_);clear hK K;refine nZ_ (some 8) ?_;refine pZ_ 6 (some 9) (bA 11 127) ?_;refine pZ_ 7 (some 10) (bA 11 255) ?_;refine pZ_ 8 (some 11) (bA 11 511) ?_;refine pZ_ 9 (some 12) (bA 11 1023) ?_;refine one_ (i:=10) (N:=none) (bA 11 2047) rfl rfl (one_of HT_.out T22_) T55_ (fun K hK=>?_);have hs9:w8.cell? ⟨gb102,0,none⟩ = some (.int .i64 0):=(blk_cell BK102.out 0).trans rfl;have hfs9:=blk_frozen BK102.out 0;have hns9_0:=NB101_102.out;have hms9_0:=NB102_101.out;have hs10:w8.cell? ⟨gb102,1,none⟩ = some (.int .i64 0):=(blk_cell BK102.out 1).trans rfl;have hfs10:=blk_frozen BK102.out 1;have hns10_0:=NB101_102.out;have hms10_0:=NB102_101.out;refine skip_ (w1:=?_) (by rfl) rfl ?_ ?_;rotate_left
  ·go_simp
   rfl
  refine hK.out _ _ ⟨((cell_far (p:=⟨gb102,_,none⟩) NB101_102.out _).trans (((cell_far (p:=⟨gb102,_,none⟩) NB101_102.out _).trans (hHeld.1)))),((cell_far (p:=⟨gb102,_,none⟩) NB101_102.out _).trans (((cell_far (p:=⟨gb102,_,none⟩) NB101_102.out _).trans (hHeld.2))))⟩ (fun hHeld=>?_);clear hK K;refine done_ (done_of HT_.out T22_) ?_
  try go_wp2
  refine bodyPost_ret (results_cell_row rfl _ _ gb102 25 #[.int .i64 a0_0,.int .i64 (Go.bits .xor .i64 a0_1 (wrap64 ((ji4) - 1)))] (0,0) _ rfl (by (with_reducible repeat (first | refine blk_drewN ?_ _ | refine blk_drew ?_ | refine blk_alloc ?_ _));refine blk_put (cs:=#[.int .i64 a0_0,.int .i64 0]) ?_ 1 _ rfl;(with_reducible repeat (first | refine blk_drewN ?_ _ | refine blk_drew ?_ | refine blk_alloc ?_ _));refine blk_put (cs:=#[.int .i64 0,.int .i64 0]) ?_ 0 _ rfl;(with_reducible repeat (first | refine blk_drewN ?_ _ | refine blk_drew ?_ | refine blk_alloc ?_ _));exact BK102.out) Tryz.underlying25 rfl T22_) rfl ?_;exact ⟨T104_,T94_⟩
 ·rw [if_neg c3] at H
  exact absurd H T64_
end Go.Proofs.YtflacbjpeecjcabGreatDoor.F
namespace Go.Proofs.YtflacbjpeecjcabGreatDoor.F
attribute [local go_sem] max2_int min2_int max_two min_two max_three min_three max_four min_four 
def impl_Table_at.f (a0_0:Int) (a0_1:Int) (a1:Int):Option (Int):=if 0 ≤ a1 then (some (Go.bits .and .i64 (shr .i64 a0_1 a1) 1)) else (none)
theorem impl_Table_at.calls (a0_0:Int) (a0_1:Int) (a1:Int) (r:Int) (w:World) (h:impl_Table_at.f a0_0 a0_1 a1 = some r) :
  Calls Tryz.prog 46 #[.agg #[.int .i64 a0_0,.int .i64 a0_1],.int .i64 a1] w fun e w'=>e = .returned (.int .i64 r) ∧ Below w.heap.size w w':=by
 have hu25:=Tryz.underlying25;have HB:=aZ_ (Below.refl w.heap.size w);have H:(if 0 ≤ a1 then (some (Go.bits .and .i64 (shr .i64 a0_1 a1) 1)) else (none)) = some r:=h;clear h
 by_cases c3:0 ≤ a1
 ·rw [if_pos c3] at H
  have c3b0:=eq_true c3;have c3b1:decide (0 ≤ a1) = true:=decide_eq_true c3;clear c3;obtain ⟨ji4,hji4⟩:∃ j_:Int,(shr .i64 a0_1 a1) = j_:=⟨_,rfl⟩;replace H:(some (Go.bits .and .i64 (ji4) 1)) = some r:=by first | (rw [hji4] at H;exact H) | (simp only [hji4] at H ⊢;exact H)
  have hji4_:(a0_1 / 2 ^ min a1.toNat 64) = ji4:=hji4;have hji4z:a1 ≤ 64 → (a0_1 / 2 ^ a1.toNat) = ji4:=shr_small hji4;obtain rfl:=Option.some.inj H;go_enter Tryz.func46,Tryz.ntmps46
  go_wp2_with (first | ((with_reducible refine gate_dst (N:=2) rfl ?_);refine box_event ?hg (N:=2) ?hd (cs:=#[.int .i64 a0_0,.int .i64 a0_1]) (t:=25) ?hr ?_;(case hd=>rfl);(case hg=>rfl);(case hr=>exact T19_);intro gb101 hg w5 hbox hb;have BK101:=aZ_ (hbox);have GW101:=aZ_ ((T3_:w.heap.size ≤ gb101));have GE101:=aZ_ ((T3_:w.heap.size ≤ gb101));replace HB:=aZ_ (below_step T2_ hb);clear hb hbox hg;obtain ⟨⟨hcz6_0,hcz6_1⟩,hfz6_0,hfz6_1⟩:=bc2_ BK101.out))
  go_ret;exact ⟨T104_,T1_⟩
 ·rw [if_neg c3] at H
  exact absurd H T64_
end Go.Proofs.YtflacbjpeecjcabGreatDoor.F
namespace Go.Proofs.YtflacbjpeecjcabGreatDoor.F
attribute [local go_sem] max2_int min2_int max_two min_two max_three min_three max_four min_four 
def Gives (P:Program) (g:Nat) (lb args:Array Value) (res:Value) (W:World):Prop :=
 Calls P g (args ++ lb) W fun e w'=>e = .returned res ∧ Below W.heap.size W w'
theorem impl_makeTable.any (n:Nat) (hn:n ≤ 5) (p:Nat → Bool) (g:Nat) (lb:Array Value) (eg:∀ args w,(callFunc g args).run Tryz.prog w = .ok (.enter g args) w) (w:World)
  (hp:∀ (W:World) (x:Nat),x < 2 ^ n → Below w.heap.size w W → Gives Tryz.prog g lb #[.int .i64 x] (.bool (p x)) W) :
  Calls Tryz.prog 82 #[.int .i64 n,.func (.func g) #[] lb] w fun e w'=>e = .returned (.agg #[.int .i64 n,.int .i64 (B.tabN p (2 ^ n):Nat)]) ∧ Below w.heap.size w w':=by
 have hu25:=Tryz.underlying25;have HN:=aZ_ hn;have HP:=aZ_ hp;clear hp;have h63:(n:Int) ≤ 64:=by omega
 have h0:(0:Int) ≤ n:=by omega
 obtain ⟨M,hM⟩:∃ M:Nat,M = 2 ^ n:=⟨_,rfl⟩;have hM32:M ≤ 32:=by rw [hM];exact B.pow_le hn
 have hpw:(2:Int) ^ n = (M:Int):=by rw [hM];simp
 have hwr:wrap64 (2 ^ n) = (M:Int):=by rw [hpw];exact B.wrap64_of T73_ T73_
 clear hpw;have HM:=aZ_ hM;clear hn hM;go_enter Tryz.func82,Tryz.ntmps82;go_wp2;rw [hwr];clear hwr
 go_loopg [11] M (fun gg v11 wr=>∃ x:Nat,x ≤ M ∧ M - x ≤ gg ∧ v11 = .int .i64 x ∧ Aside0 (wr.heap[w.heap.size]? = some (.cells #[.int .i64 0,.int .i64 0] 25 (0,0))) ∧ Aside0 (wr.heap[w.heap.size + 1]? = some (.cells #[.int .i64 n,.int .i64 (B.tabN p x:Nat)] 25 (0,0))) ∧ Aside0 (Below w.heap.size w wr))
 case atStart=>exact ⟨0,Nat.zero_le _,by omega,rfl,⟨blk_alloc (blk_new w _) _⟩,⟨(by simpa [B.tabN] using blk_new (w.alloc (.cells #[.int .i64 0,.int .i64 0] 25)) (.cells #[.int .i64 n,.int .i64 0] 25))⟩,⟨below_alloc (below_alloc (Below.refl _ _) _) _⟩⟩
 case round =>
  obtain ⟨x,hx,hg,rfl,BK0,BK1,HB⟩:=hrel
  by_cases hlt:x < M
  ·have hltz:(x:Int) < (M:Int):=by omega
   have hcall:=HP.out wr x (by rw [← HM.out];exact hlt) HB.out;unfold Gives at hcall
   cases hq:p x with
   | true =>
    rw [hq] at hcall;have HQ:=aZ_ hq;clear hq
    go_wp2_with (go_at_fn g;refine hcall.mono ?_;rintro e w' ⟨rfl,hb'⟩;have BK0':=aZ_ (blk_below BK0.out hb');have BK1':=aZ_ (blk_below BK1.out hb');have HB':=aZ_ (below_step HB.out hb');clear hb')
    have hc0:w'.cell? ⟨w.heap.size + 1,0,none⟩ = some (.int .i64 n):=(blk_cell BK1'.out 0).trans rfl;have hc1:w'.cell? ⟨w.heap.size + 1,1,none⟩ = some (.int .i64 (B.tabN p x:Nat)):=(blk_cell BK1'.out 1).trans rfl;have hf1:w'.frozen? ⟨w.heap.size + 1,1,none⟩ = false:=blk_frozen BK1'.out 1;have hlt64:(x:Int) ≤ 64:=by omega
    go_region
    go_wp2
    go_roundg (M - (x + 1))
    case measure=>omega
    case rel =>
     refine ⟨x + 1,by omega,by omega,by go_num,⟨blk_drew (blk_far BK0'.out T64_ _)⟩,⟨?_⟩,⟨?_⟩⟩
     ·rw [B.or_bit (B.tabN_lt63 p T73_) T73_,← B.tabN_true HQ.out]
      exact blk_drew (blk_put BK1'.out 1 _ rfl)
     ·exact below_drew1 (below_set HB'.out (Nat.le_succ _))
   | false =>
    rw [hq] at hcall;have HQ:=aZ_ hq;clear hq
    go_wp2_with (go_at_fn g;refine hcall.mono ?_;rintro e w' ⟨rfl,hb'⟩;have BK0':=aZ_ (blk_below BK0.out hb');have BK1':=aZ_ (blk_below BK1.out hb');have HB':=aZ_ (below_step HB.out hb');clear hb')
    go_roundg (M - (x + 1))
    case measure=>omega
    case rel=>exact ⟨x + 1,by omega,by omega,by go_num,BK0',⟨(by rw [B.tabN,HQ.out];simpa using BK1'.out)⟩,HB'⟩
  ·have hltz:¬ (x:Int) < (M:Int):=by omega
   have hc0:wr.cell? ⟨w.heap.size + 1,0,none⟩ = some (.int .i64 n):=(blk_cell BK1.out 0).trans rfl;have hc1:wr.cell? ⟨w.heap.size + 1,1,none⟩ = some (.int .i64 (B.tabN p x:Nat)):=(blk_cell BK1.out 1).trans rfl;have hd0:wr.cell? ⟨w.heap.size,0,none⟩ = some (.int .i64 0):=(blk_cell BK0.out 0).trans rfl;have hd1:wr.cell? ⟨w.heap.size,1,none⟩ = some (.int .i64 0):=(blk_cell BK0.out 1).trans rfl;have hf0:wr.frozen? ⟨w.heap.size,0,none⟩ = false:=blk_frozen BK0.out 0;have hf1:wr.frozen? ⟨w.heap.size,1,none⟩ = false:=blk_frozen BK0.out 1;obtain rfl:x = M:=by omega
   go_wp2;refine bodyPost_ret (results_cell_row rfl _ _ w.heap.size 25 #[.int .i64 n,.int .i64 (B.tabN p x:Nat)] (0,0) _ rfl (by refine blk_put (cs:=#[.int .i64 n,.int .i64 0]) ?_ 1 _ rfl;refine blk_put (cs:=#[.int .i64 0,.int .i64 0]) ?_ 0 _ rfl;exact BK0.out) Tryz.underlying25 rfl T22_) rfl ?_;rw [← HM.out];exact ⟨rfl,below_set (below_set HB.out (Nat.le_refl _)) (Nat.le_refl _)⟩
end Go.Proofs.YtflacbjpeecjcabGreatDoor.F
namespace Go.Proofs.YtflacbjpeecjcabGreatDoor.F
attribute [local go_sem] max2_int min2_int max_two min_two max_three min_three max_four min_four 
def spec_l1In.f (a0:Int) (a1:Int) (a2:Int):Option (Bool):=if a0 ≥ a1 then (some (decide (a0 ≤ a2))) else (some false)
theorem spec_l1In.calls (a0:Int) (a1:Int) (a2:Int) (r:Bool) (w:World) (h:spec_l1In.f a0 a1 a2 = some r) :
  Calls Tryz.prog 54 #[.int .i64 a0,.int .i64 a1,.int .i64 a2] w fun e w'=>e = .returned (.bool r) ∧ Drawn0 w w':=by
 have H:(if a0 ≥ a1 then (some (decide (a0 ≤ a2))) else (some false)) = some r:=h;clear h
 by_cases c4:a0 ≥ a1
 ·rw [if_pos c4] at H
  have c4b0:decide (a1 ≤ a0) = true:=decide_eq_true c4;clear c4;obtain rfl:=Option.some.inj H;go_enter Tryz.func54,Tryz.ntmps54;go_wp2;go_ret;exact ⟨T11_,T29_⟩
 ·rw [if_neg c4] at H
  have c4b0:decide (a1 ≤ a0) = false:=decide_eq_false c4;clear c4;obtain rfl:=Option.some.inj H;go_enter Tryz.func54,Tryz.ntmps54;go_wp2;go_ret;exact ⟨T11_,T29_⟩
end Go.Proofs.YtflacbjpeecjcabGreatDoor.F
namespace Go.Proofs.YtflacbjpeecjcabGreatDoor.F
attribute [local go_sem] max2_int min2_int max_two min_two max_three min_three max_four min_four 
def spec_IsTable.f (a0_0:Int) (a0_1:Int):Option (Bool):=some (decide (0 ≤ a0_0 ∧ a0_0 ≤ 5 ∧ 0 ≤ a0_1 ∧ a0_1 < 2 ^ 2 ^ a0_0.toNat))
theorem l1In_some (a b c:Int) (r:Bool) (h:decide (b ≤ a ∧ a ≤ c) = r):spec_l1In.f a b c = some r:=by
 subst h;unfold spec_l1In.f
 by_cases h1:a ≥ b
 ·rw [if_pos h1];congr 1;apply Bool.eq_iff_iff.mpr;simp [h1]
 ·rw [if_neg h1];congr 1;symm;apply decide_eq_false;omega
theorem spec_IsTable.calls0 (a0_1:Int) (r:Bool) (w:World) (h0:spec_l1In.f 0 0 5 = some true) (h1:spec_l1In.f a0_1 0 1 = some r) :
  Calls Tryz.prog 35 #[.agg #[.int .i64 0,.int .i64 a0_1]] w fun e w'=>e = .returned (.bool r) ∧ Below w.heap.size w w':=by
 have hu:=Tryz.underlying25;have A0:=aZ_ h0;have A1:=aZ_ h1;clear h0 h1;go_enter Tryz.func35,Tryz.ntmps35;go_wp2
 go_quiet ((first | (go_at_call 54;(with_reducible refine (spec_l1In.calls 0 0 5 true _ A0.out).mono ?_);rintro e w' ⟨rfl,⟨nd,rfl⟩⟩;(try exact T7_)) | (go_at_call 54;(with_reducible refine (spec_l1In.calls a0_1 0 1 r _ A1.out).mono ?_);rintro e w' ⟨rfl,⟨nd,rfl⟩⟩;(try exact T7_))))
 go_wp2;go_ret;exact ⟨rfl,T62_⟩
theorem spec_IsTable.calls1 (a0_1:Int) (r:Bool) (w:World) (h0:spec_l1In.f 1 0 5 = some true) (h1:spec_l1In.f a0_1 0 3 = some r) :
  Calls Tryz.prog 35 #[.agg #[.int .i64 1,.int .i64 a0_1]] w fun e w'=>e = .returned (.bool r) ∧ Below w.heap.size w w':=by
 have hu:=Tryz.underlying25;have A0:=aZ_ h0;have A1:=aZ_ h1;clear h0 h1;go_enter Tryz.func35,Tryz.ntmps35;go_wp2
 go_quiet ((first | (go_at_call 54;(with_reducible refine (spec_l1In.calls 1 0 5 true _ A0.out).mono ?_);rintro e w' ⟨rfl,⟨nd,rfl⟩⟩;(try exact T7_)) | (go_at_call 54;(with_reducible refine (spec_l1In.calls a0_1 0 3 r _ A1.out).mono ?_);rintro e w' ⟨rfl,⟨nd,rfl⟩⟩;(try exact T7_))))
 go_wp2;go_ret;exact ⟨rfl,T62_⟩
theorem spec_IsTable.calls2 (a0_1:Int) (r:Bool) (w:World) (h0:spec_l1In.f 2 0 5 = some true) (h1:spec_l1In.f a0_1 0 15 = some r) :
  Calls Tryz.prog 35 #[.agg #[.int .i64 2,.int .i64 a0_1]] w fun e w'=>e = .returned (.bool r) ∧ Below w.heap.size w w':=by
 have hu:=Tryz.underlying25;have A0:=aZ_ h0;have A1:=aZ_ h1;clear h0 h1;go_enter Tryz.func35,Tryz.ntmps35;go_wp2
 go_quiet ((first | (go_at_call 54;(with_reducible refine (spec_l1In.calls 2 0 5 true _ A0.out).mono ?_);rintro e w' ⟨rfl,⟨nd,rfl⟩⟩;(try exact T7_)) | (go_at_call 54;(with_reducible refine (spec_l1In.calls a0_1 0 15 r _ A1.out).mono ?_);rintro e w' ⟨rfl,⟨nd,rfl⟩⟩;(try exact T7_))))
 go_wp2;go_ret;exact ⟨rfl,T62_⟩
theorem spec_IsTable.calls3 (a0_1:Int) (r:Bool) (w:World) (h0:spec_l1In.f 3 0 5 = some true) (h1:spec_l1In.f a0_1 0 255 = some r) :
  Calls Tryz.prog 35 #[.agg #[.int .i64 3,.int .i64 a0_1]] w fun e w'=>e = .returned (.bool r) ∧ Below w.heap.size w w':=by
 have hu:=Tryz.underlying25;have A0:=aZ_ h0;have A1:=aZ_ h1;clear h0 h1;go_enter Tryz.func35,Tryz.ntmps35;go_wp2
 go_quiet ((first | (go_at_call 54;(with_reducible refine (spec_l1In.calls 3 0 5 true _ A0.out).mono ?_);rintro e w' ⟨rfl,⟨nd,rfl⟩⟩;(try exact T7_)) | (go_at_call 54;(with_reducible refine (spec_l1In.calls a0_1 0 255 r _ A1.out).mono ?_);rintro e w' ⟨rfl,⟨nd,rfl⟩⟩;(try exact T7_))))
 go_wp2;go_ret;exact ⟨rfl,T62_⟩
theorem spec_IsTable.calls4 (a0_1:Int) (r:Bool) (w:World) (h0:spec_l1In.f 4 0 5 = some true) (h1:spec_l1In.f a0_1 0 65535 = some r) :
  Calls Tryz.prog 35 #[.agg #[.int .i64 4,.int .i64 a0_1]] w fun e w'=>e = .returned (.bool r) ∧ Below w.heap.size w w':=by
 have hu:=Tryz.underlying25;have A0:=aZ_ h0;have A1:=aZ_ h1;clear h0 h1;go_enter Tryz.func35,Tryz.ntmps35;go_wp2
 go_quiet ((first | (go_at_call 54;(with_reducible refine (spec_l1In.calls 4 0 5 true _ A0.out).mono ?_);rintro e w' ⟨rfl,⟨nd,rfl⟩⟩;(try exact T7_)) | (go_at_call 54;(with_reducible refine (spec_l1In.calls a0_1 0 65535 r _ A1.out).mono ?_);rintro e w' ⟨rfl,⟨nd,rfl⟩⟩;(try exact T7_))))
 go_wp2;go_ret;exact ⟨rfl,T62_⟩
theorem spec_IsTable.calls5 (a0_1:Int) (r:Bool) (w:World) (h0:spec_l1In.f 5 0 5 = some true) (h1:spec_l1In.f a0_1 0 4294967295 = some r) :
  Calls Tryz.prog 35 #[.agg #[.int .i64 5,.int .i64 a0_1]] w fun e w'=>e = .returned (.bool r) ∧ Below w.heap.size w w':=by
 have hu:=Tryz.underlying25;have A0:=aZ_ h0;have A1:=aZ_ h1;clear h0 h1;go_enter Tryz.func35,Tryz.ntmps35;go_wp2
 go_quiet ((first | (go_at_call 54;(with_reducible refine (spec_l1In.calls 5 0 5 true _ A0.out).mono ?_);rintro e w' ⟨rfl,⟨nd,rfl⟩⟩;(try exact T7_)) | (go_at_call 54;(with_reducible refine (spec_l1In.calls a0_1 0 4294967295 r _ A1.out).mono ?_);rintro e w' ⟨rfl,⟨nd,rfl⟩⟩;(try exact T7_))))
 go_wp2;go_ret;exact ⟨rfl,T62_⟩
theorem spec_IsTable.callsno (a0_0 a0_1:Int) (w:World) (h0:spec_l1In.f a0_0 0 5 = some false) :
  Calls Tryz.prog 35 #[.agg #[.int .i64 a0_0,.int .i64 a0_1]] w fun e w'=>e = .returned (.bool false) ∧ Below w.heap.size w w':=by
 have hu:=Tryz.underlying25;have A0:=aZ_ h0;clear h0;go_enter Tryz.func35,Tryz.ntmps35;go_wp2
 go_quiet ((go_at_call 54;(with_reducible refine (spec_l1In.calls a0_0 0 5 false _ A0.out).mono ?_);rintro e w' ⟨rfl,⟨nd,rfl⟩⟩;(try exact T7_)))
 go_wp2;go_ret;exact ⟨rfl,T62_⟩
theorem spec_IsTable.calls (a0_0:Int) (a0_1:Int) (r:Bool) (w:World) (h:spec_IsTable.f a0_0 a0_1 = some r) :
  Calls Tryz.prog 35 #[.agg #[.int .i64 a0_0,.int .i64 a0_1]] w fun e w'=>e = .returned (.bool r) ∧ Below w.heap.size w w':=by
 obtain rfl:=Option.some.inj h;clear h
 by_cases h1:0 ≤ a0_0 ∧ a0_0 ≤ 5
 ·rcases (show a0_0 = 0 ∨ a0_0 = 1 ∨ a0_0 = 2 ∨ a0_0 = 3 ∨ a0_0 = 4 ∨ a0_0 = 5 by omega) with rfl | rfl | rfl | rfl | rfl | rfl
  ·exact spec_IsTable.calls0 a0_1 _ w (l1In_some _ _ _ _ rfl) (l1In_some _ _ _ _ (decide_eq_decide.mpr (by rw [show (2:Int) ^ 2 ^ Int.toNat 0 = 2 from by decide];omega)))
  ·exact spec_IsTable.calls1 a0_1 _ w (l1In_some _ _ _ _ rfl) (l1In_some _ _ _ _ (decide_eq_decide.mpr (by rw [show (2:Int) ^ 2 ^ Int.toNat 1 = 4 from by decide];omega)))
  ·exact spec_IsTable.calls2 a0_1 _ w (l1In_some _ _ _ _ rfl) (l1In_some _ _ _ _ (decide_eq_decide.mpr (by rw [show (2:Int) ^ 2 ^ Int.toNat 2 = 16 from by decide];omega)))
  ·exact spec_IsTable.calls3 a0_1 _ w (l1In_some _ _ _ _ rfl) (l1In_some _ _ _ _ (decide_eq_decide.mpr (by rw [show (2:Int) ^ 2 ^ Int.toNat 3 = 256 from by decide];omega)))
  ·exact spec_IsTable.calls4 a0_1 _ w (l1In_some _ _ _ _ rfl) (l1In_some _ _ _ _ (decide_eq_decide.mpr (by rw [show (2:Int) ^ 2 ^ Int.toNat 4 = 65536 from by decide];omega)))
  ·exact spec_IsTable.calls5 a0_1 _ w (l1In_some _ _ _ _ rfl) (l1In_some _ _ _ _ (decide_eq_decide.mpr (by rw [show (2:Int) ^ 2 ^ Int.toNat 5 = 4294967296 from by decide];omega)))
 ·rw [show decide (0 ≤ a0_0 ∧ a0_0 ≤ 5 ∧ 0 ≤ a0_1 ∧ a0_1 < 2 ^ 2 ^ a0_0.toNat) = false from decide_eq_false (fun h=>h1 ⟨h.1,h.2.1⟩)]
  exact spec_IsTable.callsno a0_0 a0_1 w (l1In_some _ _ _ _ (decide_eq_false h1))
end Go.Proofs.YtflacbjpeecjcabGreatDoor.F
namespace Go.Proofs.YtflacbjpeecjcabGreatDoor.F
attribute [local go_sem] max2_int min2_int max_two min_two max_three min_three max_four min_four 
def impl_isInput.f (a0:Int) (a1:Int):Option (Bool):=if a1 ≥ 0 then (if 0 ≤ a0 then (some (decide (a1 < (shl .i64 1 a0)))) else (none)) else (some false)
theorem impl_isInput.calls (a0:Int) (a1:Int) (r:Bool) (w:World) (h:impl_isInput.f a0 a1 = some r) :
  Calls Tryz.prog 44 #[.int .i64 a0,.int .i64 a1] w fun e w'=>e = .returned (.bool r) ∧ Drawn0 w w':=by
 have H:(if a1 ≥ 0 then (if 0 ≤ a0 then (some (decide (a1 < (shl .i64 1 a0)))) else (none)) else (some false)) = some r:=h;clear h
 by_cases c3:a1 ≥ 0
 ·rw [if_pos c3] at H
  have c3b0:decide (0 ≤ a1) = true:=decide_eq_true c3;clear c3
  by_cases c4:0 ≤ a0
  ·rw [if_pos c4] at H
   have c4b0:=eq_true c4;have c4b1:decide (0 ≤ a0) = true:=decide_eq_true c4;clear c4;obtain ⟨ji5,hji5⟩:∃ j_:Int,(shl .i64 1 a0) = j_:=⟨_,rfl⟩;replace H:(some (decide (a1 < (ji5)))) = some r:=by first | (rw [hji5] at H;exact H) | (simp only [hji5] at H ⊢;exact H)
   have hji5_:(IntKind.i64.wrap (1 * 2 ^ min a0.toNat 64)) = ji5:=hji5;have hji5z:a0 ≤ 64 → (IntKind.i64.wrap (1 * 2 ^ a0.toNat)) = ji5:=shl_small hji5;have hji5u:(IntKind.i64.wrap (2 ^ min a0.toNat 64)) = ji5:=by have h_:=hji5_;rw [Int.one_mul] at h_;exact h_
   have hji5v:a0 ≤ 64 → (IntKind.i64.wrap (2 ^ a0.toNat)) = ji5:=fun hle_=>by have h_:=hji5z hle_;rw [Int.one_mul] at h_;exact h_
   have hji5y:(wrap64 (1 * 2 ^ min a0.toNat 64)) = ji5:=(i64_w _).symm.trans hji5_;have hji5x:a0 ≤ 64 → (wrap64 (1 * 2 ^ a0.toNat)) = ji5:=fun h_=>(i64_w _).symm.trans (hji5z h_)
   obtain rfl:=Option.some.inj H;go_enter Tryz.func44,Tryz.ntmps44;go_wp2;go_ret;exact ⟨(by first | rfl | (simp;done) | (simp only [← hji5] <;> (first | rfl | simp)) | (simp [*];done)),T29_⟩
  ·rw [if_neg c4] at H
   exact absurd H T64_
 ·rw [if_neg c3] at H
  have c3b0:decide (0 ≤ a1) = false:=decide_eq_false c3;clear c3;obtain rfl:=Option.some.inj H;go_enter Tryz.func44,Tryz.ntmps44;go_wp2;go_ret;exact ⟨T11_,T29_⟩
end Go.Proofs.YtflacbjpeecjcabGreatDoor.F
namespace Go.Proofs.YtflacbjpeecjcabGreatDoor.F
attribute [local go_sem] max2_int min2_int max_two min_two max_three min_three max_four min_four 
def bits_OnesCount64.f (a0:Int):Option (Int):=some (Go.bits .and .i64 (wrap64 (IntKind.u64.wrap ((IntKind.u64.wrap ((IntKind.u64.wrap ((Go.bits .and .u64 (IntKind.u64.wrap (((IntKind.u64.wrap ((Go.bits .and .u64 ((IntKind.u64.wrap ((Go.bits .and .u64 (a0 / 2) 6148914691236517205) + (Go.bits .and .u64 a0 6148914691236517205))) / 4) 3689348814741910323) + (Go.bits .and .u64 (IntKind.u64.wrap ((Go.bits .and .u64 (a0 / 2) 6148914691236517205) + (Go.bits .and .u64 a0 6148914691236517205))) 3689348814741910323))) / 16) + (IntKind.u64.wrap ((Go.bits .and .u64 ((IntKind.u64.wrap ((Go.bits .and .u64 (a0 / 2) 6148914691236517205) + (Go.bits .and .u64 a0 6148914691236517205))) / 4) 3689348814741910323) + (Go.bits .and .u64 (IntKind.u64.wrap ((Go.bits .and .u64 (a0 / 2) 6148914691236517205) + (Go.bits .and .u64 a0 6148914691236517205))) 3689348814741910323))))) 1085102592571150095) + ((Go.bits .and .u64 (IntKind.u64.wrap (((IntKind.u64.wrap ((Go.bits .and .u64 ((IntKind.u64.wrap ((Go.bits .and .u64 (a0 / 2) 6148914691236517205) + (Go.bits .and .u64 a0 6148914691236517205))) / 4) 3689348814741910323) + (Go.bits .and .u64 (IntKind.u64.wrap ((Go.bits .and .u64 (a0 / 2) 6148914691236517205) + (Go.bits .and .u64 a0 6148914691236517205))) 3689348814741910323))) / 16) + (IntKind.u64.wrap ((Go.bits .and .u64 ((IntKind.u64.wrap ((Go.bits .and .u64 (a0 / 2) 6148914691236517205) + (Go.bits .and .u64 a0 6148914691236517205))) / 4) 3689348814741910323) + (Go.bits .and .u64 (IntKind.u64.wrap ((Go.bits .and .u64 (a0 / 2) 6148914691236517205) + (Go.bits .and .u64 a0 6148914691236517205))) 3689348814741910323))))) 1085102592571150095) / 256))) + ((IntKind.u64.wrap ((Go.bits .and .u64 (IntKind.u64.wrap (((IntKind.u64.wrap ((Go.bits .and .u64 ((IntKind.u64.wrap ((Go.bits .and .u64 (a0 / 2) 6148914691236517205) + (Go.bits .and .u64 a0 6148914691236517205))) / 4) 3689348814741910323) + (Go.bits .and .u64 (IntKind.u64.wrap ((Go.bits .and .u64 (a0 / 2) 6148914691236517205) + (Go.bits .and .u64 a0 6148914691236517205))) 3689348814741910323))) / 16) + (IntKind.u64.wrap ((Go.bits .and .u64 ((IntKind.u64.wrap ((Go.bits .and .u64 (a0 / 2) 6148914691236517205) + (Go.bits .and .u64 a0 6148914691236517205))) / 4) 3689348814741910323) + (Go.bits .and .u64 (IntKind.u64.wrap ((Go.bits .and .u64 (a0 / 2) 6148914691236517205) + (Go.bits .and .u64 a0 6148914691236517205))) 3689348814741910323))))) 1085102592571150095) + ((Go.bits .and .u64 (IntKind.u64.wrap (((IntKind.u64.wrap ((Go.bits .and .u64 ((IntKind.u64.wrap ((Go.bits .and .u64 (a0 / 2) 6148914691236517205) + (Go.bits .and .u64 a0 6148914691236517205))) / 4) 3689348814741910323) + (Go.bits .and .u64 (IntKind.u64.wrap ((Go.bits .and .u64 (a0 / 2) 6148914691236517205) + (Go.bits .and .u64 a0 6148914691236517205))) 3689348814741910323))) / 16) + (IntKind.u64.wrap ((Go.bits .and .u64 ((IntKind.u64.wrap ((Go.bits .and .u64 (a0 / 2) 6148914691236517205) + (Go.bits .and .u64 a0 6148914691236517205))) / 4) 3689348814741910323) + (Go.bits .and .u64 (IntKind.u64.wrap ((Go.bits .and .u64 (a0 / 2) 6148914691236517205) + (Go.bits .and .u64 a0 6148914691236517205))) 3689348814741910323))))) 1085102592571150095) / 256))) / 65536))) + ((IntKind.u64.wrap ((IntKind.u64.wrap ((Go.bits .and .u64 (IntKind.u64.wrap (((IntKind.u64.wrap ((Go.bits .and .u64 ((IntKind.u64.wrap ((Go.bits .and .u64 (a0 / 2) 6148914691236517205) + (Go.bits .and .u64 a0 6148914691236517205))) / 4) 3689348814741910323) + (Go.bits .and .u64 (IntKind.u64.wrap ((Go.bits .and .u64 (a0 / 2) 6148914691236517205) + (Go.bits .and .u64 a0 6148914691236517205))) 3689348814741910323))) / 16) + (IntKind.u64.wrap ((Go.bits .and .u64 ((IntKind.u64.wrap ((Go.bits .and .u64 (a0 / 2) 6148914691236517205) + (Go.bits .and .u64 a0 6148914691236517205))) / 4) 3689348814741910323) + (Go.bits .and .u64 (IntKind.u64.wrap ((Go.bits .and .u64 (a0 / 2) 6148914691236517205) + (Go.bits .and .u64 a0 6148914691236517205))) 3689348814741910323))))) 1085102592571150095) + ((Go.bits .and .u64 (IntKind.u64.wrap (((IntKind.u64.wrap ((Go.bits .and .u64 ((IntKind.u64.wrap ((Go.bits .and .u64 (a0 / 2) 6148914691236517205) + (Go.bits .and .u64 a0 6148914691236517205))) / 4) 3689348814741910323) + (Go.bits .and .u64 (IntKind.u64.wrap ((Go.bits .and .u64 (a0 / 2) 6148914691236517205) + (Go.bits .and .u64 a0 6148914691236517205))) 3689348814741910323))) / 16) + (IntKind.u64.wrap ((Go.bits .and .u64 ((IntKind.u64.wrap ((Go.bits .and .u64 (a0 / 2) 6148914691236517205) + (Go.bits .and .u64 a0 6148914691236517205))) / 4) 3689348814741910323) + (Go.bits .and .u64 (IntKind.u64.wrap ((Go.bits .and .u64 (a0 / 2) 6148914691236517205) + (Go.bits .and .u64 a0 6148914691236517205))) 3689348814741910323))))) 1085102592571150095) / 256))) + ((IntKind.u64.wrap ((Go.bits .and .u64 (IntKind.u64.wrap (((IntKind.u64.wrap ((Go.bits .and .u64 ((IntKind.u64.wrap ((Go.bits .and .u64 (a0 / 2) 6148914691236517205) + (Go.bits .and .u64 a0 6148914691236517205))) / 4) 3689348814741910323) + (Go.bits .and .u64 (IntKind.u64.wrap ((Go.bits .and .u64 (a0 / 2) 6148914691236517205) + (Go.bits .and .u64 a0 6148914691236517205))) 3689348814741910323))) / 16) + (IntKind.u64.wrap ((Go.bits .and .u64 ((IntKind.u64.wrap ((Go.bits .and .u64 (a0 / 2) 6148914691236517205) + (Go.bits .and .u64 a0 6148914691236517205))) / 4) 3689348814741910323) + (Go.bits .and .u64 (IntKind.u64.wrap ((Go.bits .and .u64 (a0 / 2) 6148914691236517205) + (Go.bits .and .u64 a0 6148914691236517205))) 3689348814741910323))))) 1085102592571150095) + ((Go.bits .and .u64 (IntKind.u64.wrap (((IntKind.u64.wrap ((Go.bits .and .u64 ((IntKind.u64.wrap ((Go.bits .and .u64 (a0 / 2) 6148914691236517205) + (Go.bits .and .u64 a0 6148914691236517205))) / 4) 3689348814741910323) + (Go.bits .and .u64 (IntKind.u64.wrap ((Go.bits .and .u64 (a0 / 2) 6148914691236517205) + (Go.bits .and .u64 a0 6148914691236517205))) 3689348814741910323))) / 16) + (IntKind.u64.wrap ((Go.bits .and .u64 ((IntKind.u64.wrap ((Go.bits .and .u64 (a0 / 2) 6148914691236517205) + (Go.bits .and .u64 a0 6148914691236517205))) / 4) 3689348814741910323) + (Go.bits .and .u64 (IntKind.u64.wrap ((Go.bits .and .u64 (a0 / 2) 6148914691236517205) + (Go.bits .and .u64 a0 6148914691236517205))) 3689348814741910323))))) 1085102592571150095) / 256))) / 65536))) / 4294967296)))) 127)
theorem bits_OnesCount64.calls (a0:Int) (r:Int) (w:World) (h:bits_OnesCount64.f a0 = some r) :
  Calls Tryz.prog 70 #[.int .u64 a0] w fun e w'=>e = .returned (.int .i64 r) ∧ Drawn0 w w':=by
 have H:(some (Go.bits .and .i64 (wrap64 (IntKind.u64.wrap ((IntKind.u64.wrap ((IntKind.u64.wrap ((Go.bits .and .u64 (IntKind.u64.wrap (((IntKind.u64.wrap ((Go.bits .and .u64 ((IntKind.u64.wrap ((Go.bits .and .u64 (a0 / 2) 6148914691236517205) + (Go.bits .and .u64 a0 6148914691236517205))) / 4) 3689348814741910323) + (Go.bits .and .u64 (IntKind.u64.wrap ((Go.bits .and .u64 (a0 / 2) 6148914691236517205) + (Go.bits .and .u64 a0 6148914691236517205))) 3689348814741910323))) / 16) + (IntKind.u64.wrap ((Go.bits .and .u64 ((IntKind.u64.wrap ((Go.bits .and .u64 (a0 / 2) 6148914691236517205) + (Go.bits .and .u64 a0 6148914691236517205))) / 4) 3689348814741910323) + (Go.bits .and .u64 (IntKind.u64.wrap ((Go.bits .and .u64 (a0 / 2) 6148914691236517205) + (Go.bits .and .u64 a0 6148914691236517205))) 3689348814741910323))))) 1085102592571150095) + ((Go.bits .and .u64 (IntKind.u64.wrap (((IntKind.u64.wrap ((Go.bits .and .u64 ((IntKind.u64.wrap ((Go.bits .and .u64 (a0 / 2) 6148914691236517205) + (Go.bits .and .u64 a0 6148914691236517205))) / 4) 3689348814741910323) + (Go.bits .and .u64 (IntKind.u64.wrap ((Go.bits .and .u64 (a0 / 2) 6148914691236517205) + (Go.bits .and .u64 a0 6148914691236517205))) 3689348814741910323))) / 16) + (IntKind.u64.wrap ((Go.bits .and .u64 ((IntKind.u64.wrap ((Go.bits .and .u64 (a0 / 2) 6148914691236517205) + (Go.bits .and .u64 a0 6148914691236517205))) / 4) 3689348814741910323) + (Go.bits .and .u64 (IntKind.u64.wrap ((Go.bits .and .u64 (a0 / 2) 6148914691236517205) + (Go.bits .and .u64 a0 6148914691236517205))) 3689348814741910323))))) 1085102592571150095) / 256))) + ((IntKind.u64.wrap ((Go.bits .and .u64 (IntKind.u64.wrap (((IntKind.u64.wrap ((Go.bits .and .u64 ((IntKind.u64.wrap ((Go.bits .and .u64 (a0 / 2) 6148914691236517205) + (Go.bits .and .u64 a0 6148914691236517205))) / 4) 3689348814741910323) + (Go.bits .and .u64 (IntKind.u64.wrap ((Go.bits .and .u64 (a0 / 2) 6148914691236517205) + (Go.bits .and .u64 a0 6148914691236517205))) 3689348814741910323))) / 16) + (IntKind.u64.wrap ((Go.bits .and .u64 ((IntKind.u64.wrap ((Go.bits .and .u64 (a0 / 2) 6148914691236517205) + (Go.bits .and .u64 a0 6148914691236517205))) / 4) 3689348814741910323) + (Go.bits .and .u64 (IntKind.u64.wrap ((Go.bits .and .u64 (a0 / 2) 6148914691236517205) + (Go.bits .and .u64 a0 6148914691236517205))) 3689348814741910323))))) 1085102592571150095) + ((Go.bits .and .u64 (IntKind.u64.wrap (((IntKind.u64.wrap ((Go.bits .and .u64 ((IntKind.u64.wrap ((Go.bits .and .u64 (a0 / 2) 6148914691236517205) + (Go.bits .and .u64 a0 6148914691236517205))) / 4) 3689348814741910323) + (Go.bits .and .u64 (IntKind.u64.wrap ((Go.bits .and .u64 (a0 / 2) 6148914691236517205) + (Go.bits .and .u64 a0 6148914691236517205))) 3689348814741910323))) / 16) + (IntKind.u64.wrap ((Go.bits .and .u64 ((IntKind.u64.wrap ((Go.bits .and .u64 (a0 / 2) 6148914691236517205) + (Go.bits .and .u64 a0 6148914691236517205))) / 4) 3689348814741910323) + (Go.bits .and .u64 (IntKind.u64.wrap ((Go.bits .and .u64 (a0 / 2) 6148914691236517205) + (Go.bits .and .u64 a0 6148914691236517205))) 3689348814741910323))))) 1085102592571150095) / 256))) / 65536))) + ((IntKind.u64.wrap ((IntKind.u64.wrap ((Go.bits .and .u64 (IntKind.u64.wrap (((IntKind.u64.wrap ((Go.bits .and .u64 ((IntKind.u64.wrap ((Go.bits .and .u64 (a0 / 2) 6148914691236517205) + (Go.bits .and .u64 a0 6148914691236517205))) / 4) 3689348814741910323) + (Go.bits .and .u64 (IntKind.u64.wrap ((Go.bits .and .u64 (a0 / 2) 6148914691236517205) + (Go.bits .and .u64 a0 6148914691236517205))) 3689348814741910323))) / 16) + (IntKind.u64.wrap ((Go.bits .and .u64 ((IntKind.u64.wrap ((Go.bits .and .u64 (a0 / 2) 6148914691236517205) + (Go.bits .and .u64 a0 6148914691236517205))) / 4) 3689348814741910323) + (Go.bits .and .u64 (IntKind.u64.wrap ((Go.bits .and .u64 (a0 / 2) 6148914691236517205) + (Go.bits .and .u64 a0 6148914691236517205))) 3689348814741910323))))) 1085102592571150095) + ((Go.bits .and .u64 (IntKind.u64.wrap (((IntKind.u64.wrap ((Go.bits .and .u64 ((IntKind.u64.wrap ((Go.bits .and .u64 (a0 / 2) 6148914691236517205) + (Go.bits .and .u64 a0 6148914691236517205))) / 4) 3689348814741910323) + (Go.bits .and .u64 (IntKind.u64.wrap ((Go.bits .and .u64 (a0 / 2) 6148914691236517205) + (Go.bits .and .u64 a0 6148914691236517205))) 3689348814741910323))) / 16) + (IntKind.u64.wrap ((Go.bits .and .u64 ((IntKind.u64.wrap ((Go.bits .and .u64 (a0 / 2) 6148914691236517205) + (Go.bits .and .u64 a0 6148914691236517205))) / 4) 3689348814741910323) + (Go.bits .and .u64 (IntKind.u64.wrap ((Go.bits .and .u64 (a0 / 2) 6148914691236517205) + (Go.bits .and .u64 a0 6148914691236517205))) 3689348814741910323))))) 1085102592571150095) / 256))) + ((IntKind.u64.wrap ((Go.bits .and .u64 (IntKind.u64.wrap (((IntKind.u64.wrap ((Go.bits .and .u64 ((IntKind.u64.wrap ((Go.bits .and .u64 (a0 / 2) 6148914691236517205) + (Go.bits .and .u64 a0 6148914691236517205))) / 4) 3689348814741910323) + (Go.bits .and .u64 (IntKind.u64.wrap ((Go.bits .and .u64 (a0 / 2) 6148914691236517205) + (Go.bits .and .u64 a0 6148914691236517205))) 3689348814741910323))) / 16) + (IntKind.u64.wrap ((Go.bits .and .u64 ((IntKind.u64.wrap ((Go.bits .and .u64 (a0 / 2) 6148914691236517205) + (Go.bits .and .u64 a0 6148914691236517205))) / 4) 3689348814741910323) + (Go.bits .and .u64 (IntKind.u64.wrap ((Go.bits .and .u64 (a0 / 2) 6148914691236517205) + (Go.bits .and .u64 a0 6148914691236517205))) 3689348814741910323))))) 1085102592571150095) + ((Go.bits .and .u64 (IntKind.u64.wrap (((IntKind.u64.wrap ((Go.bits .and .u64 ((IntKind.u64.wrap ((Go.bits .and .u64 (a0 / 2) 6148914691236517205) + (Go.bits .and .u64 a0 6148914691236517205))) / 4) 3689348814741910323) + (Go.bits .and .u64 (IntKind.u64.wrap ((Go.bits .and .u64 (a0 / 2) 6148914691236517205) + (Go.bits .and .u64 a0 6148914691236517205))) 3689348814741910323))) / 16) + (IntKind.u64.wrap ((Go.bits .and .u64 ((IntKind.u64.wrap ((Go.bits .and .u64 (a0 / 2) 6148914691236517205) + (Go.bits .and .u64 a0 6148914691236517205))) / 4) 3689348814741910323) + (Go.bits .and .u64 (IntKind.u64.wrap ((Go.bits .and .u64 (a0 / 2) 6148914691236517205) + (Go.bits .and .u64 a0 6148914691236517205))) 3689348814741910323))))) 1085102592571150095) / 256))) / 65536))) / 4294967296)))) 127)) = some r:=h
 clear h;obtain rfl:=Option.some.inj H;go_enter Tryz.func70,Tryz.ntmps70;go_wp2;go_ret;exact ⟨T11_,T29_⟩
end Go.Proofs.YtflacbjpeecjcabGreatDoor.F
namespace Go.Proofs.YtflacbjpeecjcabGreatDoor.F
attribute [local go_sem] max2_int min2_int max_two min_two max_three min_three max_four min_four 
def impl_ones.f (a0:Int):Option (Int):=(bits_OnesCount64.f (IntKind.u64.wrap (a0))).bind fun t101=>(some t101)
theorem impl_ones.calls (a0:Int) (r:Int) (w:World) (h:impl_ones.f a0 = some r) :
  Calls Tryz.prog 43 #[.int .i64 a0] w fun e w'=>e = .returned (.int .i64 r) ∧ Drawn0 w w':=by
 have H:((bits_OnesCount64.f (IntKind.u64.wrap (a0))).bind fun t101=>(some t101)) = some r:=h;clear h;replace H:=Option.bind_eq_some_iff.mp H;obtain ⟨t101,A20,H⟩:=H;replace H:(some t101) = some r:=H;have A2:=aZ_ A20;clear A20;obtain rfl:=Option.some.inj H;go_enter Tryz.func43,Tryz.ntmps43
 go_wp2_with (first | ((with_reducible refine gate_callee (f:=70) rfl ?_);refine goesL_ (some 5) rfl rfl Tryz.func70 T22_ rfl #[.int .u64 (IntKind.u64.wrap (a0))] rfl T4_ ?_;(with_reducible refine (bits_OnesCount64.calls (IntKind.u64.wrap (a0)) t101 _ A2.out).mono ?_);rintro e w' ⟨rfl,⟨nd,rfl⟩⟩;refine ⟨_,rfl,?_⟩))
 go_ret;exact ⟨T11_,T29_⟩
end Go.Proofs.YtflacbjpeecjcabGreatDoor.F
namespace Go.Proofs.YtflacbjpeecjcabGreatDoor.F
attribute [local go_sem] max2_int min2_int max_two min_two max_three min_three max_four min_four 
def impl_hasInput.f (a0_0:Int) (a0_1:Int) (a1:Int):Option (Bool):=(impl_IsTable.f a0_0 a0_1).bind fun t102=>(if t102 = true then ((impl_isInput.f a0_0 a1).bind fun t103=>(some t103)) else (some false))
theorem impl_hasInput.calls (a0_0:Int) (a0_1:Int) (a1:Int) (r:Bool) (w:World) (h:impl_hasInput.f a0_0 a0_1 a1 = some r) :
  Calls Tryz.prog 45 #[.agg #[.int .i64 a0_0,.int .i64 a0_1],.int .i64 a1] w fun e w'=>e = .returned (.bool r) ∧ Below w.heap.size w w':=by
 have hu25:=Tryz.underlying25;have HB:=aZ_ (Below.refl w.heap.size w);have H:((impl_IsTable.f a0_0 a0_1).bind fun t102=>(if t102 = true then ((impl_isInput.f a0_0 a1).bind fun t103=>(some t103)) else (some false))) = some r:=h;clear h;replace H:=Option.bind_eq_some_iff.mp H;obtain ⟨t102,A30,H⟩:=H;replace H:(if t102 = true then ((impl_isInput.f a0_0 a1).bind fun t103=>(some t103)) else (some false)) = some r:=H;have A3:=aZ_ A30;clear A30
 by_cases c4:t102 = true
 ·subst c4
  have H1:((impl_isInput.f a0_0 a1).bind fun t103=>(some t103)) = some r:=by rw [if_pos rfl] at H;exact H
  clear H;have H:=H1;clear H1;replace H:=Option.bind_eq_some_iff.mp H;obtain ⟨t103,A50,H⟩:=H;replace H:(some t103) = some r:=H;have A5:=aZ_ A50;clear A50;obtain rfl:=Option.some.inj H;go_enter Tryz.func45,Tryz.ntmps45
  go_wp2_with (first | ((with_reducible refine gate_dst (N:=2) rfl ?_);refine box_event ?hg (N:=2) ?hd (cs:=#[.int .i64 a0_0,.int .i64 a0_1]) (t:=25) ?hr ?_;(case hd=>rfl);(case hg=>rfl);(case hr=>exact T19_);intro gb101 hg w6 hbox hb;have BK101:=aZ_ (hbox);have GW101:=aZ_ ((T3_:w.heap.size ≤ gb101));have GE101:=aZ_ ((T3_:w.heap.size ≤ gb101));replace HB:=aZ_ (below_step T2_ hb);clear hb hbox hg;obtain ⟨⟨hcz7_0,hcz7_1⟩,hfz7_0,hfz7_1⟩:=bc2_ BK101.out) | ((with_reducible refine gate_callee (f:=32) rfl ?_);refine goesL_ (some 6) rfl rfl Tryz.func32 T22_ rfl #[.agg #[.int .i64 a0_0,.int .i64 a0_1]] rfl T4_ ?_;(with_reducible refine (impl_IsTable.calls a0_0 a0_1 true _ A3.out).mono ?_);rintro e w8 ⟨rfl,hb⟩;refine ⟨_,rfl,?_⟩;replace BK101:=aZ_ (blk_below (g:=gb101) (o:=.cells #[.int .i64 a0_0,.int .i64 a0_1] 25 (0,0)) T5_ hb);replace HB:=aZ_ (below_step T1_ hb);(try clear hb);obtain ⟨⟨hcz9_0,hcz9_1⟩,hfz9_0,hfz9_1⟩:=bc2_ BK101.out) | (go_at_call 44;(with_reducible refine (impl_isInput.calls a0_0 a1 t103 _ A5.out).mono ?_);rintro e w' ⟨rfl,⟨nd,rfl⟩⟩))
  go_ret;exact ⟨T13_,T1_⟩
 ·replace c4:=Bool.eq_false_iff.mpr c4
  subst c4;have H1:(some false) = some r:=by rw [if_neg (show ¬ (false = true) by decide)] at H;exact H
  clear H;have H:=H1;clear H1;obtain rfl:=Option.some.inj H;go_enter Tryz.func45,Tryz.ntmps45
  go_wp2_with (first | ((with_reducible refine gate_dst (N:=2) rfl ?_);refine box_event ?hg (N:=2) ?hd (cs:=#[.int .i64 a0_0,.int .i64 a0_1]) (t:=25) ?hr ?_;(case hd=>rfl);(case hg=>rfl);(case hr=>exact T19_);intro gb101 hg w10 hbox hb;have BK101:=aZ_ (hbox);have GW101:=aZ_ ((T3_:w.heap.size ≤ gb101));have GE101:=aZ_ ((T3_:w.heap.size ≤ gb101));replace HB:=aZ_ (below_step T2_ hb);clear hb hbox hg;obtain ⟨⟨hcz11_0,hcz11_1⟩,hfz11_0,hfz11_1⟩:=bc2_ BK101.out) | ((with_reducible refine gate_callee (f:=32) rfl ?_);refine goesL_ (some 6) rfl rfl Tryz.func32 T22_ rfl #[.agg #[.int .i64 a0_0,.int .i64 a0_1]] rfl T4_ ?_;(with_reducible refine (impl_IsTable.calls a0_0 a0_1 false _ A3.out).mono ?_);rintro e w12 ⟨rfl,hb⟩;refine ⟨_,rfl,?_⟩;replace BK101:=aZ_ (blk_below (g:=gb101) (o:=.cells #[.int .i64 a0_0,.int .i64 a0_1] 25 (0,0)) T5_ hb);replace HB:=aZ_ (below_step T1_ hb);(try clear hb)))
  go_ret;exact ⟨T13_,T1_⟩
end Go.Proofs.YtflacbjpeecjcabGreatDoor.F
