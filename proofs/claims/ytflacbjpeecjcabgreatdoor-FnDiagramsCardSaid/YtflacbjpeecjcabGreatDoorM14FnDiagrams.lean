/- Walks of Go functions and lemmas on what they compute, for the row of FnDiagrams (a part of several): each call ends as the Lean function of its name tells; the conditions are those of each theorem. -/
import Derived.Test.YtflacbjpeecjcabGreatDoorM12FnDiagrams
import Derived.Test.YtflacbjpeecjcabGreatDoorM13FnDiagrams
set_option linter.unusedVariables false
set_option linter.unusedSimpArgs false
set_option maxHeartbeats 16000000
set_option maxRecDepth 100000
open Go.RowKit Go.Proofs.YtflacbjpeecjcabGreatDoorW.PrintWords Go.Proofs.YtflacbjpeecjcabGreatDoorW.PrintLast Go.Proofs.YtflacbjpeecjcabGreatDoorW.PrintMore
namespace Go.Proofs.YtflacbjpeecjcabGreatDoor.F
attribute [local go_sem] max2_int min2_int max_two min_two max_three min_three max_four min_four 
mutual
def spec_FormatDiagram.l0:Nat → List (S56) → ByteArray → Int → Option (ByteArray)
 | 0,_,_,_=>none
 | k + 1,x0,x3,x4=>if x4 < (x0.length:Int) then (if 0 ≤ x4 then (if (x0.length:Int) > 31 then (spec_FormatDiagram.j1 k x0 x3 x4 true ((rd_T56 x0 x4).f0) ((rd_T56 x0 x4).f1) ((rd_T56 x0 x4).f2)) else ((spec_l1In.f ((rd_T56 x0 x4).f0) 0 4).bind fun t103=>(if t103 = true then ((spec_l1In.f ((rd_T56 x0 x4).f1) (-2) 30).bind fun t104=>(if t104 = true then ((spec_l1In.f ((rd_T56 x0 x4).f2) (-2) 30).bind fun t105=>(spec_FormatDiagram.j1 k x0 x3 x4 (!t105) ((rd_T56 x0 x4).f0) ((rd_T56 x0 x4).f1) ((rd_T56 x0 x4).f2))) else (spec_FormatDiagram.j1 k x0 x3 x4 true ((rd_T56 x0 x4).f0) ((rd_T56 x0 x4).f1) ((rd_T56 x0 x4).f2)))) else (spec_FormatDiagram.j1 k x0 x3 x4 true ((rd_T56 x0 x4).f0) ((rd_T56 x0 x4).f1) ((rd_T56 x0 x4).f2))))) else (none)) else (if x3.toList = ([]:List UInt8) then (some (⟨#[110,111,110,101]⟩:ByteArray)) else (some x3))
def spec_FormatDiagram.j1:Nat → List (S56) → ByteArray → Int → Bool → Int → Int → Int → Option (ByteArray)
 | 0,_,_,_,_,_,_,_=>none
 | k + 1,x0,x3,x4,x36,x103000,x103001,x103002=>if x36 = true then (some (⟨#[]⟩:ByteArray)) else (if x4 > 0 then (if x3.size + 1 ≤ 9223372036854775807 then (if 0 ≤ x103000 then (if x103000 ≤ (wrap64 (x103000 + 1)) then (if (wrap64 (x103000 + 1)) ≤ 5 then (if (x3 ++ (⟨#[32]⟩:ByteArray)).size + ((⟨#[97,98,99,100,101]⟩:ByteArray).extract (x103000:Int).toNat ((wrap64 (x103000 + 1)):Int).toNat).size ≤ 9223372036854775807 then ((spec_FormatInt.f k x103001).bind fun t106=>(if ((x3 ++ (⟨#[32]⟩:ByteArray)) ++ ((⟨#[97,98,99,100,101]⟩:ByteArray).extract (x103000:Int).toNat ((wrap64 (x103000 + 1)):Int).toNat)).size + t106.size ≤ 9223372036854775807 then (if (((x3 ++ (⟨#[32]⟩:ByteArray)) ++ ((⟨#[97,98,99,100,101]⟩:ByteArray).extract (x103000:Int).toNat ((wrap64 (x103000 + 1)):Int).toNat)) ++ t106).size + 1 ≤ 9223372036854775807 then ((spec_FormatInt.f k x103002).bind fun t107=>(if ((((x3 ++ (⟨#[32]⟩:ByteArray)) ++ ((⟨#[97,98,99,100,101]⟩:ByteArray).extract (x103000:Int).toNat ((wrap64 (x103000 + 1)):Int).toNat)) ++ t106) ++ (⟨#[44]⟩:ByteArray)).size + t107.size ≤ 9223372036854775807 then (spec_FormatDiagram.l0 k x0 (((((x3 ++ (⟨#[32]⟩:ByteArray)) ++ ((⟨#[97,98,99,100,101]⟩:ByteArray).extract (x103000:Int).toNat ((wrap64 (x103000 + 1)):Int).toNat)) ++ t106) ++ (⟨#[44]⟩:ByteArray)) ++ t107) (wrap64 (x4 + 1))) else (none))) else (none)) else (none))) else (none)) else (none)) else (none)) else (none)) else (none)) else (if 0 ≤ x103000 then (if x103000 ≤ (wrap64 (x103000 + 1)) then (if (wrap64 (x103000 + 1)) ≤ 5 then (if x3.size + ((⟨#[97,98,99,100,101]⟩:ByteArray).extract (x103000:Int).toNat ((wrap64 (x103000 + 1)):Int).toNat).size ≤ 9223372036854775807 then ((spec_FormatInt.f k x103001).bind fun t108=>(if (x3 ++ ((⟨#[97,98,99,100,101]⟩:ByteArray).extract (x103000:Int).toNat ((wrap64 (x103000 + 1)):Int).toNat)).size + t108.size ≤ 9223372036854775807 then (if ((x3 ++ ((⟨#[97,98,99,100,101]⟩:ByteArray).extract (x103000:Int).toNat ((wrap64 (x103000 + 1)):Int).toNat)) ++ t108).size + 1 ≤ 9223372036854775807 then ((spec_FormatInt.f k x103002).bind fun t109=>(if (((x3 ++ ((⟨#[97,98,99,100,101]⟩:ByteArray).extract (x103000:Int).toNat ((wrap64 (x103000 + 1)):Int).toNat)) ++ t108) ++ (⟨#[44]⟩:ByteArray)).size + t109.size ≤ 9223372036854775807 then (spec_FormatDiagram.l0 k x0 ((((x3 ++ ((⟨#[97,98,99,100,101]⟩:ByteArray).extract (x103000:Int).toNat ((wrap64 (x103000 + 1)):Int).toNat)) ++ t108) ++ (⟨#[44]⟩:ByteArray)) ++ t109) (wrap64 (x4 + 1))) else (none))) else (none)) else (none))) else (none)) else (none)) else (none)) else (none)))
end
def spec_FormatDiagram.f (k:Nat) (l0:List (S56)):Option (ByteArray):=spec_FormatDiagram.l0 k l0 (⟨#[]⟩:ByteArray) 0
def spec_FormatDiagram.T10:Bool × List (List Nat × List Nat):=(true,[([],[]),([],[]),([1],[1]),([],[]),([3],[3]),([4],[4]),([2,5],[2,5]),([0,6],[0,6]),([],[]),([8],[8]),([9],[9]),([7,10],[7,10]),([11],[11]),([],[]),([13],[13]),([14,10],[14]),([12,15],[12,15]),([16,15,0,1,2,3,4,5,6,7,8,9,10,11,12,13,14,15,16],[0,16])])
def spec_FormatDiagram.B10:List Nat:=[0,0,2,0,8,24,62,127,0,256,768,2047,4095,0,8192,26368,65535,131071]
theorem spec_FormatDiagram.tab10:rtab .any (opsOf Tryz.f30 10) = spec_FormatDiagram.T10:=by kernel_rfl
theorem spec_FormatDiagram.bits10:waitsOk spec_FormatDiagram.T10.2 spec_FormatDiagram.B10 = true:=by kernel_rfl
theorem spec_FormatDiagram.calls (k:Nat) (A0:Option Addr) (c0:Nat) (l0:List (S56)) (r:ByteArray) (w:World) (hr0:Kd.C k56 w A0 l0.length l0) (hc0:l0.length ≤ c0) (h:spec_FormatDiagram.f k l0 = some r) :
  Calls Tryz.prog 30 #[.slice A0 l0.length c0] w fun e w'=>e = .returned (.string r) ∧ Below w.heap.size w w':=by
 have hu56:=Tryz.underlying56;have HR0:=aZ_ hr0;have HC0:=aZ_ hc0;clear hr0 hc0;have HB:=aZ_ (Below.refl w.heap.size w);have H:(spec_FormatDiagram.l0 k l0 (⟨#[]⟩:ByteArray) 0) = some r:=h;clear h;have H':=aZ_ H;clear H;go_enter Tryz.func30,Tryz.ntmps30;go_wp2
 go_loopg [3,4] k (fun kq v3 v4 w'=>∃ (x3_1:ByteArray) (x4_1:Int),v3 = .string x3_1 ∧ v4 = .int .i64 x4_1 ∧ Aside0 (spec_FormatDiagram.l0 kq l0 x3_1 x4_1 = some r) ∧ Aside0 (kq ≤ k) ∧ Aside0 (Below w.heap.size w w'))
 case atStart=>exact ⟨((⟨#[]⟩:ByteArray)),(0),T11_,T11_,H',⟨Nat.le_refl _⟩,⟨T2_⟩⟩
 case round =>
  clear H';obtain ⟨x3_1,x4_1,rfl,rfl,HA,HK1,HB⟩:=hrel
  cases gk with
  | zero=>exact absurd HA.out (by simp [spec_FormatDiagram.l0])
  | succ k1 =>
   have H:=HA.out;clear HA;simp only [spec_FormatDiagram.l0] at H
   by_cases c2:x4_1 < (l0.length:Int)
   ·rw [if_pos c2] at H
    have c2b0:decide (x4_1 < (l0.length:Int)) = true:=decide_eq_true c2;clear c2
    by_cases c3:0 ≤ x4_1
    ·rw [if_pos c3] at H
     have c3b0:decide (0 ≤ x4_1) = true:=decide_eq_true c3;clear c3;have HC4:=aZ_ H;clear H;have p101:0 ≤ (x4_1:Int):=of_decide_eq_true T14_;have q101:x4_1 < (l0.length:Int):=of_decide_eq_true T14_;obtain ⟨ad101,e101,hx101_0,hx101_1,hx101_2⟩:=at_T56 HR0.out x4_1 p101 q101
     cases e101
     replace hx101_0:=(HB.out.cell (World.block_lt_of_cell? w _ hx101_0)).trans hx101_0;replace hx101_1:=(HB.out.cell (World.block_lt_of_cell? w _ hx101_1)).trans hx101_1;replace hx101_2:=(HB.out.cell (World.block_lt_of_cell? w _ hx101_2)).trans hx101_2;replace p101:=eq_true p101;replace q101:=eq_true q101
     go_upto_region 6 with (first | ((with_reducible refine gate_dst (N:=5) rfl ?_);refine box_event ?hg (N:=5) ?hd (cs:=#[.int .i64 0,.int .i64 0,.int .i64 0]) (t:=56) ?hr ?_;(case hd=>rfl);(case hg=>rfl);(case hr=>exact T19_);intro gb102 hg w5 hbox hb;have BK102:=aZ_ (hbox);have GW102:=aZ_ ((T3_:w.heap.size ≤ gb102));have GE102:=aZ_ ((T3_:w.heap.size ≤ gb102));replace HB:=aZ_ (below_step T2_ hb);clear hb hbox hg;obtain ⟨⟨hcz6_0,hcz6_1,hcz6_2⟩,hfz6_0,hfz6_1,hfz6_2⟩:=bc3_ BK102.out))
     (try simp only [Act.put,List.setIfInBounds_toArray,List.set_cons_zero,List.set_cons_succ])
     go_cut [36] (fun v36 wc=>∃ (kq:Nat) (x36_3:Bool),v36 = .bool x36_3 ∧ Aside0 (spec_FormatDiagram.j1 kq l0 x3_1 x4_1 x36_3 ((rd_T56 l0 x4_1).f0) ((rd_T56 l0 x4_1).f1) ((rd_T56 l0 x4_1).f2) = some r) ∧ Aside0 (kq ≤ k1) ∧ Aside0 (wc.heap[gb102]? = some (.cells #[.int .i64 ((rd_T56 l0 x4_1).f0),.int .i64 ((rd_T56 l0 x4_1).f1),.int .i64 ((rd_T56 l0 x4_1).f2)] 56 (0,0))) ∧ Aside0 (Below w.heap.size w wc))
     case first =>
      have H:=HC4.out;clear HC4
      by_cases c7:(l0.length:Int) > 31
      ·rw [if_pos c7] at H
       have c7b0:decide (31 < (l0.length:Int)) = true:=decide_eq_true c7;have c7b1:decide (31 < l0.length) = true:=decide_eq_true T73_;clear c7
       (first | rw [c7b0] | (simp only [i64_w,i32_w];rw [c7b0]) | skip)
       have H':=aZ_ H;clear H;go_wp2;go_meet
       case rel=>exact ⟨_,(true),T11_,H',⟨T113_⟩,⟨by (with_reducible repeat (first | refine blk_drewN ?_ _ | refine blk_drew ?_ | refine blk_alloc ?_ _));refine blk_put (cs:=#[.int .i64 ((rd_T56 l0 x4_1).f0),.int .i64 ((rd_T56 l0 x4_1).f1),.int .i64 0]) ?_ 2 _ rfl;(with_reducible repeat (first | refine blk_drewN ?_ _ | refine blk_drew ?_ | refine blk_alloc ?_ _));refine blk_put (cs:=#[.int .i64 ((rd_T56 l0 x4_1).f0),.int .i64 0,.int .i64 0]) ?_ 1 _ rfl;(with_reducible repeat (first | refine blk_drewN ?_ _ | refine blk_drew ?_ | refine blk_alloc ?_ _));refine blk_put (cs:=#[.int .i64 0,.int .i64 0,.int .i64 0]) ?_ 0 _ rfl;(with_reducible repeat (first | refine blk_drewN ?_ _ | refine blk_drew ?_ | refine blk_alloc ?_ _));exact BK102.out⟩,⟨T41_⟩⟩
      ·rw [if_neg c7] at H
       have c7b0:decide (31 < (l0.length:Int)) = false:=decide_eq_false c7;have c7b1:decide (31 < l0.length) = false:=decide_eq_false T73_;clear c7
       (first | rw [c7b0] | (simp only [i64_w,i32_w];rw [c7b0]) | skip)
       replace H:=Option.bind_eq_some_iff.mp H;obtain ⟨t103,A80,H⟩:=H;replace H:(if t103 = true then ((spec_l1In.f ((rd_T56 l0 x4_1).f1) (-2) 30).bind fun t104=>(if t104 = true then ((spec_l1In.f ((rd_T56 l0 x4_1).f2) (-2) 30).bind fun t105=>(spec_FormatDiagram.j1 k1 l0 x3_1 x4_1 (!t105) ((rd_T56 l0 x4_1).f0) ((rd_T56 l0 x4_1).f1) ((rd_T56 l0 x4_1).f2))) else (spec_FormatDiagram.j1 k1 l0 x3_1 x4_1 true ((rd_T56 l0 x4_1).f0) ((rd_T56 l0 x4_1).f1) ((rd_T56 l0 x4_1).f2)))) else (spec_FormatDiagram.j1 k1 l0 x3_1 x4_1 true ((rd_T56 l0 x4_1).f0) ((rd_T56 l0 x4_1).f1) ((rd_T56 l0 x4_1).f2))) = some r:=H;have A8:=aZ_ A80;clear A80
       by_cases c9:t103 = true
       ·subst c9
        have H1:((spec_l1In.f ((rd_T56 l0 x4_1).f1) (-2) 30).bind fun t104=>(if t104 = true then ((spec_l1In.f ((rd_T56 l0 x4_1).f2) (-2) 30).bind fun t105=>(spec_FormatDiagram.j1 k1 l0 x3_1 x4_1 (!t105) ((rd_T56 l0 x4_1).f0) ((rd_T56 l0 x4_1).f1) ((rd_T56 l0 x4_1).f2))) else (spec_FormatDiagram.j1 k1 l0 x3_1 x4_1 true ((rd_T56 l0 x4_1).f0) ((rd_T56 l0 x4_1).f1) ((rd_T56 l0 x4_1).f2)))) = some r:=by rw [if_pos rfl] at H;exact H
        clear H;have H:=H1;clear H1;replace H:=Option.bind_eq_some_iff.mp H;obtain ⟨t104,A100,H⟩:=H;replace H:(if t104 = true then ((spec_l1In.f ((rd_T56 l0 x4_1).f2) (-2) 30).bind fun t105=>(spec_FormatDiagram.j1 k1 l0 x3_1 x4_1 (!t105) ((rd_T56 l0 x4_1).f0) ((rd_T56 l0 x4_1).f1) ((rd_T56 l0 x4_1).f2))) else (spec_FormatDiagram.j1 k1 l0 x3_1 x4_1 true ((rd_T56 l0 x4_1).f0) ((rd_T56 l0 x4_1).f1) ((rd_T56 l0 x4_1).f2))) = some r:=H;have A10:=aZ_ A100;clear A100
        by_cases c11:t104 = true
        ·subst c11
         have H1:((spec_l1In.f ((rd_T56 l0 x4_1).f2) (-2) 30).bind fun t105=>(spec_FormatDiagram.j1 k1 l0 x3_1 x4_1 (!t105) ((rd_T56 l0 x4_1).f0) ((rd_T56 l0 x4_1).f1) ((rd_T56 l0 x4_1).f2))) = some r:=by rw [if_pos rfl] at H;exact H
         clear H;have H:=H1;clear H1;replace H:=Option.bind_eq_some_iff.mp H;obtain ⟨t105,A120,H⟩:=H;replace H:(spec_FormatDiagram.j1 k1 l0 x3_1 x4_1 (!t105) ((rd_T56 l0 x4_1).f0) ((rd_T56 l0 x4_1).f1) ((rd_T56 l0 x4_1).f2)) = some r:=H;have A12:=aZ_ A120;clear A120;have H':=aZ_ H;clear H;obtain ⟨⟨hcz13_0,hcz13_1,hcz13_2⟩,hfz13_0,hfz13_1,hfz13_2⟩:=bc3_ BK102.out
         go_wp2_with (first | (go_at_call 54;(with_reducible refine (spec_l1In.calls ((rd_T56 l0 x4_1).f0) 0 4 true _ A8.out).mono ?_);rintro e w' ⟨rfl,⟨nd,rfl⟩⟩) | (go_at_call 54;(with_reducible refine (spec_l1In.calls ((rd_T56 l0 x4_1).f1) (-2) 30 true _ A10.out).mono ?_);rintro e w' ⟨rfl,⟨nd,rfl⟩⟩) | (go_at_call 54;(with_reducible refine (spec_l1In.calls ((rd_T56 l0 x4_1).f2) (-2) 30 t105 _ A12.out).mono ?_);rintro e w' ⟨rfl,⟨nd,rfl⟩⟩))
         go_meet
         case rel=>exact ⟨_,(!t105),T11_,H',⟨T113_⟩,⟨by (with_reducible repeat (first | refine blk_drewN ?_ _ | refine blk_drew ?_ | refine blk_alloc ?_ _));refine blk_put (cs:=#[.int .i64 ((rd_T56 l0 x4_1).f0),.int .i64 ((rd_T56 l0 x4_1).f1),.int .i64 0]) ?_ 2 _ rfl;(with_reducible repeat (first | refine blk_drewN ?_ _ | refine blk_drew ?_ | refine blk_alloc ?_ _));refine blk_put (cs:=#[.int .i64 ((rd_T56 l0 x4_1).f0),.int .i64 0,.int .i64 0]) ?_ 1 _ rfl;(with_reducible repeat (first | refine blk_drewN ?_ _ | refine blk_drew ?_ | refine blk_alloc ?_ _));refine blk_put (cs:=#[.int .i64 0,.int .i64 0,.int .i64 0]) ?_ 0 _ rfl;(with_reducible repeat (first | refine blk_drewN ?_ _ | refine blk_drew ?_ | refine blk_alloc ?_ _));exact BK102.out⟩,⟨T41_⟩⟩
        ·replace c11:=Bool.eq_false_iff.mpr c11
         subst c11;have H1:(spec_FormatDiagram.j1 k1 l0 x3_1 x4_1 true ((rd_T56 l0 x4_1).f0) ((rd_T56 l0 x4_1).f1) ((rd_T56 l0 x4_1).f2)) = some r:=by rw [if_neg (show ¬ (false = true) by decide)] at H;exact H
         clear H;have H:=H1;clear H1;have H':=aZ_ H;clear H;obtain ⟨⟨hcz14_0,hcz14_1,hcz14_2⟩,hfz14_0,hfz14_1,hfz14_2⟩:=bc3_ BK102.out
         go_wp2_with (first | (go_at_call 54;(with_reducible refine (spec_l1In.calls ((rd_T56 l0 x4_1).f0) 0 4 true _ A8.out).mono ?_);rintro e w' ⟨rfl,⟨nd,rfl⟩⟩) | (go_at_call 54;(with_reducible refine (spec_l1In.calls ((rd_T56 l0 x4_1).f1) (-2) 30 false _ A10.out).mono ?_);rintro e w' ⟨rfl,⟨nd,rfl⟩⟩))
         go_meet
         case rel=>exact ⟨_,(true),T11_,H',⟨T113_⟩,⟨by (with_reducible repeat (first | refine blk_drewN ?_ _ | refine blk_drew ?_ | refine blk_alloc ?_ _));refine blk_put (cs:=#[.int .i64 ((rd_T56 l0 x4_1).f0),.int .i64 ((rd_T56 l0 x4_1).f1),.int .i64 0]) ?_ 2 _ rfl;(with_reducible repeat (first | refine blk_drewN ?_ _ | refine blk_drew ?_ | refine blk_alloc ?_ _));refine blk_put (cs:=#[.int .i64 ((rd_T56 l0 x4_1).f0),.int .i64 0,.int .i64 0]) ?_ 1 _ rfl;(with_reducible repeat (first | refine blk_drewN ?_ _ | refine blk_drew ?_ | refine blk_alloc ?_ _));refine blk_put (cs:=#[.int .i64 0,.int .i64 0,.int .i64 0]) ?_ 0 _ rfl;(with_reducible repeat (first | refine blk_drewN ?_ _ | refine blk_drew ?_ | refine blk_alloc ?_ _));exact BK102.out⟩,⟨T41_⟩⟩
       ·replace c9:=Bool.eq_false_iff.mpr c9
        subst c9;have H1:(spec_FormatDiagram.j1 k1 l0 x3_1 x4_1 true ((rd_T56 l0 x4_1).f0) ((rd_T56 l0 x4_1).f1) ((rd_T56 l0 x4_1).f2)) = some r:=by rw [if_neg (show ¬ (false = true) by decide)] at H;exact H
        clear H;have H:=H1;clear H1;have H':=aZ_ H;clear H;obtain ⟨⟨hcz15_0,hcz15_1,hcz15_2⟩,hfz15_0,hfz15_1,hfz15_2⟩:=bc3_ BK102.out
        go_wp2_with (first | (go_at_call 54;(with_reducible refine (spec_l1In.calls ((rd_T56 l0 x4_1).f0) 0 4 false _ A8.out).mono ?_);rintro e w' ⟨rfl,⟨nd,rfl⟩⟩))
        go_meet
        case rel=>exact ⟨_,(true),T11_,H',⟨T113_⟩,⟨by (with_reducible repeat (first | refine blk_drewN ?_ _ | refine blk_drew ?_ | refine blk_alloc ?_ _));refine blk_put (cs:=#[.int .i64 ((rd_T56 l0 x4_1).f0),.int .i64 ((rd_T56 l0 x4_1).f1),.int .i64 0]) ?_ 2 _ rfl;(with_reducible repeat (first | refine blk_drewN ?_ _ | refine blk_drew ?_ | refine blk_alloc ?_ _));refine blk_put (cs:=#[.int .i64 ((rd_T56 l0 x4_1).f0),.int .i64 0,.int .i64 0]) ?_ 1 _ rfl;(with_reducible repeat (first | refine blk_drewN ?_ _ | refine blk_drew ?_ | refine blk_alloc ?_ _));refine blk_put (cs:=#[.int .i64 0,.int .i64 0,.int .i64 0]) ?_ 0 _ rfl;(with_reducible repeat (first | refine blk_drewN ?_ _ | refine blk_drew ?_ | refine blk_alloc ?_ _));exact BK102.out⟩,⟨T41_⟩⟩
     case rest =>
      clear HC4
      repeat (first | clear c1 | clear p1 | clear q1 | clear hx1 | clear c2 | clear c2b0 | clear p2 | clear c3 | clear c3b0 | clear c7 | clear c7b0 | clear c7b1 | clear c9 | clear p10 | clear q10 | clear hx10 | clear c11 | clear hcz13_0 | clear hcz13_1 | clear hcz13_2 | clear hcz14_0 | clear hcz14_1 | clear hcz14_2 | clear hcz15_0 | clear hcz15_1 | clear hcz15_2 | clear hcz6_0 | clear hcz6_1 | clear hcz6_2 | clear hfz13_0 | clear hfz13_1 | clear hfz13_2 | clear hfz14_0 | clear hfz14_1 | clear hfz14_2 | clear hfz15_0 | clear hfz15_1 | clear hfz15_2 | clear hfz6_0 | clear hfz6_1 | clear hfz6_2 | clear hx101_0 | clear hx101_1 | clear hx101_2 | clear p101 | clear q101)
      obtain ⟨kq,x36_3,rfl,HA,HJ3,BK102,HB⟩:=hcut
      cases kq with
      | zero=>exact absurd HA.out (by simp [spec_FormatDiagram.j1])
      | succ kj3 =>
       have H:=HA.out;clear HA;simp only [spec_FormatDiagram.j1] at H
       by_cases c16:x36_3 = true
       ·subst c16
        have H1:(some (⟨#[]⟩:ByteArray)) = some r:=by rw [if_pos rfl] at H;exact H
        clear H;have H:=H1;clear H1;obtain rfl:=Option.some.inj H;go_wp2;go_ret;exact ⟨T13_,T41_⟩
       ·replace c16:=Bool.eq_false_iff.mpr c16
        subst c16;have H1:(if x4_1 > 0 then (if x3_1.size + 1 ≤ 9223372036854775807 then (if 0 ≤ ((rd_T56 l0 x4_1).f0) then (if ((rd_T56 l0 x4_1).f0) ≤ (wrap64 (((rd_T56 l0 x4_1).f0) + 1)) then (if (wrap64 (((rd_T56 l0 x4_1).f0) + 1)) ≤ 5 then (if (x3_1 ++ (⟨#[32]⟩:ByteArray)).size + ((⟨#[97,98,99,100,101]⟩:ByteArray).extract (((rd_T56 l0 x4_1).f0):Int).toNat ((wrap64 (((rd_T56 l0 x4_1).f0) + 1)):Int).toNat).size ≤ 9223372036854775807 then ((spec_FormatInt.f kj3 ((rd_T56 l0 x4_1).f1)).bind fun t106=>(if ((x3_1 ++ (⟨#[32]⟩:ByteArray)) ++ ((⟨#[97,98,99,100,101]⟩:ByteArray).extract (((rd_T56 l0 x4_1).f0):Int).toNat ((wrap64 (((rd_T56 l0 x4_1).f0) + 1)):Int).toNat)).size + t106.size ≤ 9223372036854775807 then (if (((x3_1 ++ (⟨#[32]⟩:ByteArray)) ++ ((⟨#[97,98,99,100,101]⟩:ByteArray).extract (((rd_T56 l0 x4_1).f0):Int).toNat ((wrap64 (((rd_T56 l0 x4_1).f0) + 1)):Int).toNat)) ++ t106).size + 1 ≤ 9223372036854775807 then ((spec_FormatInt.f kj3 ((rd_T56 l0 x4_1).f2)).bind fun t107=>(if ((((x3_1 ++ (⟨#[32]⟩:ByteArray)) ++ ((⟨#[97,98,99,100,101]⟩:ByteArray).extract (((rd_T56 l0 x4_1).f0):Int).toNat ((wrap64 (((rd_T56 l0 x4_1).f0) + 1)):Int).toNat)) ++ t106) ++ (⟨#[44]⟩:ByteArray)).size + t107.size ≤ 9223372036854775807 then (spec_FormatDiagram.l0 kj3 l0 (((((x3_1 ++ (⟨#[32]⟩:ByteArray)) ++ ((⟨#[97,98,99,100,101]⟩:ByteArray).extract (((rd_T56 l0 x4_1).f0):Int).toNat ((wrap64 (((rd_T56 l0 x4_1).f0) + 1)):Int).toNat)) ++ t106) ++ (⟨#[44]⟩:ByteArray)) ++ t107) (wrap64 (x4_1 + 1))) else (none))) else (none)) else (none))) else (none)) else (none)) else (none)) else (none)) else (none)) else (if 0 ≤ ((rd_T56 l0 x4_1).f0) then (if ((rd_T56 l0 x4_1).f0) ≤ (wrap64 (((rd_T56 l0 x4_1).f0) + 1)) then (if (wrap64 (((rd_T56 l0 x4_1).f0) + 1)) ≤ 5 then (if x3_1.size + ((⟨#[97,98,99,100,101]⟩:ByteArray).extract (((rd_T56 l0 x4_1).f0):Int).toNat ((wrap64 (((rd_T56 l0 x4_1).f0) + 1)):Int).toNat).size ≤ 9223372036854775807 then ((spec_FormatInt.f kj3 ((rd_T56 l0 x4_1).f1)).bind fun t108=>(if (x3_1 ++ ((⟨#[97,98,99,100,101]⟩:ByteArray).extract (((rd_T56 l0 x4_1).f0):Int).toNat ((wrap64 (((rd_T56 l0 x4_1).f0) + 1)):Int).toNat)).size + t108.size ≤ 9223372036854775807 then (if ((x3_1 ++ ((⟨#[97,98,99,100,101]⟩:ByteArray).extract (((rd_T56 l0 x4_1).f0):Int).toNat ((wrap64 (((rd_T56 l0 x4_1).f0) + 1)):Int).toNat)) ++ t108).size + 1 ≤ 9223372036854775807 then ((spec_FormatInt.f kj3 ((rd_T56 l0 x4_1).f2)).bind fun t109=>(if (((x3_1 ++ ((⟨#[97,98,99,100,101]⟩:ByteArray).extract (((rd_T56 l0 x4_1).f0):Int).toNat ((wrap64 (((rd_T56 l0 x4_1).f0) + 1)):Int).toNat)) ++ t108) ++ (⟨#[44]⟩:ByteArray)).size + t109.size ≤ 9223372036854775807 then (spec_FormatDiagram.l0 kj3 l0 ((((x3_1 ++ ((⟨#[97,98,99,100,101]⟩:ByteArray).extract (((rd_T56 l0 x4_1).f0):Int).toNat ((wrap64 (((rd_T56 l0 x4_1).f0) + 1)):Int).toNat)) ++ t108) ++ (⟨#[44]⟩:ByteArray)) ++ t109) (wrap64 (x4_1 + 1))) else (none))) else (none)) else (none))) else (none)) else (none)) else (none)) else (none))) = some r:=by rw [if_neg (show ¬ (false = true) by decide)] at H;exact H
        clear H;have H:=H1;clear H1
        by_cases c17:x4_1 > 0
        ·rw [if_pos c17] at H
         have c17b0:decide (0 < x4_1) = true:=decide_eq_true c17;clear c17
         by_cases c18:x3_1.size + 1 ≤ 9223372036854775807
         ·rw [if_pos c18] at H
          have c18b0:=eq_true c18;have c18b1:decide (x3_1.size + 1 ≤ 9223372036854775807) = true:=decide_eq_true c18
          try have c18b2:(9223372036854775807 < x3_1.size + 1) = False:=eq_false (Nat.not_lt.2 c18)
          by_cases c19:0 ≤ ((rd_T56 l0 x4_1).f0)
          ·rw [if_pos c19] at H
           have c19b0:=eq_true c19;have c19b1:decide (0 ≤ ((rd_T56 l0 x4_1).f0)) = true:=decide_eq_true c19;clear c19
           by_cases c20:((rd_T56 l0 x4_1).f0) ≤ (wrap64 (((rd_T56 l0 x4_1).f0) + 1))
           ·rw [if_pos c20] at H
            have c20b0:=eq_true c20;have c20b1:decide (((rd_T56 l0 x4_1).f0) ≤ (wrap64 (((rd_T56 l0 x4_1).f0) + 1))) = true:=decide_eq_true c20
            by_cases c21:(wrap64 (((rd_T56 l0 x4_1).f0) + 1)) ≤ 5
            ·rw [if_pos c21] at H
             have c21b0:=eq_true c21;have c21b1:decide ((wrap64 (((rd_T56 l0 x4_1).f0) + 1)) ≤ 5) = true:=decide_eq_true c21
             by_cases c22:(x3_1 ++ (⟨#[32]⟩:ByteArray)).size + ((⟨#[97,98,99,100,101]⟩:ByteArray).extract (((rd_T56 l0 x4_1).f0):Int).toNat ((wrap64 (((rd_T56 l0 x4_1).f0) + 1)):Int).toNat).size ≤ 9223372036854775807
             ·rw [if_pos c22] at H
              have c22b0:=eq_true c22;have c22b1:decide ((x3_1 ++ (⟨#[32]⟩:ByteArray)).size + ((⟨#[97,98,99,100,101]⟩:ByteArray).extract (((rd_T56 l0 x4_1).f0):Int).toNat ((wrap64 (((rd_T56 l0 x4_1).f0) + 1)):Int).toNat).size ≤ 9223372036854775807) = true:=decide_eq_true c22
              try have c22b2:(9223372036854775807 < (x3_1 ++ (⟨#[32]⟩:ByteArray)).size + ((⟨#[97,98,99,100,101]⟩:ByteArray).extract (((rd_T56 l0 x4_1).f0):Int).toNat ((wrap64 (((rd_T56 l0 x4_1).f0) + 1)):Int).toNat).size) = False:=eq_false (Nat.not_lt.2 c22)
              replace H:=Option.bind_eq_some_iff.mp H;obtain ⟨t106,A230,H⟩:=H;replace H:(if ((x3_1 ++ (⟨#[32]⟩:ByteArray)) ++ ((⟨#[97,98,99,100,101]⟩:ByteArray).extract (((rd_T56 l0 x4_1).f0):Int).toNat ((wrap64 (((rd_T56 l0 x4_1).f0) + 1)):Int).toNat)).size + t106.size ≤ 9223372036854775807 then (if (((x3_1 ++ (⟨#[32]⟩:ByteArray)) ++ ((⟨#[97,98,99,100,101]⟩:ByteArray).extract (((rd_T56 l0 x4_1).f0):Int).toNat ((wrap64 (((rd_T56 l0 x4_1).f0) + 1)):Int).toNat)) ++ t106).size + 1 ≤ 9223372036854775807 then ((spec_FormatInt.f kj3 ((rd_T56 l0 x4_1).f2)).bind fun t107=>(if ((((x3_1 ++ (⟨#[32]⟩:ByteArray)) ++ ((⟨#[97,98,99,100,101]⟩:ByteArray).extract (((rd_T56 l0 x4_1).f0):Int).toNat ((wrap64 (((rd_T56 l0 x4_1).f0) + 1)):Int).toNat)) ++ t106) ++ (⟨#[44]⟩:ByteArray)).size + t107.size ≤ 9223372036854775807 then (spec_FormatDiagram.l0 kj3 l0 (((((x3_1 ++ (⟨#[32]⟩:ByteArray)) ++ ((⟨#[97,98,99,100,101]⟩:ByteArray).extract (((rd_T56 l0 x4_1).f0):Int).toNat ((wrap64 (((rd_T56 l0 x4_1).f0) + 1)):Int).toNat)) ++ t106) ++ (⟨#[44]⟩:ByteArray)) ++ t107) (wrap64 (x4_1 + 1))) else (none))) else (none)) else (none)) = some r:=H;have A23:=aZ_ A230;clear A230
              by_cases c24:((x3_1 ++ (⟨#[32]⟩:ByteArray)) ++ ((⟨#[97,98,99,100,101]⟩:ByteArray).extract (((rd_T56 l0 x4_1).f0):Int).toNat ((wrap64 (((rd_T56 l0 x4_1).f0) + 1)):Int).toNat)).size + t106.size ≤ 9223372036854775807
              ·rw [if_pos c24] at H
               have c24b0:=eq_true c24;have c24b1:decide (((x3_1 ++ (⟨#[32]⟩:ByteArray)) ++ ((⟨#[97,98,99,100,101]⟩:ByteArray).extract (((rd_T56 l0 x4_1).f0):Int).toNat ((wrap64 (((rd_T56 l0 x4_1).f0) + 1)):Int).toNat)).size + t106.size ≤ 9223372036854775807) = true:=decide_eq_true c24
               try have c24b2:(9223372036854775807 < ((x3_1 ++ (⟨#[32]⟩:ByteArray)) ++ ((⟨#[97,98,99,100,101]⟩:ByteArray).extract (((rd_T56 l0 x4_1).f0):Int).toNat ((wrap64 (((rd_T56 l0 x4_1).f0) + 1)):Int).toNat)).size + t106.size) = False:=eq_false (Nat.not_lt.2 c24)
               by_cases c25:(((x3_1 ++ (⟨#[32]⟩:ByteArray)) ++ ((⟨#[97,98,99,100,101]⟩:ByteArray).extract (((rd_T56 l0 x4_1).f0):Int).toNat ((wrap64 (((rd_T56 l0 x4_1).f0) + 1)):Int).toNat)) ++ t106).size + 1 ≤ 9223372036854775807
               ·rw [if_pos c25] at H
                have c25b0:=eq_true c25;have c25b1:decide ((((x3_1 ++ (⟨#[32]⟩:ByteArray)) ++ ((⟨#[97,98,99,100,101]⟩:ByteArray).extract (((rd_T56 l0 x4_1).f0):Int).toNat ((wrap64 (((rd_T56 l0 x4_1).f0) + 1)):Int).toNat)) ++ t106).size + 1 ≤ 9223372036854775807) = true:=decide_eq_true c25
                try have c25b2:(9223372036854775807 < (((x3_1 ++ (⟨#[32]⟩:ByteArray)) ++ ((⟨#[97,98,99,100,101]⟩:ByteArray).extract (((rd_T56 l0 x4_1).f0):Int).toNat ((wrap64 (((rd_T56 l0 x4_1).f0) + 1)):Int).toNat)) ++ t106).size + 1) = False:=eq_false (Nat.not_lt.2 c25)
                replace H:=Option.bind_eq_some_iff.mp H;obtain ⟨t107,A260,H⟩:=H;replace H:(if ((((x3_1 ++ (⟨#[32]⟩:ByteArray)) ++ ((⟨#[97,98,99,100,101]⟩:ByteArray).extract (((rd_T56 l0 x4_1).f0):Int).toNat ((wrap64 (((rd_T56 l0 x4_1).f0) + 1)):Int).toNat)) ++ t106) ++ (⟨#[44]⟩:ByteArray)).size + t107.size ≤ 9223372036854775807 then (spec_FormatDiagram.l0 kj3 l0 (((((x3_1 ++ (⟨#[32]⟩:ByteArray)) ++ ((⟨#[97,98,99,100,101]⟩:ByteArray).extract (((rd_T56 l0 x4_1).f0):Int).toNat ((wrap64 (((rd_T56 l0 x4_1).f0) + 1)):Int).toNat)) ++ t106) ++ (⟨#[44]⟩:ByteArray)) ++ t107) (wrap64 (x4_1 + 1))) else (none)) = some r:=H;have A26:=aZ_ A260;clear A260
                by_cases c27:((((x3_1 ++ (⟨#[32]⟩:ByteArray)) ++ ((⟨#[97,98,99,100,101]⟩:ByteArray).extract (((rd_T56 l0 x4_1).f0):Int).toNat ((wrap64 (((rd_T56 l0 x4_1).f0) + 1)):Int).toNat)) ++ t106) ++ (⟨#[44]⟩:ByteArray)).size + t107.size ≤ 9223372036854775807
                ·rw [if_pos c27] at H
                 have c27b0:=eq_true c27;have c27b1:decide (((((x3_1 ++ (⟨#[32]⟩:ByteArray)) ++ ((⟨#[97,98,99,100,101]⟩:ByteArray).extract (((rd_T56 l0 x4_1).f0):Int).toNat ((wrap64 (((rd_T56 l0 x4_1).f0) + 1)):Int).toNat)) ++ t106) ++ (⟨#[44]⟩:ByteArray)).size + t107.size ≤ 9223372036854775807) = true:=decide_eq_true c27
                 try have c27b2:(9223372036854775807 < ((((x3_1 ++ (⟨#[32]⟩:ByteArray)) ++ ((⟨#[97,98,99,100,101]⟩:ByteArray).extract (((rd_T56 l0 x4_1).f0):Int).toNat ((wrap64 (((rd_T56 l0 x4_1).f0) + 1)):Int).toNat)) ++ t106) ++ (⟨#[44]⟩:ByteArray)).size + t107.size) = False:=eq_false (Nat.not_lt.2 c27)
                 have H':=aZ_ H;clear H
                 try go_wp2
                 replace BK102:=aZ_ (blk_drew BK102.out);replace HB:=aZ_ (below_drew1 HB.out);refine start_ (n:=18) (S:=fun w'=>w'.cell? ⟨gb102,0,none⟩ = some (.int .i64 ((rd_T56 l0 x4_1).f0)) ∧ w'.cell? ⟨gb102,1,none⟩ = some (.int .i64 ((rd_T56 l0 x4_1).f1)) ∧ w'.cell? ⟨gb102,2,none⟩ = some (.int .i64 ((rd_T56 l0 x4_1).f2))) (ds:=[]) (bA 18 0) T22_ rfl rfl ⟨(blk_cell BK102.out 0).trans rfl,(blk_cell BK102.out 1).trans rfl,(blk_cell BK102.out 2).trans rfl⟩ (fun hHeld=>?_);refine with_tabW spec_FormatDiagram.tab10 spec_FormatDiagram.bits10 (fun HT_ HW_=>?_);generalize wc.drew = w28 at BK102 HB hHeld ⊢;refine pure_ (i:=0) (N:=some 41) (v:=?_) (a':=?_) (bA 18 1) rfl rfl (any_of HT_.out T22_) (fun _ _ _ h=>h) (Or.inl ⟨by rfl,?_⟩) ?_ ?_;rotate_left
                 ·intro w'
                  go_simp
                  first | done | exact T6_
                 rotate_left
                 ·simp only [Act.put,List.setIfInBounds_toArray,List.set_cons_zero,List.set_cons_succ,i64_w,i32_w]
                  rfl
                 refine pure_ (i:=1) (N:=some 42) (v:=?_) (a':=?_) (bA 18 3) rfl rfl (any_of HT_.out T22_) (fun _ _ _ h=>h) (Or.inl ⟨by rfl,?_⟩) ?_ ?_;rotate_left
                 ·intro w'
                  go_simp
                  first | done | exact T6_
                 rotate_left
                 ·simp only [Act.put,List.setIfInBounds_toArray,List.set_cons_zero,List.set_cons_succ,i64_w,i32_w]
                  rfl
                 refine pure_ (i:=3) (N:=some 44) (v:=?_) (a':=?_) (bA 18 11) rfl rfl (any_of HT_.out T22_) (fun _ _ _ h=>h) (Or.inl ⟨by rfl,?_⟩) ?_ ?_;rotate_left
                 ·intro w'
                  go_simp
                  first | done | exact T6_
                 rotate_left
                 ·simp only [Act.put,List.setIfInBounds_toArray,List.set_cons_zero,List.set_cons_succ,i64_w,i32_w]
                  rfl
                 refine pure_ (i:=8) (N:=some 49) (v:=?_) (a':=?_) (bA 18 267) rfl rfl (any_of HT_.out T22_) (fun _ _ _ h=>h) (Or.inl ⟨by rfl,?_⟩) ?_ ?_;rotate_left
                 ·intro w'
                  go_simp
                  first | done | exact T6_
                 rotate_left
                 ·simp only [Act.put,List.setIfInBounds_toArray,List.set_cons_zero,List.set_cons_succ,i64_w,i32_w]
                  rfl
                 refine pure_ (i:=13) (N:=some 54) (v:=?_) (a':=?_) (bA 18 8459) rfl rfl (any_of HT_.out T22_) (fun _ _ _ h=>h) (Or.inl ⟨by rfl,?_⟩) ?_ ?_;rotate_left
                 ·intro w'
                  go_simp
                  first | done | exact T6_
                 rotate_left
                 ·simp only [Act.put,List.setIfInBounds_toArray,List.set_cons_zero,List.set_cons_succ,i64_w,i32_w]
                  rfl
                 refine take_ (i:=2) (N:=some 43) (v:=?_) (a':=?_) (bA 18 8463) rfl rfl (take_ofW HT_.out HW_.out T22_) (fun _ _ _ h=>h) (Or.inl ⟨by rfl,?_⟩) hHeld ?_ ?_;rotate_left
                 ·rintro w' ⟨s0,s1,s2⟩
                  go_simp
                  first | done | exact T6_
                 rotate_left
                 ·simp only [Act.put,List.setIfInBounds_toArray,List.set_cons_zero,List.set_cons_succ,i64_w,i32_w]
                  rfl
                 refine take_ (i:=4) (N:=some 45) (v:=?_) (a':=?_) (bA 18 8479) rfl rfl (take_ofW HT_.out HW_.out T22_) (fun _ _ _ h=>h) (Or.inl ⟨by rfl,?_⟩) hHeld ?_ ?_;rotate_left
                 ·rintro w' ⟨s0,s1,s2⟩
                  go_simp
                  first | done | exact T6_
                 rotate_left
                 ·simp only [Act.put,List.setIfInBounds_toArray,List.set_cons_zero,List.set_cons_succ,i64_w,i32_w]
                  rfl
                 refine pure_ (i:=5) (N:=some 46) (v:=?_) (a':=?_) (bA 18 8511) rfl rfl (any_of HT_.out T22_) (fun _ _ _ h=>h) (Or.inl ⟨by rfl,?_⟩) ?_ ?_;rotate_left
                 ·intro w'
                  go_simp
                  first | done | exact T6_
                 rotate_left
                 ·simp only [Act.put,List.setIfInBounds_toArray,List.set_cons_zero,List.set_cons_succ,i64_w,i32_w]
                  rfl
                 refine pure_ (i:=6) (N:=some 47) (v:=?_) (a':=?_) (bA 18 8575) rfl rfl (any_of HT_.out T22_) (fun _ _ _ h=>h) (Or.inl ⟨by rfl,?_⟩) ?_ ?_;rotate_left
                 ·intro w'
                  go_simp
                  first | done | exact T6_
                 rotate_left
                 ·simp only [Act.put,List.setIfInBounds_toArray,List.set_cons_zero,List.set_cons_succ,i64_w,i32_w]
                  rfl
                 refine pure_ (i:=7) (N:=some 48) (v:=?_) (a':=?_) (bA 18 8703) rfl rfl (any_of HT_.out T22_) (fun _ _ _ h=>h) (Or.inl ⟨by rfl,?_⟩) ?_ ?_;rotate_left
                 ·intro w'
                  go_simp
                  first | done | exact T6_
                 rotate_left
                 ·simp only [Act.put,List.setIfInBounds_toArray,List.set_cons_zero,List.set_cons_succ,i64_w,i32_w]
                  rfl
                 refine take_ (i:=9) (N:=some 50) (v:=?_) (a':=?_) (bA 18 9215) rfl rfl (take_ofW HT_.out HW_.out T22_) (fun _ _ _ h=>h) (Or.inl ⟨by rfl,?_⟩) hHeld ?_ ?_;rotate_left
                 ·rintro w' ⟨s0,s1,s2⟩
                  go_simp
                  first | done | exact T6_
                 rotate_left
                 ·simp only [Act.put,List.setIfInBounds_toArray,List.set_cons_zero,List.set_cons_succ,i64_w,i32_w]
                  rfl
                 refine take_ (i:=14) (N:=some 55) (v:=?_) (a':=?_) (bA 18 25599) rfl rfl (take_ofW HT_.out HW_.out T22_) (fun _ _ _ h=>h) (Or.inl ⟨by rfl,?_⟩) hHeld ?_ ?_;rotate_left
                 ·rintro w' ⟨s0,s1,s2⟩
                  go_simp
                  first | done | exact T6_
                 rotate_left
                 ·simp only [Act.put,List.setIfInBounds_toArray,List.set_cons_zero,List.set_cons_succ,i64_w,i32_w]
                  rfl
                 refine one_ (i:=10) (N:=some 51) (bA 18 26623) rfl rfl (one_of HT_.out T22_) T55_ (fun K hK=>?_);refine gZ_ Tryz.func59 #[.int .i64 ((rd_T56 l0 x4_1).f1)] ?_;with_reducible refine (spec_FormatInt.calls kj3 ((rd_T56 l0 x4_1).f1) t106 _ A23.out).mono ?_
                 rintro e w29 ⟨rfl,hb⟩;refine ⟨_,rfl,?_⟩;replace BK102:=aZ_ (blk_below (g:=gb102) (o:=.cells #[.int .i64 ((rd_T56 l0 x4_1).f0),.int .i64 ((rd_T56 l0 x4_1).f1),.int .i64 ((rd_T56 l0 x4_1).f2)] 56 (0,0)) T82_ hb);replace HB:=aZ_ (below_step T41_ hb)
                 (try clear hb)
                 (try clear hb2)
                 (try clear hk)
                 (try clear hi)
                 refine hK.out _ _ ⟨(blk_cell BK102.out 0).trans rfl,(blk_cell BK102.out 1).trans rfl,(blk_cell BK102.out 2).trans rfl⟩ (fun hHeld=>?_);clear hK K;refine nZ_ (some 51) ?_;refine pure_ (i:=11) (N:=some 52) (v:=?_) (a':=?_) (bA 18 28671) rfl rfl (any_of HT_.out T22_) (fun _ _ _ h=>h) (Or.inl ⟨by rfl,?_⟩) ?_ ?_;rotate_left
                 ·intro w'
                  go_simp
                  first | done | exact T6_
                 rotate_left
                 ·simp only [Act.put,List.setIfInBounds_toArray,List.set_cons_zero,List.set_cons_succ,i64_w,i32_w]
                  rfl
                 refine pure_ (i:=12) (N:=some 53) (v:=?_) (a':=?_) (bA 18 32767) rfl rfl (any_of HT_.out T22_) (fun _ _ _ h=>h) (Or.inl ⟨by rfl,?_⟩) ?_ ?_;rotate_left
                 ·intro w'
                  go_simp
                  first | done | exact T6_
                 rotate_left
                 ·simp only [Act.put,List.setIfInBounds_toArray,List.set_cons_zero,List.set_cons_succ,i64_w,i32_w]
                  rfl
                 refine one_ (i:=15) (N:=some 56) (bA 18 65535) rfl rfl (one_of HT_.out T22_) T55_ (fun K hK=>?_);refine gZ_ Tryz.func59 #[.int .i64 ((rd_T56 l0 x4_1).f2)] ?_;with_reducible refine (spec_FormatInt.calls kj3 ((rd_T56 l0 x4_1).f2) t107 _ A26.out).mono ?_
                 rintro e w30 ⟨rfl,hb⟩;refine ⟨_,rfl,?_⟩;replace BK102:=aZ_ (blk_below (g:=gb102) (o:=.cells #[.int .i64 ((rd_T56 l0 x4_1).f0),.int .i64 ((rd_T56 l0 x4_1).f1),.int .i64 ((rd_T56 l0 x4_1).f2)] 56 (0,0)) T82_ hb);replace HB:=aZ_ (below_step T41_ hb)
                 (try clear hb)
                 (try clear hb2)
                 (try clear hk)
                 (try clear hi)
                 refine hK.out _ _ ⟨(blk_cell BK102.out 0).trans rfl,(blk_cell BK102.out 1).trans rfl,(blk_cell BK102.out 2).trans rfl⟩ (fun hHeld=>?_);clear hK K;refine nZ_ (some 56) ?_;refine pure_ (i:=16) (N:=some 57) (v:=?_) (a':=?_) (bA 18 131071) rfl rfl (any_of HT_.out T22_) (fun _ _ _ h=>h) (Or.inl ⟨by rfl,?_⟩) ?_ ?_;rotate_left
                 ·intro w'
                  go_simp
                  first | done | exact T6_
                 rotate_left
                 ·simp only [Act.put,List.setIfInBounds_toArray,List.set_cons_zero,List.set_cons_succ,i64_w,i32_w]
                  rfl
                 refine pure_ (i:=17) (N:=some 3) (v:=?_) (a':=?_) (bA 18 262143) rfl rfl (any_of HT_.out T22_) (fun _ _ _ h=>h) (Or.inl ⟨by rfl,?_⟩) ?_ ?_;rotate_left
                 ·intro w'
                  go_simp
                  first | done | exact T6_
                 rotate_left
                 ·simp only [Act.put,List.setIfInBounds_toArray,List.set_cons_zero,List.set_cons_succ,i64_w,i32_w]
                  rfl
                 refine done_ (done_of HT_.out T22_) ?_
                 try go_wp2
                 go_roundg kj3
                 case measure=>have:=HK1.out;have:=HJ3.out;omega
                 case rel=>exact ⟨(((((x3_1 ++ (⟨#[32]⟩:ByteArray)) ++ ((⟨#[97,98,99,100,101]⟩:ByteArray).extract (((rd_T56 l0 x4_1).f0):Int).toNat ((wrap64 (((rd_T56 l0 x4_1).f0) + 1)):Int).toNat)) ++ t106) ++ (⟨#[44]⟩:ByteArray)) ++ t107),(wrap64 (x4_1 + 1)),T11_,T11_,H',⟨(by have:=HK1.out;have:=HJ3.out;omega)⟩,⟨T41_⟩⟩
                ·rw [if_neg c27] at H
                 exact absurd H T64_
               ·rw [if_neg c25] at H
                exact absurd H T64_
              ·rw [if_neg c24] at H
               exact absurd H T64_
             ·rw [if_neg c22] at H
              exact absurd H T64_
            ·rw [if_neg c21] at H
             exact absurd H T64_
           ·rw [if_neg c20] at H
            exact absurd H T64_
          ·rw [if_neg c19] at H
           exact absurd H T64_
         ·rw [if_neg c18] at H
          exact absurd H T64_
        ·rw [if_neg c17] at H
         have c17b0:decide (0 < x4_1) = false:=decide_eq_false c17;clear c17
         by_cases c31:0 ≤ ((rd_T56 l0 x4_1).f0)
         ·rw [if_pos c31] at H
          have c31b0:=eq_true c31;have c31b1:decide (0 ≤ ((rd_T56 l0 x4_1).f0)) = true:=decide_eq_true c31;clear c31
          by_cases c32:((rd_T56 l0 x4_1).f0) ≤ (wrap64 (((rd_T56 l0 x4_1).f0) + 1))
          ·rw [if_pos c32] at H
           have c32b0:=eq_true c32;have c32b1:decide (((rd_T56 l0 x4_1).f0) ≤ (wrap64 (((rd_T56 l0 x4_1).f0) + 1))) = true:=decide_eq_true c32
           by_cases c33:(wrap64 (((rd_T56 l0 x4_1).f0) + 1)) ≤ 5
           ·rw [if_pos c33] at H
            have c33b0:=eq_true c33;have c33b1:decide ((wrap64 (((rd_T56 l0 x4_1).f0) + 1)) ≤ 5) = true:=decide_eq_true c33
            by_cases c34:x3_1.size + ((⟨#[97,98,99,100,101]⟩:ByteArray).extract (((rd_T56 l0 x4_1).f0):Int).toNat ((wrap64 (((rd_T56 l0 x4_1).f0) + 1)):Int).toNat).size ≤ 9223372036854775807
            ·rw [if_pos c34] at H
             have c34b0:=eq_true c34;have c34b1:decide (x3_1.size + ((⟨#[97,98,99,100,101]⟩:ByteArray).extract (((rd_T56 l0 x4_1).f0):Int).toNat ((wrap64 (((rd_T56 l0 x4_1).f0) + 1)):Int).toNat).size ≤ 9223372036854775807) = true:=decide_eq_true c34
             try have c34b2:(9223372036854775807 < x3_1.size + ((⟨#[97,98,99,100,101]⟩:ByteArray).extract (((rd_T56 l0 x4_1).f0):Int).toNat ((wrap64 (((rd_T56 l0 x4_1).f0) + 1)):Int).toNat).size) = False:=eq_false (Nat.not_lt.2 c34)
             replace H:=Option.bind_eq_some_iff.mp H;obtain ⟨t108,A350,H⟩:=H;replace H:(if (x3_1 ++ ((⟨#[97,98,99,100,101]⟩:ByteArray).extract (((rd_T56 l0 x4_1).f0):Int).toNat ((wrap64 (((rd_T56 l0 x4_1).f0) + 1)):Int).toNat)).size + t108.size ≤ 9223372036854775807 then (if ((x3_1 ++ ((⟨#[97,98,99,100,101]⟩:ByteArray).extract (((rd_T56 l0 x4_1).f0):Int).toNat ((wrap64 (((rd_T56 l0 x4_1).f0) + 1)):Int).toNat)) ++ t108).size + 1 ≤ 9223372036854775807 then ((spec_FormatInt.f kj3 ((rd_T56 l0 x4_1).f2)).bind fun t109=>(if (((x3_1 ++ ((⟨#[97,98,99,100,101]⟩:ByteArray).extract (((rd_T56 l0 x4_1).f0):Int).toNat ((wrap64 (((rd_T56 l0 x4_1).f0) + 1)):Int).toNat)) ++ t108) ++ (⟨#[44]⟩:ByteArray)).size + t109.size ≤ 9223372036854775807 then (spec_FormatDiagram.l0 kj3 l0 ((((x3_1 ++ ((⟨#[97,98,99,100,101]⟩:ByteArray).extract (((rd_T56 l0 x4_1).f0):Int).toNat ((wrap64 (((rd_T56 l0 x4_1).f0) + 1)):Int).toNat)) ++ t108) ++ (⟨#[44]⟩:ByteArray)) ++ t109) (wrap64 (x4_1 + 1))) else (none))) else (none)) else (none)) = some r:=H;have A35:=aZ_ A350;clear A350
             by_cases c36:(x3_1 ++ ((⟨#[97,98,99,100,101]⟩:ByteArray).extract (((rd_T56 l0 x4_1).f0):Int).toNat ((wrap64 (((rd_T56 l0 x4_1).f0) + 1)):Int).toNat)).size + t108.size ≤ 9223372036854775807
             ·rw [if_pos c36] at H
              have c36b0:=eq_true c36;have c36b1:decide ((x3_1 ++ ((⟨#[97,98,99,100,101]⟩:ByteArray).extract (((rd_T56 l0 x4_1).f0):Int).toNat ((wrap64 (((rd_T56 l0 x4_1).f0) + 1)):Int).toNat)).size + t108.size ≤ 9223372036854775807) = true:=decide_eq_true c36
              try have c36b2:(9223372036854775807 < (x3_1 ++ ((⟨#[97,98,99,100,101]⟩:ByteArray).extract (((rd_T56 l0 x4_1).f0):Int).toNat ((wrap64 (((rd_T56 l0 x4_1).f0) + 1)):Int).toNat)).size + t108.size) = False:=eq_false (Nat.not_lt.2 c36)
              by_cases c37:((x3_1 ++ ((⟨#[97,98,99,100,101]⟩:ByteArray).extract (((rd_T56 l0 x4_1).f0):Int).toNat ((wrap64 (((rd_T56 l0 x4_1).f0) + 1)):Int).toNat)) ++ t108).size + 1 ≤ 9223372036854775807
              ·rw [if_pos c37] at H
               have c37b0:=eq_true c37;have c37b1:decide (((x3_1 ++ ((⟨#[97,98,99,100,101]⟩:ByteArray).extract (((rd_T56 l0 x4_1).f0):Int).toNat ((wrap64 (((rd_T56 l0 x4_1).f0) + 1)):Int).toNat)) ++ t108).size + 1 ≤ 9223372036854775807) = true:=decide_eq_true c37
               try have c37b2:(9223372036854775807 < ((x3_1 ++ ((⟨#[97,98,99,100,101]⟩:ByteArray).extract (((rd_T56 l0 x4_1).f0):Int).toNat ((wrap64 (((rd_T56 l0 x4_1).f0) + 1)):Int).toNat)) ++ t108).size + 1) = False:=eq_false (Nat.not_lt.2 c37)
               replace H:=Option.bind_eq_some_iff.mp H;obtain ⟨t109,A380,H⟩:=H;replace H:(if (((x3_1 ++ ((⟨#[97,98,99,100,101]⟩:ByteArray).extract (((rd_T56 l0 x4_1).f0):Int).toNat ((wrap64 (((rd_T56 l0 x4_1).f0) + 1)):Int).toNat)) ++ t108) ++ (⟨#[44]⟩:ByteArray)).size + t109.size ≤ 9223372036854775807 then (spec_FormatDiagram.l0 kj3 l0 ((((x3_1 ++ ((⟨#[97,98,99,100,101]⟩:ByteArray).extract (((rd_T56 l0 x4_1).f0):Int).toNat ((wrap64 (((rd_T56 l0 x4_1).f0) + 1)):Int).toNat)) ++ t108) ++ (⟨#[44]⟩:ByteArray)) ++ t109) (wrap64 (x4_1 + 1))) else (none)) = some r:=H;have A38:=aZ_ A380;clear A380
               by_cases c39:(((x3_1 ++ ((⟨#[97,98,99,100,101]⟩:ByteArray).extract (((rd_T56 l0 x4_1).f0):Int).toNat ((wrap64 (((rd_T56 l0 x4_1).f0) + 1)):Int).toNat)) ++ t108) ++ (⟨#[44]⟩:ByteArray)).size + t109.size ≤ 9223372036854775807
               ·rw [if_pos c39] at H
                have c39b0:=eq_true c39;have c39b1:decide ((((x3_1 ++ ((⟨#[97,98,99,100,101]⟩:ByteArray).extract (((rd_T56 l0 x4_1).f0):Int).toNat ((wrap64 (((rd_T56 l0 x4_1).f0) + 1)):Int).toNat)) ++ t108) ++ (⟨#[44]⟩:ByteArray)).size + t109.size ≤ 9223372036854775807) = true:=decide_eq_true c39
                try have c39b2:(9223372036854775807 < (((x3_1 ++ ((⟨#[97,98,99,100,101]⟩:ByteArray).extract (((rd_T56 l0 x4_1).f0):Int).toNat ((wrap64 (((rd_T56 l0 x4_1).f0) + 1)):Int).toNat)) ++ t108) ++ (⟨#[44]⟩:ByteArray)).size + t109.size) = False:=eq_false (Nat.not_lt.2 c39)
                have H':=aZ_ H;clear H
                try go_wp2
                replace BK102:=aZ_ (blk_drew BK102.out);replace HB:=aZ_ (below_drew1 HB.out);refine start_ (n:=18) (S:=fun w'=>w'.cell? ⟨gb102,0,none⟩ = some (.int .i64 ((rd_T56 l0 x4_1).f0)) ∧ w'.cell? ⟨gb102,1,none⟩ = some (.int .i64 ((rd_T56 l0 x4_1).f1)) ∧ w'.cell? ⟨gb102,2,none⟩ = some (.int .i64 ((rd_T56 l0 x4_1).f2))) (ds:=[]) (bA 18 0) T22_ rfl rfl ⟨(blk_cell BK102.out 0).trans rfl,(blk_cell BK102.out 1).trans rfl,(blk_cell BK102.out 2).trans rfl⟩ (fun hHeld=>?_);refine with_tabW spec_FormatDiagram.tab10 spec_FormatDiagram.bits10 (fun HT_ HW_=>?_);generalize wc.drew = w40 at BK102 HB hHeld ⊢;refine pure_ (i:=0) (N:=some 41) (v:=?_) (a':=?_) (bA 18 1) rfl rfl (any_of HT_.out T22_) (fun _ _ _ h=>h) (Or.inl ⟨by rfl,?_⟩) ?_ ?_;rotate_left
                ·intro w'
                 go_simp
                 first | done | exact T6_
                rotate_left
                ·simp only [Act.put,List.setIfInBounds_toArray,List.set_cons_zero,List.set_cons_succ,i64_w,i32_w]
                 rfl
                refine pure_ (i:=1) (N:=some 42) (v:=?_) (a':=?_) (bA 18 3) rfl rfl (any_of HT_.out T22_) (fun _ _ _ h=>h) (Or.inl ⟨by rfl,?_⟩) ?_ ?_;rotate_left
                ·intro w'
                 go_simp
                 first | done | exact T6_
                rotate_left
                ·simp only [Act.put,List.setIfInBounds_toArray,List.set_cons_zero,List.set_cons_succ,i64_w,i32_w]
                 rfl
                refine pure_ (i:=3) (N:=some 44) (v:=?_) (a':=?_) (bA 18 11) rfl rfl (any_of HT_.out T22_) (fun _ _ _ h=>h) (Or.inl ⟨by rfl,?_⟩) ?_ ?_;rotate_left
                ·intro w'
                 go_simp
                 first | done | exact T6_
                rotate_left
                ·simp only [Act.put,List.setIfInBounds_toArray,List.set_cons_zero,List.set_cons_succ,i64_w,i32_w]
                 rfl
                refine pure_ (i:=8) (N:=some 49) (v:=?_) (a':=?_) (bA 18 267) rfl rfl (any_of HT_.out T22_) (fun _ _ _ h=>h) (Or.inl ⟨by rfl,?_⟩) ?_ ?_;rotate_left
                ·intro w'
                 go_simp
                 first | done | exact T6_
                rotate_left
                ·simp only [Act.put,List.setIfInBounds_toArray,List.set_cons_zero,List.set_cons_succ,i64_w,i32_w]
                 rfl
                refine pure_ (i:=13) (N:=some 54) (v:=?_) (a':=?_) (bA 18 8459) rfl rfl (any_of HT_.out T22_) (fun _ _ _ h=>h) (Or.inl ⟨by rfl,?_⟩) ?_ ?_;rotate_left
                ·intro w'
                 go_simp
                 first | done | exact T6_
                rotate_left
                ·simp only [Act.put,List.setIfInBounds_toArray,List.set_cons_zero,List.set_cons_succ,i64_w,i32_w]
                 rfl
                refine take_ (i:=2) (N:=some 43) (v:=?_) (a':=?_) (bA 18 8463) rfl rfl (take_ofW HT_.out HW_.out T22_) (fun _ _ _ h=>h) (Or.inl ⟨by rfl,?_⟩) hHeld ?_ ?_;rotate_left
                ·rintro w' ⟨s0,s1,s2⟩
                 go_simp
                 first | done | exact T6_
                rotate_left
                ·simp only [Act.put,List.setIfInBounds_toArray,List.set_cons_zero,List.set_cons_succ,i64_w,i32_w]
                 rfl
                refine take_ (i:=4) (N:=some 45) (v:=?_) (a':=?_) (bA 18 8479) rfl rfl (take_ofW HT_.out HW_.out T22_) (fun _ _ _ h=>h) (Or.inl ⟨by rfl,?_⟩) hHeld ?_ ?_;rotate_left
                ·rintro w' ⟨s0,s1,s2⟩
                 go_simp
                 first | done | exact T6_
                rotate_left
                ·simp only [Act.put,List.setIfInBounds_toArray,List.set_cons_zero,List.set_cons_succ,i64_w,i32_w]
                 rfl
                refine pure_ (i:=5) (N:=some 46) (v:=?_) (a':=?_) (bA 18 8511) rfl rfl (any_of HT_.out T22_) (fun _ _ _ h=>h) (Or.inl ⟨by rfl,?_⟩) ?_ ?_;rotate_left
                ·intro w'
                 go_simp
                 first | done | exact T6_
                rotate_left
                ·simp only [Act.put,List.setIfInBounds_toArray,List.set_cons_zero,List.set_cons_succ,i64_w,i32_w]
                 rfl
                refine pure_ (i:=6) (N:=some 47) (v:=?_) (a':=?_) (bA 18 8575) rfl rfl (any_of HT_.out T22_) (fun _ _ _ h=>h) (Or.inl ⟨by rfl,?_⟩) ?_ ?_;rotate_left
                ·intro w'
                 go_simp
                 first | done | exact T6_
                rotate_left
                ·simp only [Act.put,List.setIfInBounds_toArray,List.set_cons_zero,List.set_cons_succ,i64_w,i32_w]
                 rfl
                refine pure_ (i:=7) (N:=some 48) (v:=?_) (a':=?_) (bA 18 8703) rfl rfl (any_of HT_.out T22_) (fun _ _ _ h=>h) (Or.inl ⟨by rfl,?_⟩) ?_ ?_;rotate_left
                ·intro w'
                 go_simp
                 first | done | exact T6_
                rotate_left
                ·simp only [Act.put,List.setIfInBounds_toArray,List.set_cons_zero,List.set_cons_succ,i64_w,i32_w]
                 rfl
                refine take_ (i:=9) (N:=some 50) (v:=?_) (a':=?_) (bA 18 9215) rfl rfl (take_ofW HT_.out HW_.out T22_) (fun _ _ _ h=>h) (Or.inl ⟨by rfl,?_⟩) hHeld ?_ ?_;rotate_left
                ·rintro w' ⟨s0,s1,s2⟩
                 go_simp
                 first | done | exact T6_
                rotate_left
                ·simp only [Act.put,List.setIfInBounds_toArray,List.set_cons_zero,List.set_cons_succ,i64_w,i32_w]
                 rfl
                refine take_ (i:=14) (N:=some 55) (v:=?_) (a':=?_) (bA 18 25599) rfl rfl (take_ofW HT_.out HW_.out T22_) (fun _ _ _ h=>h) (Or.inl ⟨by rfl,?_⟩) hHeld ?_ ?_;rotate_left
                ·rintro w' ⟨s0,s1,s2⟩
                 go_simp
                 first | done | exact T6_
                rotate_left
                ·simp only [Act.put,List.setIfInBounds_toArray,List.set_cons_zero,List.set_cons_succ,i64_w,i32_w]
                 rfl
                refine one_ (i:=10) (N:=some 51) (bA 18 26623) rfl rfl (one_of HT_.out T22_) T55_ (fun K hK=>?_);refine gZ_ Tryz.func59 #[.int .i64 ((rd_T56 l0 x4_1).f1)] ?_;with_reducible refine (spec_FormatInt.calls kj3 ((rd_T56 l0 x4_1).f1) t108 _ A35.out).mono ?_
                rintro e w41 ⟨rfl,hb⟩;refine ⟨_,rfl,?_⟩;replace BK102:=aZ_ (blk_below (g:=gb102) (o:=.cells #[.int .i64 ((rd_T56 l0 x4_1).f0),.int .i64 ((rd_T56 l0 x4_1).f1),.int .i64 ((rd_T56 l0 x4_1).f2)] 56 (0,0)) T82_ hb);replace HB:=aZ_ (below_step T41_ hb)
                (try clear hb)
                (try clear hb2)
                (try clear hk)
                (try clear hi)
                refine hK.out _ _ ⟨(blk_cell BK102.out 0).trans rfl,(blk_cell BK102.out 1).trans rfl,(blk_cell BK102.out 2).trans rfl⟩ (fun hHeld=>?_);clear hK K;refine nZ_ (some 51) ?_;refine pure_ (i:=11) (N:=some 52) (v:=?_) (a':=?_) (bA 18 28671) rfl rfl (any_of HT_.out T22_) (fun _ _ _ h=>h) (Or.inl ⟨by rfl,?_⟩) ?_ ?_;rotate_left
                ·intro w'
                 go_simp
                 first | done | exact T6_
                rotate_left
                ·simp only [Act.put,List.setIfInBounds_toArray,List.set_cons_zero,List.set_cons_succ,i64_w,i32_w]
                 rfl
                refine pure_ (i:=12) (N:=some 53) (v:=?_) (a':=?_) (bA 18 32767) rfl rfl (any_of HT_.out T22_) (fun _ _ _ h=>h) (Or.inl ⟨by rfl,?_⟩) ?_ ?_;rotate_left
                ·intro w'
                 go_simp
                 first | done | exact T6_
                rotate_left
                ·simp only [Act.put,List.setIfInBounds_toArray,List.set_cons_zero,List.set_cons_succ,i64_w,i32_w]
                 rfl
                refine one_ (i:=15) (N:=some 56) (bA 18 65535) rfl rfl (one_of HT_.out T22_) T55_ (fun K hK=>?_);refine gZ_ Tryz.func59 #[.int .i64 ((rd_T56 l0 x4_1).f2)] ?_;with_reducible refine (spec_FormatInt.calls kj3 ((rd_T56 l0 x4_1).f2) t109 _ A38.out).mono ?_
                rintro e w42 ⟨rfl,hb⟩;refine ⟨_,rfl,?_⟩;replace BK102:=aZ_ (blk_below (g:=gb102) (o:=.cells #[.int .i64 ((rd_T56 l0 x4_1).f0),.int .i64 ((rd_T56 l0 x4_1).f1),.int .i64 ((rd_T56 l0 x4_1).f2)] 56 (0,0)) T82_ hb);replace HB:=aZ_ (below_step T41_ hb)
                (try clear hb)
                (try clear hb2)
                (try clear hk)
                (try clear hi)
                refine hK.out _ _ ⟨(blk_cell BK102.out 0).trans rfl,(blk_cell BK102.out 1).trans rfl,(blk_cell BK102.out 2).trans rfl⟩ (fun hHeld=>?_);clear hK K;refine nZ_ (some 56) ?_;refine pure_ (i:=16) (N:=some 57) (v:=?_) (a':=?_) (bA 18 131071) rfl rfl (any_of HT_.out T22_) (fun _ _ _ h=>h) (Or.inl ⟨by rfl,?_⟩) ?_ ?_;rotate_left
                ·intro w'
                 go_simp
                 first | done | exact T6_
                rotate_left
                ·simp only [Act.put,List.setIfInBounds_toArray,List.set_cons_zero,List.set_cons_succ,i64_w,i32_w]
                 rfl
                refine pure_ (i:=17) (N:=some 3) (v:=?_) (a':=?_) (bA 18 262143) rfl rfl (any_of HT_.out T22_) (fun _ _ _ h=>h) (Or.inl ⟨by rfl,?_⟩) ?_ ?_;rotate_left
                ·intro w'
                 go_simp
                 first | done | exact T6_
                rotate_left
                ·simp only [Act.put,List.setIfInBounds_toArray,List.set_cons_zero,List.set_cons_succ,i64_w,i32_w]
                 rfl
                refine done_ (done_of HT_.out T22_) ?_
                try go_wp2
                go_roundg kj3
                case measure=>have:=HK1.out;have:=HJ3.out;omega
                case rel=>exact ⟨((((x3_1 ++ ((⟨#[97,98,99,100,101]⟩:ByteArray).extract (((rd_T56 l0 x4_1).f0):Int).toNat ((wrap64 (((rd_T56 l0 x4_1).f0) + 1)):Int).toNat)) ++ t108) ++ (⟨#[44]⟩:ByteArray)) ++ t109),(wrap64 (x4_1 + 1)),T11_,T11_,H',⟨(by have:=HK1.out;have:=HJ3.out;omega)⟩,⟨T41_⟩⟩
               ·rw [if_neg c39] at H
                exact absurd H T64_
              ·rw [if_neg c37] at H
               exact absurd H T64_
             ·rw [if_neg c36] at H
              exact absurd H T64_
            ·rw [if_neg c34] at H
             exact absurd H T64_
           ·rw [if_neg c33] at H
            exact absurd H T64_
          ·rw [if_neg c32] at H
           exact absurd H T64_
         ·rw [if_neg c31] at H
          exact absurd H T64_
    ·rw [if_neg c3] at H
     exact absurd H T64_
   ·rw [if_neg c2] at H
    have c2b0:decide (x4_1 < (l0.length:Int)) = false:=decide_eq_false c2;clear c2
    by_cases c43:x3_1.toList = ([]:List UInt8)
    ·rw [if_pos c43] at H
     have c43b0:(x3_1.toList == ([]:List UInt8)) = true:=beq_iff_eq.mpr c43;have c43b1:(x3_1.toList != ([]:List UInt8)) = false:=bne_eq_false_iff_eq.mpr c43;clear c43;obtain rfl:=Option.some.inj H;go_wp2;go_ret;exact ⟨T13_,T2_⟩
    ·rw [if_neg c43] at H
     have c43b0:(x3_1.toList == ([]:List UInt8)) = false:=beq_eq_false_iff_ne.mpr c43;have c43b1:(x3_1.toList != ([]:List UInt8)) = true:=bne_iff_ne.mpr c43;obtain rfl:=Option.some.inj H;go_wp2;go_ret;exact ⟨T13_,T2_⟩
theorem heapD (w w':World) (A:Option Addr) (l:List S56) (hb:Below w.heap.size w w') (h:Kd.C k56 w A l.length l):Kd.C k56 w' A l.length l :=
 Kd.Heap.C (Kd.heap_iso _ (Kd.heap_pair (Kd.heap_int .i64) (Kd.heap_pair (Kd.heap_int .i64) (Kd.heap_int .i64)))) hb.block h
structure DiaBig (k:Nat) (m:List S56) (p:List Int) (f1 f2:Int) (cn:Int) (sp:Nat) (vl:Nat → Int) (lq:List Int) (nn:Int) (fine:Bool) (vs:List Int):Prop where
 con:impl_IsConstant.f f1 f2 = some (decide (m.length = 0))
 isd:0 < m.length → impl_IsDiagram.f m p = some true
 cnt:0 < m.length → impl_CountInDiagram.f k m p = some cn
 ones:0 < m.length → impl_CountOnes.f f1 f2 = some cn
 f0:0 ≤ f1
 sh:wrap64 ((2:Int) ^ min f1.toNat 64) = (sp:Int)
 s0:0 < sp
 sM:sp ≤ 64
 vals:0 < m.length → ∀ x:Nat,x < sp → impl_ValueInDiagram.f k m (x:Int) = some (vl x) ∧ impl_ValueAt.f f1 f2 (x:Int) = some (vl x)
 least:impl_LeastOrder.f f1 f2 = some (lq,nn,fine)
 fin1:fine = true → nn ≤ (m.length:Int)
 fin2:fine = true → impl_SizeOfDiagram.f k f1 f2 lq = some nn
 fin3:fine = true → impl_VariablesOf.f k f1 f2 = some vs
 fin4:fine = true → (vs.length:Int) ≤ nn
structure DiaGo (k:Nat) (code:List Int) (f1 f2:Int) (p:List Int) (m:List S56) (o:Bool) (sz g1 g2:Int) (la:List Int) (ln:Int) (lo:Bool) (dm:List S56) (dp:List Int) (vm:List S56) (vx:Int) (km:List S56) (kp:List Int) (fm:List S56) (rb:Bool) (rv rc:Int) (rs:ByteArray):Prop where
 small:laws_big.f code = some false
 draw:spec_DrawDiagramOf.f k code = some (f1,f2,p)
 d1:impl_DiagramOf.f k f1 f2 p = some (m,o)
 d2:spec_DiagramOf.f k f1 f2 p = some (m,o)
 same:laws_sameNodes.f k m m = some true
 z1:impl_SizeOfDiagram.f k f1 f2 p = some sz
 z2:spec_SizeOfDiagram.f k f1 f2 p = some sz
 mlen:m.length ≤ 1000
 big:o = true → ∃ cn sp vl lq nn fine vs,DiaBig k m p f1 f2 cn sp vl lq nn fine vs
 dl:spec_DrawLeastOrder.f k code = some (g1,g2)
 l1:impl_LeastOrder.f g1 g2 = some (la,ln,lo)
 l2:spec_LeastOrder.f k g1 g2 = some (la,ln,lo)
 lsame:laws_sameInts.f k la la = some true
 di:spec_DrawIsDiagram.f k code = some (dm,dp)
 i1:impl_IsDiagram.f dm dp = some rb
 i2:spec_IsDiagram.f k dm dp = some rb
 dv:spec_DrawValueInDiagram.f k code = some (vm,vx)
 v1:impl_ValueInDiagram.f k vm vx = some rv
 v2:spec_ValueInDiagram.f k vm vx = some rv
 dc:spec_DrawCountInDiagram.f k code = some (km,kp)
 c1:impl_CountInDiagram.f k km kp = some rc
 c2:spec_CountInDiagram.f k km kp = some rc
 df:spec_DrawFormatDiagram.f k code = some fm
 t1:impl_FormatDiagram.f fm = some rs
 t2:spec_FormatDiagram.f k fm = some rs
def laws_FnDiagrams.T6:Bool × List (List Nat × List Nat):=(true,[([],[]),([],[]),([0,1],[0,1]),([2],[2]),([3],[3]),([3],[3]),([4,5,3,3],[3,4,5]),([6,3],[3,6]),([3,7],[3,7]),([8,6],[8]),([9],[9]),([9],[9]),([10,11,9,9],[9,10,11]),([9],[9]),([9],[9]),([13,14,12,9],[9,13,14]),([12,15,9],[9,12,15]),([9,16],[9,16])])
def laws_FnDiagrams.B6:List Nat:=[0,0,3,7,15,15,63,127,255,511,1023,1023,4095,1023,1023,32767,65535,131071]
theorem laws_FnDiagrams.tab6:rtab .any (opsOf Tryz.f3 6) = laws_FnDiagrams.T6:=by kernel_rfl
theorem laws_FnDiagrams.bits6:waitsOk laws_FnDiagrams.T6.2 laws_FnDiagrams.B6 = true:=by kernel_rfl
def laws_FnDiagrams.T9:Bool × List (List Nat × List Nat):=(true,[([],[]),([0],[0]),([],[]),([2],[2]),([3],[3]),([1,4],[1,4]),([5,1],[5]),([6],[6]),([7,6],[6,7]),([8,6],[6,8]),([9,6,6],[6,9]),([10],[10]),([10],[10]),([11,12,10,10],[10,11,12]),([13,10],[10,13]),([14,13,10],[10,14]),([15],[15]),([15],[15]),([16,17,15,15],[15,16,17]),([15],[15]),([19,18,15],[15,19]),([18,20,15],[15,18,20]),([15,21,10],[10,15,21]),([10,22,6],[6,10,22]),([6,23],[6,23])])
def laws_FnDiagrams.B9:List Nat:=[0,1,0,4,12,31,63,127,255,511,1023,2047,2047,8191,16383,32767,65535,65535,262143,65535,1048575,2097151,4194303,8388607,16777215]
theorem laws_FnDiagrams.tab9:rtab .any (opsOf Tryz.f3 9) = laws_FnDiagrams.T9:=by kernel_rfl
theorem laws_FnDiagrams.bits9:waitsOk laws_FnDiagrams.T9.2 laws_FnDiagrams.B9 = true:=by kernel_rfl
def laws_FnDiagrams.T14:Bool × List (List Nat × List Nat):=(true,[([],[]),([],[]),([0,1],[0,1]),([],[]),([],[]),([3,4,2],[3,4]),([2,5],[2,5])])
def laws_FnDiagrams.B14:List Nat:=[0,0,3,0,0,31,63]
theorem laws_FnDiagrams.tab14:rtab .any (opsOf Tryz.f3 14) = laws_FnDiagrams.T14:=by kernel_rfl
theorem laws_FnDiagrams.bits14:waitsOk laws_FnDiagrams.T14.2 laws_FnDiagrams.B14 = true:=by kernel_rfl
open Classical in
noncomputable def laws_FnDiagrams.f (k:Nat) (code:List Int):Option Bool :=
 if laws_big.f code = some true ∨ ∃ f1 f2 p m o sz g1 g2 la ln lo dm dp vm vx km kp fm rb rv rc rs,DiaGo k code f1 f2 p m o sz g1 g2 la ln lo dm dp vm vx km kp fm rb rv rc rs then some true else none
theorem laws_FnDiagrams.calls (k:Nat) (A0:Option Addr) (c0:Nat) (l0:List Int) (r:Bool) (w:World) (hr0:Kd.C (Kd.int .u8) w A0 l0.length l0) (hc0:l0.length ≤ c0) (ht:Tens w) (h:laws_FnDiagrams.f k l0 = some r) :
  Calls Tryz.prog 3 #[.slice A0 l0.length c0] w fun e w'=>e = .returned (.bool r) ∧ Below w.heap.size w w':=by
 have hut:=Tryz.underlying25;unfold laws_FnDiagrams.f at h
 split at h
 next hgo =>
  cases h
  rcases hgo with hbig | ⟨f1,f2,p,m,o,sz,g1,g2,la,ln,lo,dm,dp,vm,vx,km,kp,fm,rb,rv,rc,rs,G⟩
  ·have HB:=aZ_ hbig
   clear hbig;go_enter Tryz.func3,Tryz.ntmps3
   go_wp2_with (go_at_call 4;refine (laws_big.calls A0 c0 l0 true _ hr0 hc0 HB.out).mono ?_;rintro e w1 ⟨rfl,⟨nd_,rfl⟩⟩)
   go_ret;exact ⟨rfl,pw_below_drewN (Below.refl _ _) _⟩
  ·have HG:=aZ_ G
   have HR:=aZ_ hr0;have HT:=aZ_ ht;have HC0:=aZ_ hc0;have HB:=aZ_ (Below.refl w.heap.size w);clear G hr0 ht hc0;go_enter Tryz.func3,Tryz.ntmps3
   go_upto_region 3 with (go_at_call 4;refine (laws_big.calls A0 c0 l0 false _ HR.out HC0.out HG.out.small).mono ?_;rintro e w1 ⟨rfl,hd⟩;have hb:=hd.below;clear hd;replace HR:=aZ_ (Kd.Heap.C (Kd.heap_int .u8) hb.block HR.out);replace HB:=aZ_ (below_step HB.out hb);replace HT:=aZ_ (HT.out.below hb);clear hb)
   go_upto_region 4 with (go_at_call 5;refine (spec_DrawDiagramOf.calls k A0 c0 l0 f1 f2 p _ HR.out HC0.out HG.out.draw).mono ?_;rintro e w2 ⟨vq,rfl,hq,hb⟩;replace HR:=aZ_ (Kd.Heap.C (Kd.heap_int .u8) hb.block HR.out);replace HB:=aZ_ (below_step HB.out hb);replace HT:=aZ_ (HT.out.below hb);obtain ⟨Ap,cp,rfl,hlc_,hr_⟩:=Kd.R_reads hq;have HP:=aZ_ hr_;have HPc:=aZ_ hlc_;clear hr_ hlc_;clear hq;clear hb)
   have BF:=aZ_ (blk_new w2 (.cells #[.int .i64 f1,.int .i64 f2] 25 (0,0)));have hb:=below_alloc (Below.refl w2.heap.size w2) (.cells #[.int .i64 f1,.int .i64 f2] 25 (0,0));replace HR:=aZ_ (Kd.Heap.C (Kd.heap_int .u8) hb.block HR.out);replace HB:=aZ_ (below_step HB.out hb);replace HT:=aZ_ (HT.out.below hb);replace HP:=aZ_ (Kd.Heap.C (Kd.heap_int .i64) hb.block HP.out);clear hb;obtain ⟨gf,hgf_⟩:∃ gf,gf = w2.heap.size:=⟨_,rfl⟩;rw [← hgf_] at BF ⊢;clear hgf_;generalize w2.alloc (.cells #[.int .i64 f1,.int .i64 f2] 25 (0,0)) = w3 at HR HB HT HP BF ⊢;obtain ⟨hc_BF_0,hc_BF_1⟩:=(bc2_ BF.out).1
   go_upto_region 5 with (go_at_call 6;refine (impl_DiagramOf.calls k f1 f2 Ap cp p m o _ HP.out HPc.out HG.out.d1).mono ?_;rintro e w4 ⟨vq,rfl,hq,hb⟩;replace HR:=aZ_ (Kd.Heap.C (Kd.heap_int .u8) hb.block HR.out);replace HB:=aZ_ (below_step HB.out hb);replace HT:=aZ_ (HT.out.below hb);replace HP:=aZ_ (Kd.Heap.C (Kd.heap_int .i64) hb.block HP.out);replace BF:=aZ_ (blk_below BF.out hb);obtain ⟨A5,c5,rfl,hlc_,hr_⟩:=Kd.R_reads hq;have HN:=aZ_ hr_;have HNc:=aZ_ hlc_;clear hr_ hlc_;clear hq;clear hb;clear hc_BF_0 hc_BF_1;obtain ⟨hc_BF_0,hc_BF_1⟩:=(bc2_ BF.out).1)
   go_upto_region 6 with (go_at_call 7;refine (spec_DiagramOf.calls k f1 f2 Ap cp p m o _ HP.out HPc.out HG.out.d2).mono ?_;rintro e w5 ⟨vq,rfl,hq,hb⟩;replace HR:=aZ_ (Kd.Heap.C (Kd.heap_int .u8) hb.block HR.out);replace HB:=aZ_ (below_step HB.out hb);replace HT:=aZ_ (HT.out.below hb);replace HP:=aZ_ (Kd.Heap.C (Kd.heap_int .i64) hb.block HP.out);replace BF:=aZ_ (blk_below BF.out hb);replace HN:=aZ_ (heapD _ _ _ _ hb HN.out);obtain ⟨A7,c7,rfl,hlc_,hr_⟩:=Kd.R_reads hq;have HM:=aZ_ hr_;have HMc:=aZ_ hlc_;clear hr_ hlc_;clear hq;clear hb;clear hc_BF_0 hc_BF_1;obtain ⟨hc_BF_0,hc_BF_1⟩:=(bc2_ BF.out).1)
   have C0:=aZ_ hc_BF_0;have C1:=aZ_ hc_BF_1;clear hc_BF_0 hc_BF_1;have h_o:(o != o) = false:=bne_self_eq_false o;have h_sz:(sz != sz) = false:=bne_self_eq_false sz;have hb:=below_drew (Below.refl w5.heap.size w5);replace C0:Aside0 (w5.drew.cell? ⟨gf,0,none⟩ = some (.int .i64 f1)):=⟨pw_cell_below hb C0.out⟩;replace C1:Aside0 (w5.drew.cell? ⟨gf,1,none⟩ = some (.int .i64 f2)):=⟨pw_cell_below hb C1.out⟩;replace HR:=aZ_ (Kd.Heap.C (Kd.heap_int .u8) hb.block HR.out);replace HB:=aZ_ (below_step HB.out hb);replace HT:=aZ_ (HT.out.below hb);replace BF:=aZ_ (blk_below BF.out hb);replace HP:=aZ_ (Kd.Heap.C (Kd.heap_int .i64) hb.block HP.out);replace HN:=aZ_ (heapD _ _ _ _ hb HN.out);replace HM:=aZ_ (heapD _ _ _ _ hb HM.out);clear hb;refine start_ (n:=18) (S:=(fun w_=>w_.cell? ⟨gf,0,none⟩ = some (.int .i64 f1) ∧ w_.cell? ⟨gf,1,none⟩ = some (.int .i64 f2))) (ds:=[]) (bA 18 0) T22_ rfl rfl ⟨C0.out,C1.out⟩ (fun hHeld=>?_);refine with_tabW laws_FnDiagrams.tab6 laws_FnDiagrams.bits6 (fun HT_ HW_=>?_);generalize w5.drew = W0_ at C0 C1 HR HB HT BF HP HN HM hHeld ⊢;refine pZ_ 0 (some 46) (bA 18 1) ?_;refine pZ_ 1 (some 47) (bA 18 3) ?_;refine pZ_ 2 (some 48) (bA 18 7) ?_;refine pZ_ 3 (some 49) (bA 18 15) ?_;refine pZ_ 4 (some 50) (bA 18 31) ?_;refine pZ_ 5 (some 51) (bA 18 63) ?_;refine one_ (i:=6) (N:=some 52) (bA 18 127) rfl rfl (one_of HT_.out T22_) T55_ (fun K hK=>?_);refine gZ_ Tryz.func8 #[.slice A5 m.length c5,.slice A7 m.length c7] ?_;with_reducible refine (laws_sameNodes.calls k A5 c5 m A7 c7 m true _ HN.out HNc.out HM.out HMc.out HG.out.same).mono ?_
   rintro e W1_ ⟨rfl,hd⟩;have hb:=hd.below;clear hd;refine ⟨_,rfl,?_⟩;replace C0:Aside0 (W1_.cell? ⟨gf,0,none⟩ = some (.int .i64 f1)):=⟨pw_cell_below hb C0.out⟩;replace C1:Aside0 (W1_.cell? ⟨gf,1,none⟩ = some (.int .i64 f2)):=⟨pw_cell_below hb C1.out⟩;replace HR:=aZ_ (Kd.Heap.C (Kd.heap_int .u8) hb.block HR.out);replace HB:=aZ_ (below_step HB.out hb);replace HT:=aZ_ (HT.out.below hb);replace BF:=aZ_ (blk_below BF.out hb);replace HP:=aZ_ (Kd.Heap.C (Kd.heap_int .i64) hb.block HP.out);replace HN:=aZ_ (heapD _ _ _ _ hb HN.out);replace HM:=aZ_ (heapD _ _ _ _ hb HM.out);clear hb;refine hK.out _ _ ⟨C0.out,C1.out⟩ (fun hHeld=>?_);clear hK K;refine nZ_ (some 52) ?_;refine pZ_ 7 (some 53) (bA 18 255) ?_;refine pZ_ 8 (some 54) (bA 18 511) ?_;refine pZ_ 9 (some 55) (bA 18 1023) ?_;refine tZ2_ 10 (some 56) (bA 18 2047) hHeld ?_;refine pZ_ 11 (some 57) (bA 18 4095) ?_;refine tZ2_ 13 (some 59) (bA 18 12287) hHeld ?_;refine pZ_ 14 (some 60) (bA 18 28671) ?_;refine one_ (i:=12) (N:=some 58) (bA 18 32767) rfl rfl (one_of HT_.out T22_) T55_ (fun K hK=>?_);refine gZ_ Tryz.func9 #[.agg #[.int .i64 f1,.int .i64 f2],.slice Ap p.length cp] ?_;with_reducible refine (impl_SizeOfDiagram.calls k f1 f2 Ap cp p sz _ HP.out HPc.out HG.out.z1).mono ?_
   rintro e W2_ ⟨rfl,hb⟩;refine ⟨_,rfl,?_⟩;replace C0:Aside0 (W2_.cell? ⟨gf,0,none⟩ = some (.int .i64 f1)):=⟨pw_cell_below hb C0.out⟩;replace C1:Aside0 (W2_.cell? ⟨gf,1,none⟩ = some (.int .i64 f2)):=⟨pw_cell_below hb C1.out⟩;replace HR:=aZ_ (Kd.Heap.C (Kd.heap_int .u8) hb.block HR.out);replace HB:=aZ_ (below_step HB.out hb);replace HT:=aZ_ (HT.out.below hb);replace BF:=aZ_ (blk_below BF.out hb);replace HP:=aZ_ (Kd.Heap.C (Kd.heap_int .i64) hb.block HP.out);replace HN:=aZ_ (heapD _ _ _ _ hb HN.out);replace HM:=aZ_ (heapD _ _ _ _ hb HM.out);clear hb;refine hK.out _ _ ⟨C0.out,C1.out⟩ (fun hHeld=>?_);clear hK K;refine nZ_ (some 58) ?_;refine one_ (i:=15) (N:=some 61) (bA 18 65535) rfl rfl (one_of HT_.out T22_) T55_ (fun K hK=>?_);refine gZ_ Tryz.func10 #[.agg #[.int .i64 f1,.int .i64 f2],.slice Ap p.length cp] ?_;with_reducible refine (spec_SizeOfDiagram.calls k f1 f2 Ap cp p sz _ HP.out HPc.out HG.out.z2).mono ?_
   rintro e W3_ ⟨rfl,hb⟩;refine ⟨_,rfl,?_⟩;replace C0:Aside0 (W3_.cell? ⟨gf,0,none⟩ = some (.int .i64 f1)):=⟨pw_cell_below hb C0.out⟩;replace C1:Aside0 (W3_.cell? ⟨gf,1,none⟩ = some (.int .i64 f2)):=⟨pw_cell_below hb C1.out⟩;replace HR:=aZ_ (Kd.Heap.C (Kd.heap_int .u8) hb.block HR.out);replace HB:=aZ_ (below_step HB.out hb);replace HT:=aZ_ (HT.out.below hb);replace BF:=aZ_ (blk_below BF.out hb);replace HP:=aZ_ (Kd.Heap.C (Kd.heap_int .i64) hb.block HP.out);replace HN:=aZ_ (heapD _ _ _ _ hb HN.out);replace HM:=aZ_ (heapD _ _ _ _ hb HM.out);clear hb;refine hK.out _ _ ⟨C0.out,C1.out⟩ (fun hHeld=>?_);clear hK K;refine nZ_ (some 61) ?_;refine pZ_ 16 (some 62) (bA 18 131071) ?_;refine pZ_ 17 (some 63) (bA 18 262143) ?_;refine done_ (done_of HT_.out T22_) ?_;clear C0 C1 hHeld HT_ HW_ HN HNc h_o h_sz;obtain ⟨hc_BF_0,hc_BF_1⟩:=(bc2_ BF.out).1
   go_upto_if 64 with (fail)
   go_cut [] (fun wx=>Aside0 (Kd.C (Kd.int .u8) wx A0 l0.length l0) ∧ Aside0 (Below w.heap.size w wx) ∧ Aside0 (Tens wx))
   case first =>
    as_aux_lemma =>
     by_cases ho:o = true
     case neg =>
      obtain rfl:o = false:=by simpa using ho
      clear ho
      go_wp2_with (fail)
      go_meet;exact ⟨HR,HB,HT⟩
     case pos =>
      obtain ⟨cn,sp,vl,lq,nn,fine,vs,GB⟩:=HG.out.big ho;subst ho;have HK:=aZ_ GB;clear GB;have h0f:(0:Int) ≤ f1:=HK.out.f0;have hml:=aZ_ HG.out.mlen;have hs_:=HK.out.sh
      by_cases h0:0 < m.length
      case pos =>
       have hz1:decide ((m.length:Int) = 0) = false:=decide_eq_false T73_;have hz2:((m.length:Int) == 0) = false:=beq_eq_false_iff_ne.mpr T73_;have hz3:decide ((m.length:Int) > 0) = true:=decide_eq_true T73_;have hz4:decide (0 < m.length) = true:=decide_eq_true h0;have h0z:(0:Int) < (m.length:Int):=by omega
       have hcon:impl_IsConstant.f f1 f2 = some false:=by rw [HK.out.con,decide_eq_false T73_]
       have h_cn:(cn != cn) = false:=bne_self_eq_false cn;have HCON:=aZ_ hcon;have HQ0:=aZ_ h0;clear hcon h0
       go_upto_region 9 with (fail)
       have C0:=aZ_ hc_BF_0;have C1:=aZ_ hc_BF_1;clear hc_BF_0 hc_BF_1;have hb:=below_drew (Below.refl W3_.heap.size W3_);replace C0:Aside0 (W3_.drew.cell? ⟨gf,0,none⟩ = some (.int .i64 f1)):=⟨pw_cell_below hb C0.out⟩;replace C1:Aside0 (W3_.drew.cell? ⟨gf,1,none⟩ = some (.int .i64 f2)):=⟨pw_cell_below hb C1.out⟩;replace HR:=aZ_ (Kd.Heap.C (Kd.heap_int .u8) hb.block HR.out);replace HB:=aZ_ (below_step HB.out hb);replace HT:=aZ_ (HT.out.below hb);replace BF:=aZ_ (blk_below BF.out hb);replace HP:=aZ_ (Kd.Heap.C (Kd.heap_int .i64) hb.block HP.out);replace HM:=aZ_ (heapD _ _ _ _ hb HM.out);clear hb;refine start_ (n:=25) (S:=(fun w_=>w_.cell? ⟨gf,0,none⟩ = some (.int .i64 f1) ∧ w_.cell? ⟨gf,1,none⟩ = some (.int .i64 f2))) (ds:=[]) (bA 25 0) T22_ rfl rfl ⟨C0.out,C1.out⟩ (fun hHeld=>?_);refine with_tabW laws_FnDiagrams.tab9 laws_FnDiagrams.bits9 (fun HT_ HW_=>?_);generalize W3_.drew = W0_ at C0 C1 HR HB HT BF HP HM hHeld ⊢;refine tZ2_ 0 (some 65) (bA 25 1) hHeld ?_;refine pZ_ 2 (some 67) (bA 25 5) ?_;refine pZ_ 3 (some 68) (bA 25 13) ?_;refine pZ_ 4 (some 69) (bA 25 29) ?_;refine one_ (i:=1) (N:=some 66) (bA 25 31) rfl rfl (one_of HT_.out T22_) T55_ (fun K hK=>?_);refine gZ_ Tryz.func11 #[.agg #[.int .i64 f1,.int .i64 f2]] ?_;with_reducible refine (impl_IsConstant.calls f1 f2 false _ HCON.out).mono ?_
       rintro e W1_ ⟨rfl,hb⟩;refine ⟨_,rfl,?_⟩;replace C0:Aside0 (W1_.cell? ⟨gf,0,none⟩ = some (.int .i64 f1)):=⟨pw_cell_below hb C0.out⟩;replace C1:Aside0 (W1_.cell? ⟨gf,1,none⟩ = some (.int .i64 f2)):=⟨pw_cell_below hb C1.out⟩;replace HR:=aZ_ (Kd.Heap.C (Kd.heap_int .u8) hb.block HR.out);replace HB:=aZ_ (below_step HB.out hb);replace HT:=aZ_ (HT.out.below hb);replace BF:=aZ_ (blk_below BF.out hb);replace HP:=aZ_ (Kd.Heap.C (Kd.heap_int .i64) hb.block HP.out);replace HM:=aZ_ (heapD _ _ _ _ hb HM.out);clear hb;refine hK.out _ _ ⟨C0.out,C1.out⟩ (fun hHeld=>?_);clear hK K;refine nZ_ (some 66) ?_;refine pZ_ 5 (some 70) (bA 25 63) ?_;refine pZ_ 6 (some 71) (bA 25 127) ?_;refine pZ_ 7 (some 72) (bA 25 255) ?_;refine pZ_ 8 (some 73) (bA 25 511) ?_;refine pZ_ 9 (some 74) (bA 25 1023) ?_;refine pZ_ 10 (some 75) (bA 25 2047) ?_;refine pZ_ 11 (some 76) (bA 25 4095) ?_;refine pZ_ 12 (some 77) (bA 25 8191) ?_;refine one_ (i:=13) (N:=some 78) (bA 25 16383) rfl rfl (one_of HT_.out T22_) T55_ (fun K hK=>?_);refine gZ_ Tryz.func12 #[.slice A7 m.length c7,.slice Ap p.length cp] ?_;with_reducible refine (impl_IsDiagram.calls A7 c7 m Ap cp p true _ HM.out HMc.out HP.out HPc.out (HK.out.isd HQ0.out)).mono ?_
       rintro e W2_ ⟨rfl,hb⟩;refine ⟨_,rfl,?_⟩;replace C0:Aside0 (W2_.cell? ⟨gf,0,none⟩ = some (.int .i64 f1)):=⟨pw_cell_below hb C0.out⟩;replace C1:Aside0 (W2_.cell? ⟨gf,1,none⟩ = some (.int .i64 f2)):=⟨pw_cell_below hb C1.out⟩;replace HR:=aZ_ (Kd.Heap.C (Kd.heap_int .u8) hb.block HR.out);replace HB:=aZ_ (below_step HB.out hb);replace HT:=aZ_ (HT.out.below hb);replace BF:=aZ_ (blk_below BF.out hb);replace HP:=aZ_ (Kd.Heap.C (Kd.heap_int .i64) hb.block HP.out);replace HM:=aZ_ (heapD _ _ _ _ hb HM.out);clear hb;refine hK.out _ _ ⟨C0.out,C1.out⟩ (fun hHeld=>?_);clear hK K;refine nZ_ (some 78) ?_;refine pZ_ 14 (some 79) (bA 25 32767) ?_;refine pZ_ 15 (some 80) (bA 25 65535) ?_;refine pZ_ 16 (some 81) (bA 25 131071) ?_;refine pZ_ 17 (some 82) (bA 25 262143) ?_;refine tZ2_ 19 (some 84) (bA 25 786431) hHeld ?_;refine one_ (i:=18) (N:=some 83) (bA 25 1048575) rfl rfl (one_of HT_.out T22_) T55_ (fun K hK=>?_);refine gZ_ Tryz.func13 #[.slice A7 m.length c7,.slice Ap p.length cp] ?_;with_reducible refine (impl_CountInDiagram.calls k A7 c7 m Ap cp p cn _ HM.out HMc.out HP.out HPc.out (HK.out.cnt HQ0.out)).mono ?_
       rintro e W3_ ⟨rfl,hb⟩;refine ⟨_,rfl,?_⟩;replace C0:Aside0 (W3_.cell? ⟨gf,0,none⟩ = some (.int .i64 f1)):=⟨pw_cell_below hb C0.out⟩;replace C1:Aside0 (W3_.cell? ⟨gf,1,none⟩ = some (.int .i64 f2)):=⟨pw_cell_below hb C1.out⟩;replace HR:=aZ_ (Kd.Heap.C (Kd.heap_int .u8) hb.block HR.out);replace HB:=aZ_ (below_step HB.out hb);replace HT:=aZ_ (HT.out.below hb);replace BF:=aZ_ (blk_below BF.out hb);replace HP:=aZ_ (Kd.Heap.C (Kd.heap_int .i64) hb.block HP.out);replace HM:=aZ_ (heapD _ _ _ _ hb HM.out);clear hb;refine hK.out _ _ ⟨C0.out,C1.out⟩ (fun hHeld=>?_);clear hK K;refine nZ_ (some 83) ?_;refine one_ (i:=20) (N:=some 85) (bA 25 2097151) rfl rfl (one_of HT_.out T22_) T55_ (fun K hK=>?_);refine gZ_ Tryz.func14 #[.agg #[.int .i64 f1,.int .i64 f2]] ?_;with_reducible refine (impl_CountOnes.calls f1 f2 cn _ (HK.out.ones HQ0.out)).mono ?_
       rintro e W4_ ⟨rfl,hb⟩;refine ⟨_,rfl,?_⟩;replace C0:Aside0 (W4_.cell? ⟨gf,0,none⟩ = some (.int .i64 f1)):=⟨pw_cell_below hb C0.out⟩;replace C1:Aside0 (W4_.cell? ⟨gf,1,none⟩ = some (.int .i64 f2)):=⟨pw_cell_below hb C1.out⟩;replace HR:=aZ_ (Kd.Heap.C (Kd.heap_int .u8) hb.block HR.out);replace HB:=aZ_ (below_step HB.out hb);replace HT:=aZ_ (HT.out.below hb);replace BF:=aZ_ (blk_below BF.out hb);replace HP:=aZ_ (Kd.Heap.C (Kd.heap_int .i64) hb.block HP.out);replace HM:=aZ_ (heapD _ _ _ _ hb HM.out);clear hb;refine hK.out _ _ ⟨C0.out,C1.out⟩ (fun hHeld=>?_);clear hK K;refine nZ_ (some 85) ?_;refine pZ_ 21 (some 86) (bA 25 4194303) ?_;refine pZ_ 22 (some 87) (bA 25 8388607) ?_;refine pZ_ 23 (some 88) (bA 25 16777215) ?_;refine pZ_ 24 (some 89) (bA 25 33554431) ?_;refine done_ (done_of HT_.out T22_) ?_;clear C0 C1 hHeld HT_ HW_ HP HPc hz1 hz2 h_cn;have hs0:=aZ_ HK.out.s0;have hsM:=aZ_ HK.out.sM
       go_wp2_with (fail)
       go_loopg [9] sp (fun gg v9 wr=>∃ e:Nat,e ≤ sp ∧ sp - e ≤ gg ∧ v9 = .int .i64 (e:Int) ∧ Aside0 (Kd.C (Kd.int .u8) wr A0 l0.length l0) ∧ Aside0 (Below w.heap.size w wr) ∧ Aside0 (Tens wr) ∧ Aside0 (wr.heap[gf]? = some (.cells #[.int .i64 f1,.int .i64 f2] 25 (0,0))) ∧ Aside0 (Kd.C k56 wr A7 m.length m))
       case atStart=>exact ⟨0,Nat.zero_le _,by omega,rfl,HR,HB,HT,BF,HM⟩
       case round =>
        clear HR HB HT BF HM;obtain ⟨e,he,hg,rfl,HR,HB,HT,BF,HM⟩:=hrel
        by_cases hlt:e < sp
        case pos =>
         have hltz:(e:Int) < (sp:Int):=by omega
         have HE:=aZ_ (And.intro hlt hg);have HV:=aZ_ (HK.out.vals HQ0.out e hlt);clear hlt hg he;have h_v:(vl e != vl e) = false:=bne_self_eq_false _;obtain ⟨hc_BF_0,hc_BF_1⟩:=(bc2_ BF.out).1
         go_upto_region 14 with (fail)
         have C0:=aZ_ hc_BF_0;have C1:=aZ_ hc_BF_1;clear hc_BF_0 hc_BF_1;have hb:=below_drew (Below.refl wr.heap.size wr);replace C0:Aside0 (wr.drew.cell? ⟨gf,0,none⟩ = some (.int .i64 f1)):=⟨pw_cell_below hb C0.out⟩;replace C1:Aside0 (wr.drew.cell? ⟨gf,1,none⟩ = some (.int .i64 f2)):=⟨pw_cell_below hb C1.out⟩;replace HR:=aZ_ (Kd.Heap.C (Kd.heap_int .u8) hb.block HR.out);replace HB:=aZ_ (below_step HB.out hb);replace HT:=aZ_ (HT.out.below hb);replace BF:=aZ_ (blk_below BF.out hb);replace HM:=aZ_ (heapD _ _ _ _ hb HM.out);clear hb;refine start_ (n:=7) (S:=(fun w_=>w_.cell? ⟨gf,0,none⟩ = some (.int .i64 f1) ∧ w_.cell? ⟨gf,1,none⟩ = some (.int .i64 f2))) (ds:=[]) (bA 7 0) T22_ rfl rfl ⟨C0.out,C1.out⟩ (fun hHeld=>?_);refine with_tabW laws_FnDiagrams.tab14 laws_FnDiagrams.bits14 (fun HT_ HW_=>?_);generalize wr.drew = W0_ at C0 C1 HR HB HT BF HM hHeld ⊢;refine pZ_ 0 (some 102) (bA 7 1) ?_;refine pZ_ 1 (some 103) (bA 7 3) ?_;refine tZ2_ 3 (some 105) (bA 7 11) hHeld ?_;refine pZ_ 4 (some 106) (bA 7 27) ?_;refine one_ (i:=2) (N:=some 104) (bA 7 31) rfl rfl (one_of HT_.out T22_) T55_ (fun K hK=>?_);refine gZ_ Tryz.func15 #[.slice A7 m.length c7,.int .i64 (e:Int)] ?_;with_reducible refine (impl_ValueInDiagram.calls k A7 c7 m (e:Int) (vl e) _ HM.out HMc.out HV.out.1).mono ?_
         rintro e W1_ ⟨rfl,hb⟩;refine ⟨_,rfl,?_⟩;replace C0:Aside0 (W1_.cell? ⟨gf,0,none⟩ = some (.int .i64 f1)):=⟨pw_cell_below hb C0.out⟩;replace C1:Aside0 (W1_.cell? ⟨gf,1,none⟩ = some (.int .i64 f2)):=⟨pw_cell_below hb C1.out⟩;replace HR:=aZ_ (Kd.Heap.C (Kd.heap_int .u8) hb.block HR.out);replace HB:=aZ_ (below_step HB.out hb);replace HT:=aZ_ (HT.out.below hb);replace BF:=aZ_ (blk_below BF.out hb);replace HM:=aZ_ (heapD _ _ _ _ hb HM.out);clear hb;refine hK.out _ _ ⟨C0.out,C1.out⟩ (fun hHeld=>?_);clear hK K;refine nZ_ (some 104) ?_;refine one_ (i:=5) (N:=some 107) (bA 7 63) rfl rfl (one_of HT_.out T22_) T55_ (fun K hK=>?_);refine gZ_ Tryz.func16 #[.agg #[.int .i64 f1,.int .i64 f2],.int .i64 (e:Int)] ?_;with_reducible refine (impl_ValueAt.calls f1 f2 (e:Int) (vl e) _ HV.out.2).mono ?_
         rintro e W2_ ⟨rfl,hb⟩;refine ⟨_,rfl,?_⟩;replace C0:Aside0 (W2_.cell? ⟨gf,0,none⟩ = some (.int .i64 f1)):=⟨pw_cell_below hb C0.out⟩;replace C1:Aside0 (W2_.cell? ⟨gf,1,none⟩ = some (.int .i64 f2)):=⟨pw_cell_below hb C1.out⟩;replace HR:=aZ_ (Kd.Heap.C (Kd.heap_int .u8) hb.block HR.out);replace HB:=aZ_ (below_step HB.out hb);replace HT:=aZ_ (HT.out.below hb);replace BF:=aZ_ (blk_below BF.out hb);replace HM:=aZ_ (heapD _ _ _ _ hb HM.out);clear hb;refine hK.out _ _ ⟨C0.out,C1.out⟩ (fun hHeld=>?_);clear hK K;refine nZ_ (some 107) ?_;refine pZ_ 6 (some 108) (bA 7 127) ?_;refine done_ (done_of HT_.out T22_) ?_;clear C0 C1 hHeld HT_ HW_
         go_wp2_with (fail)
         go_roundg (sp - (e + 1))
         case measure=>have:=HE.out;omega
         case rel=>exact ⟨e + 1,by have:=HE.out;omega,by omega,congrArg (Value.int .i64) (by have:=HE.out;have:=hsM.out;rw [B.wrap64_of T73_ T73_];rfl),HR,HB,HT,BF,HM⟩
        case neg =>
         have hltz:¬ (e:Int) < (sp:Int):=by omega
         clear hlt hg he;obtain ⟨hc_BF_0,hc_BF_1⟩:=(bc2_ BF.out).1
         by_cases hfi:fine = true
         case pos =>
          have HF1:=aZ_ (HK.out.fin1 hfi);have HF2:=aZ_ (HK.out.fin2 hfi);have HF3:=aZ_ (HK.out.fin3 hfi);have HF4:=aZ_ (HK.out.fin4 hfi);subst hfi;have hy1:decide (nn > (m.length:Int)) = false:=decide_eq_false (by have:=HF1.out;omega);have hy2:¬ (m.length:Int) < nn:=by have:=HF1.out;omega
          have hy3:(nn != nn) = false:=bne_self_eq_false nn;have hy4:decide (nn < (vs.length:Int)) = false:=decide_eq_false (by have:=HF4.out;omega);have hy5:¬ nn < (vs.length:Int):=by have:=HF4.out;omega
          go_upto_region 17 with (go_at_call 17;refine (impl_LeastOrder.calls f1 f2 lq nn true _ HK.out.least).mono ?_;rintro e w6 ⟨vq,rfl,hq,hb⟩;replace HR:=aZ_ (Kd.Heap.C (Kd.heap_int .u8) hb.block HR.out);replace HB:=aZ_ (below_step HB.out hb);replace HT:=aZ_ (HT.out.below hb);replace BF:=aZ_ (blk_below BF.out hb);replace HM:=aZ_ (heapD _ _ _ _ hb HM.out);obtain ⟨Aq,cq,rfl,hlc_,hr_⟩:=Kd.R_reads hq;have HQ:=aZ_ hr_;have HQc:=aZ_ hlc_;clear hr_ hlc_;clear hq;clear hb;clear hc_BF_0 hc_BF_1;obtain ⟨hc_BF_0,hc_BF_1⟩:=(bc2_ BF.out).1)
          go_wp2_with (first | (go_at_call 9;refine (impl_SizeOfDiagram.calls k f1 f2 Aq cq lq nn _ HQ.out HQc.out HF2.out).mono ?_;rintro e wa ⟨rfl,hb⟩;replace HR:=aZ_ (Kd.Heap.C (Kd.heap_int .u8) hb.block HR.out);replace HB:=aZ_ (below_step HB.out hb);replace HT:=aZ_ (HT.out.below hb);replace BF:=aZ_ (blk_below BF.out hb);replace HM:=aZ_ (heapD _ _ _ _ hb HM.out);replace HQ:=aZ_ (Kd.Heap.C (Kd.heap_int .i64) hb.block HQ.out);clear hb;clear hc_BF_0 hc_BF_1;obtain ⟨hc_BF_0,hc_BF_1⟩:=(bc2_ BF.out).1) | (go_at_call 18;refine (impl_VariablesOf.calls k f1 f2 vs _ HF3.out).mono ?_;rintro e wb ⟨vq,rfl,hq,hb⟩;replace HR:=aZ_ (Kd.Heap.C (Kd.heap_int .u8) hb.block HR.out);replace HB:=aZ_ (below_step HB.out hb);replace HT:=aZ_ (HT.out.below hb);replace BF:=aZ_ (blk_below BF.out hb);replace HM:=aZ_ (heapD _ _ _ _ hb HM.out);replace HQ:=aZ_ (Kd.Heap.C (Kd.heap_int .i64) hb.block HQ.out);obtain ⟨Av,cv,rfl,hlc_,hr_⟩:=Kd.R_reads hq;have HVS:=aZ_ hr_;have HVSc:=aZ_ hlc_;clear hr_ hlc_;clear hq;clear hb;clear hc_BF_0 hc_BF_1;obtain ⟨hc_BF_0,hc_BF_1⟩:=(bc2_ BF.out).1))
          go_meet;exact ⟨HR,HB,HT⟩
         case neg =>
          obtain rfl:fine = false:=by simpa using hfi
          clear hfi
          go_upto_region 17 with (go_at_call 17;refine (impl_LeastOrder.calls f1 f2 lq nn false _ HK.out.least).mono ?_;rintro e w6 ⟨vq,rfl,hq,hb⟩;replace HR:=aZ_ (Kd.Heap.C (Kd.heap_int .u8) hb.block HR.out);replace HB:=aZ_ (below_step HB.out hb);replace HT:=aZ_ (HT.out.below hb);replace BF:=aZ_ (blk_below BF.out hb);replace HM:=aZ_ (heapD _ _ _ _ hb HM.out);obtain ⟨Aq,cq,rfl,hlc_,hr_⟩:=Kd.R_reads hq;have HQ:=aZ_ hr_;have HQc:=aZ_ hlc_;clear hr_ hlc_;clear hq;clear hb;clear hc_BF_0 hc_BF_1;obtain ⟨hc_BF_0,hc_BF_1⟩:=(bc2_ BF.out).1)
          go_wp2_with (fail)
          go_meet;exact ⟨HR,HB,HT⟩
      case neg =>
       have hz1:decide ((m.length:Int) = 0) = true:=decide_eq_true T73_;have hz2:((m.length:Int) == 0) = true:=beq_iff_eq.mpr T73_;have hz3:decide ((m.length:Int) > 0) = false:=decide_eq_false T73_;have hz4:decide (0 < m.length) = false:=decide_eq_false h0;have h0z:¬ (0:Int) < (m.length:Int):=by omega
       have hcon:impl_IsConstant.f f1 f2 = some true:=by rw [HK.out.con,decide_eq_true T73_]
       have HCON:=aZ_ hcon;have HQ0:=aZ_ h0;clear hcon h0
       go_upto_region 9 with (fail)
       have C0:=aZ_ hc_BF_0;have C1:=aZ_ hc_BF_1;clear hc_BF_0 hc_BF_1;have hb:=below_drew (Below.refl W3_.heap.size W3_);replace C0:Aside0 (W3_.drew.cell? ⟨gf,0,none⟩ = some (.int .i64 f1)):=⟨pw_cell_below hb C0.out⟩;replace C1:Aside0 (W3_.drew.cell? ⟨gf,1,none⟩ = some (.int .i64 f2)):=⟨pw_cell_below hb C1.out⟩;replace HR:=aZ_ (Kd.Heap.C (Kd.heap_int .u8) hb.block HR.out);replace HB:=aZ_ (below_step HB.out hb);replace HT:=aZ_ (HT.out.below hb);replace BF:=aZ_ (blk_below BF.out hb);replace HP:=aZ_ (Kd.Heap.C (Kd.heap_int .i64) hb.block HP.out);replace HM:=aZ_ (heapD _ _ _ _ hb HM.out);clear hb;refine start_ (n:=25) (S:=(fun w_=>w_.cell? ⟨gf,0,none⟩ = some (.int .i64 f1) ∧ w_.cell? ⟨gf,1,none⟩ = some (.int .i64 f2))) (ds:=[]) (bA 25 0) T22_ rfl rfl ⟨C0.out,C1.out⟩ (fun hHeld=>?_);refine with_tabW laws_FnDiagrams.tab9 laws_FnDiagrams.bits9 (fun HT_ HW_=>?_);generalize W3_.drew = W0_ at C0 C1 HR HB HT BF HP HM hHeld ⊢;refine tZ2_ 0 (some 65) (bA 25 1) hHeld ?_;refine pZ_ 2 (some 67) (bA 25 5) ?_;refine pZ_ 3 (some 68) (bA 25 13) ?_;refine pZ_ 4 (some 69) (bA 25 29) ?_;refine one_ (i:=1) (N:=some 66) (bA 25 31) rfl rfl (one_of HT_.out T22_) T55_ (fun K hK=>?_);refine gZ_ Tryz.func11 #[.agg #[.int .i64 f1,.int .i64 f2]] ?_;with_reducible refine (impl_IsConstant.calls f1 f2 true _ HCON.out).mono ?_
       rintro e W1_ ⟨rfl,hb⟩;refine ⟨_,rfl,?_⟩;replace C0:Aside0 (W1_.cell? ⟨gf,0,none⟩ = some (.int .i64 f1)):=⟨pw_cell_below hb C0.out⟩;replace C1:Aside0 (W1_.cell? ⟨gf,1,none⟩ = some (.int .i64 f2)):=⟨pw_cell_below hb C1.out⟩;replace HR:=aZ_ (Kd.Heap.C (Kd.heap_int .u8) hb.block HR.out);replace HB:=aZ_ (below_step HB.out hb);replace HT:=aZ_ (HT.out.below hb);replace BF:=aZ_ (blk_below BF.out hb);replace HP:=aZ_ (Kd.Heap.C (Kd.heap_int .i64) hb.block HP.out);replace HM:=aZ_ (heapD _ _ _ _ hb HM.out);clear hb;refine hK.out _ _ ⟨C0.out,C1.out⟩ (fun hHeld=>?_);clear hK K;refine nZ_ (some 66) ?_;refine pZ_ 5 (some 70) (bA 25 63) ?_;refine pZ_ 6 (some 71) (bA 25 127) ?_;refine pZ_ 7 (some 72) (bA 25 255) ?_;refine pZ_ 8 (some 73) (bA 25 511) ?_;refine pZ_ 9 (some 74) (bA 25 1023) ?_;refine pZ_ 10 (some 75) (bA 25 2047) ?_;refine oZ_ 11 (some 76) (bA 25 4095) ?_;refine oZ_ 12 (some 77) (bA 25 8191) ?_;refine oZ_ 13 (some 78) (bA 25 16383) ?_;refine oZ_ 14 (some 79) (bA 25 32767) ?_;refine oZ_ 15 (some 80) (bA 25 65535) ?_;refine oZ_ 16 (some 81) (bA 25 131071) ?_;refine oZ_ 17 (some 82) (bA 25 262143) ?_;refine oZ_ 18 (some 83) (bA 25 524287) ?_;refine oZ_ 19 (some 84) (bA 25 1048575) ?_;refine oZ_ 20 (some 85) (bA 25 2097151) ?_;refine oZ_ 21 (some 86) (bA 25 4194303) ?_;refine oZ_ 22 (some 87) (bA 25 8388607) ?_;refine pZ_ 23 (some 88) (bA 25 16777215) ?_;refine pZ_ 24 (some 89) (bA 25 33554431) ?_;refine done_ (done_of HT_.out T22_) ?_;clear C0 C1 hHeld HT_ HW_ HP HPc hz1 hz2;have hs0:=aZ_ HK.out.s0;have hsM:=aZ_ HK.out.sM
       go_wp2_with (fail)
       go_loopg [9] sp (fun gg v9 wr=>∃ e:Nat,e = 0 ∧ e ≤ sp ∧ sp - e ≤ gg ∧ v9 = .int .i64 (e:Int) ∧ Aside0 (Kd.C (Kd.int .u8) wr A0 l0.length l0) ∧ Aside0 (Below w.heap.size w wr) ∧ Aside0 (Tens wr) ∧ Aside0 (wr.heap[gf]? = some (.cells #[.int .i64 f1,.int .i64 f2] 25 (0,0))) ∧ Aside0 (Kd.C k56 wr A7 m.length m))
       case atStart=>exact ⟨0,rfl,Nat.zero_le _,by omega,rfl,HR,HB,HT,BF,HM⟩
       case round =>
        clear HR HB HT BF HM;obtain ⟨e,hez,he,hg,rfl,HR,HB,HT,BF,HM⟩:=hrel;have hltz:(e:Int) < (sp:Int):=by have:=hs0.out;omega
        clear hez hg he;obtain ⟨hc_BF_0,hc_BF_1⟩:=(bc2_ BF.out).1
        by_cases hfi:fine = true
        case pos =>
         have HF1:=aZ_ (HK.out.fin1 hfi);have HF2:=aZ_ (HK.out.fin2 hfi);have HF3:=aZ_ (HK.out.fin3 hfi);have HF4:=aZ_ (HK.out.fin4 hfi);subst hfi;have hy1:decide (nn > (m.length:Int)) = false:=decide_eq_false (by have:=HF1.out;omega);have hy2:¬ (m.length:Int) < nn:=by have:=HF1.out;omega
         have hy3:(nn != nn) = false:=bne_self_eq_false nn;have hy4:decide (nn < (vs.length:Int)) = false:=decide_eq_false (by have:=HF4.out;omega);have hy5:¬ nn < (vs.length:Int):=by have:=HF4.out;omega
         go_upto_region 17 with (go_at_call 17;refine (impl_LeastOrder.calls f1 f2 lq nn true _ HK.out.least).mono ?_;rintro e w6 ⟨vq,rfl,hq,hb⟩;replace HR:=aZ_ (Kd.Heap.C (Kd.heap_int .u8) hb.block HR.out);replace HB:=aZ_ (below_step HB.out hb);replace HT:=aZ_ (HT.out.below hb);replace BF:=aZ_ (blk_below BF.out hb);replace HM:=aZ_ (heapD _ _ _ _ hb HM.out);obtain ⟨Aq,cq,rfl,hlc_,hr_⟩:=Kd.R_reads hq;have HQ:=aZ_ hr_;have HQc:=aZ_ hlc_;clear hr_ hlc_;clear hq;clear hb;clear hc_BF_0 hc_BF_1;obtain ⟨hc_BF_0,hc_BF_1⟩:=(bc2_ BF.out).1)
         go_wp2_with (first | (go_at_call 9;refine (impl_SizeOfDiagram.calls k f1 f2 Aq cq lq nn _ HQ.out HQc.out HF2.out).mono ?_;rintro e wa ⟨rfl,hb⟩;replace HR:=aZ_ (Kd.Heap.C (Kd.heap_int .u8) hb.block HR.out);replace HB:=aZ_ (below_step HB.out hb);replace HT:=aZ_ (HT.out.below hb);replace BF:=aZ_ (blk_below BF.out hb);replace HM:=aZ_ (heapD _ _ _ _ hb HM.out);replace HQ:=aZ_ (Kd.Heap.C (Kd.heap_int .i64) hb.block HQ.out);clear hb;clear hc_BF_0 hc_BF_1;obtain ⟨hc_BF_0,hc_BF_1⟩:=(bc2_ BF.out).1) | (go_at_call 18;refine (impl_VariablesOf.calls k f1 f2 vs _ HF3.out).mono ?_;rintro e wb ⟨vq,rfl,hq,hb⟩;replace HR:=aZ_ (Kd.Heap.C (Kd.heap_int .u8) hb.block HR.out);replace HB:=aZ_ (below_step HB.out hb);replace HT:=aZ_ (HT.out.below hb);replace BF:=aZ_ (blk_below BF.out hb);replace HM:=aZ_ (heapD _ _ _ _ hb HM.out);replace HQ:=aZ_ (Kd.Heap.C (Kd.heap_int .i64) hb.block HQ.out);obtain ⟨Av,cv,rfl,hlc_,hr_⟩:=Kd.R_reads hq;have HVS:=aZ_ hr_;have HVSc:=aZ_ hlc_;clear hr_ hlc_;clear hq;clear hb;clear hc_BF_0 hc_BF_1;obtain ⟨hc_BF_0,hc_BF_1⟩:=(bc2_ BF.out).1))
         go_meet;exact ⟨HR,HB,HT⟩
        case neg =>
         obtain rfl:fine = false:=by simpa using hfi
         clear hfi
         go_upto_region 17 with (go_at_call 17;refine (impl_LeastOrder.calls f1 f2 lq nn false _ HK.out.least).mono ?_;rintro e w6 ⟨vq,rfl,hq,hb⟩;replace HR:=aZ_ (Kd.Heap.C (Kd.heap_int .u8) hb.block HR.out);replace HB:=aZ_ (below_step HB.out hb);replace HT:=aZ_ (HT.out.below hb);replace BF:=aZ_ (blk_below BF.out hb);replace HM:=aZ_ (heapD _ _ _ _ hb HM.out);obtain ⟨Aq,cq,rfl,hlc_,hr_⟩:=Kd.R_reads hq;have HQ:=aZ_ hr_;have HQc:=aZ_ hlc_;clear hr_ hlc_;clear hq;clear hb;clear hc_BF_0 hc_BF_1;obtain ⟨hc_BF_0,hc_BF_1⟩:=(bc2_ BF.out).1)
         go_wp2_with (fail)
         go_meet;exact ⟨HR,HB,HT⟩
   case rest =>
    as_aux_lemma =>
     clear HR HB HT BF HP HM hc_BF_0 hc_BF_1;obtain ⟨HR,HB,HT⟩:=hcut
     go_upto_region 20 with (go_at_call 19;refine (spec_DrawLeastOrder.calls k A0 c0 l0 g1 g2 _ HR.out HC0.out HG.out.dl).mono ?_;rintro e w6 ⟨rfl,hb⟩;replace HR:=aZ_ (Kd.Heap.C (Kd.heap_int .u8) hb.block HR.out);replace HB:=aZ_ (below_step HB.out hb);replace HT:=aZ_ (HT.out.below hb);clear hb)
     have BG:=aZ_ (blk_new w6 (.cells #[.int .i64 g1,.int .i64 g2] 25 (0,0)));have hb:=below_alloc (Below.refl w6.heap.size w6) (.cells #[.int .i64 g1,.int .i64 g2] 25 (0,0));replace HR:=aZ_ (Kd.Heap.C (Kd.heap_int .u8) hb.block HR.out);replace HB:=aZ_ (below_step HB.out hb);replace HT:=aZ_ (HT.out.below hb);clear hb;obtain ⟨gg,hgg_⟩:∃ gg,gg = w6.heap.size:=⟨_,rfl⟩;rw [← hgg_] at BG ⊢;clear hgg_;generalize w6.alloc (.cells #[.int .i64 g1,.int .i64 g2] 25 (0,0)) = w7 at HR HB HT BG ⊢;obtain ⟨hc_BG_0,hc_BG_1⟩:=(bc2_ BG.out).1
     go_upto_region 21 with (go_at_call 17;refine (impl_LeastOrder.calls g1 g2 la ln lo _ HG.out.l1).mono ?_;rintro e w8 ⟨vq,rfl,hq,hb⟩;replace HR:=aZ_ (Kd.Heap.C (Kd.heap_int .u8) hb.block HR.out);replace HB:=aZ_ (below_step HB.out hb);replace HT:=aZ_ (HT.out.below hb);replace BG:=aZ_ (blk_below BG.out hb);obtain ⟨Aa,ca,rfl,hlc_,hr_⟩:=Kd.R_reads hq;have HA:=aZ_ hr_;have HAc:=aZ_ hlc_;clear hr_ hlc_;clear hq;clear hb;clear hc_BG_0 hc_BG_1;obtain ⟨hc_BG_0,hc_BG_1⟩:=(bc2_ BG.out).1)
     go_upto_region 22 with (go_at_call 20;refine (spec_LeastOrder.calls k g1 g2 la ln lo _ HG.out.l2).mono ?_;rintro e w9 ⟨vq,rfl,hq,hb⟩;replace HR:=aZ_ (Kd.Heap.C (Kd.heap_int .u8) hb.block HR.out);replace HB:=aZ_ (below_step HB.out hb);replace HT:=aZ_ (HT.out.below hb);replace BG:=aZ_ (blk_below BG.out hb);replace HA:=aZ_ (Kd.Heap.C (Kd.heap_int .i64) hb.block HA.out);obtain ⟨Ae,ce,rfl,hlc_,hr_⟩:=hq;replace hr_:=Kd.F_now hr_;have HE:=aZ_ hr_;have HEc:=aZ_ hlc_;clear hr_ hlc_;clear hb;clear hc_BG_0 hc_BG_1;obtain ⟨hc_BG_0,hc_BG_1⟩:=(bc2_ BG.out).1)
     clear BG hc_BG_0 hc_BG_1
     go_upto_region 23 with (go_at_call 21;refine (spec_DrawIsDiagram.calls k A0 c0 l0 dm dp _ HR.out HC0.out HG.out.di).mono ?_;rintro e w10 ⟨vq,vr,rfl,hq,hq2,hb⟩;replace HR:=aZ_ (Kd.Heap.C (Kd.heap_int .u8) hb.block HR.out);replace HB:=aZ_ (below_step HB.out hb);replace HT:=aZ_ (HT.out.below hb);replace HA:=aZ_ (Kd.Heap.C (Kd.heap_int .i64) hb.block HA.out);replace HE:=aZ_ (Kd.Heap.C (Kd.heap_int .i64) hb.block HE.out);obtain ⟨Ax,cx,rfl,hlc_,hr_⟩:=Kd.R_reads hq;have HX1:=aZ_ hr_;have HX1c:=aZ_ hlc_;clear hr_ hlc_;clear hq;obtain ⟨Ax2,cx2,rfl,hlc_,hr_⟩:=Kd.R_reads hq2;have HX2:=aZ_ hr_;have HX2c:=aZ_ hlc_;clear hr_ hlc_;clear hq2;clear hb)
     go_upto_region 24 with (go_at_call 22;refine (spec_DrawValueInDiagram.calls k A0 c0 l0 vm vx _ HR.out HC0.out HG.out.dv).mono ?_;rintro e w11 ⟨vq,rfl,hq,hb⟩;replace HR:=aZ_ (Kd.Heap.C (Kd.heap_int .u8) hb.block HR.out);replace HB:=aZ_ (below_step HB.out hb);replace HT:=aZ_ (HT.out.below hb);replace HA:=aZ_ (Kd.Heap.C (Kd.heap_int .i64) hb.block HA.out);replace HE:=aZ_ (Kd.Heap.C (Kd.heap_int .i64) hb.block HE.out);replace HX1:=aZ_ (heapD _ _ _ _ hb HX1.out);replace HX2:=aZ_ (Kd.Heap.C (Kd.heap_int .i64) hb.block HX2.out);obtain ⟨Ay,cy,rfl,hlc_,hr_⟩:=Kd.R_reads hq;have HY:=aZ_ hr_;have HYc:=aZ_ hlc_;clear hr_ hlc_;clear hq;clear hb)
     go_upto_region 25 with (go_at_call 23;refine (spec_DrawCountInDiagram.calls k A0 c0 l0 km kp _ HR.out HC0.out HG.out.dc).mono ?_;rintro e w12 ⟨vq,vr,rfl,hq,hq2,hb⟩;replace HR:=aZ_ (Kd.Heap.C (Kd.heap_int .u8) hb.block HR.out);replace HB:=aZ_ (below_step HB.out hb);replace HT:=aZ_ (HT.out.below hb);replace HA:=aZ_ (Kd.Heap.C (Kd.heap_int .i64) hb.block HA.out);replace HE:=aZ_ (Kd.Heap.C (Kd.heap_int .i64) hb.block HE.out);replace HX1:=aZ_ (heapD _ _ _ _ hb HX1.out);replace HX2:=aZ_ (Kd.Heap.C (Kd.heap_int .i64) hb.block HX2.out);replace HY:=aZ_ (heapD _ _ _ _ hb HY.out);obtain ⟨Az,cz,rfl,hlc_,hr_⟩:=Kd.R_reads hq;have HZ1:=aZ_ hr_;have HZ1c:=aZ_ hlc_;clear hr_ hlc_;clear hq;obtain ⟨Az2,cz2,rfl,hlc_,hr_⟩:=Kd.R_reads hq2;have HZ2:=aZ_ hr_;have HZ2c:=aZ_ hlc_;clear hr_ hlc_;clear hq2;clear hb)
     go_upto_region 26 with (go_at_call 24;refine (spec_DrawFormatDiagram.calls k A0 c0 l0 fm _ HR.out HC0.out HG.out.df).mono ?_;rintro e w13 ⟨vq,rfl,hq,hb⟩;replace HR:=aZ_ (Kd.Heap.C (Kd.heap_int .u8) hb.block HR.out);replace HB:=aZ_ (below_step HB.out hb);replace HT:=aZ_ (HT.out.below hb);replace HA:=aZ_ (Kd.Heap.C (Kd.heap_int .i64) hb.block HA.out);replace HE:=aZ_ (Kd.Heap.C (Kd.heap_int .i64) hb.block HE.out);replace HX1:=aZ_ (heapD _ _ _ _ hb HX1.out);replace HX2:=aZ_ (Kd.Heap.C (Kd.heap_int .i64) hb.block HX2.out);replace HY:=aZ_ (heapD _ _ _ _ hb HY.out);replace HZ1:=aZ_ (heapD _ _ _ _ hb HZ1.out);replace HZ2:=aZ_ (Kd.Heap.C (Kd.heap_int .i64) hb.block HZ2.out);obtain ⟨Aw,cw,rfl,hlc_,hr_⟩:=Kd.R_reads hq;have HW:=aZ_ hr_;have HWc:=aZ_ hlc_;clear hr_ hlc_;clear hq;clear hb)
     clear HR;have h_1:(ln == ln) = true:=beq_self_eq_true ln;have h_2:(lo == lo) = true:=beq_self_eq_true lo;have h_3:(rb == rb) = true:=beq_self_eq_true rb;have h_4:(rv == rv) = true:=beq_self_eq_true rv;have h_5:(rc == rc) = true:=beq_self_eq_true rc
     go_wp2_with (first | (go_at_call 25;refine (laws_sameInts.calls k Aa ca la Ae ce la true _ HA.out HAc.out HE.out HEc.out HG.out.lsame).mono ?_;rintro e w14 ⟨rfl,hd⟩;have hb:=hd.below;clear hd;replace HB:=aZ_ (below_step HB.out hb);replace HT:=aZ_ (HT.out.below hb);replace HA:=aZ_ (Kd.Heap.C (Kd.heap_int .i64) hb.block HA.out);replace HE:=aZ_ (Kd.Heap.C (Kd.heap_int .i64) hb.block HE.out);replace HX1:=aZ_ (heapD _ _ _ _ hb HX1.out);replace HX2:=aZ_ (Kd.Heap.C (Kd.heap_int .i64) hb.block HX2.out);replace HY:=aZ_ (heapD _ _ _ _ hb HY.out);replace HZ1:=aZ_ (heapD _ _ _ _ hb HZ1.out);replace HZ2:=aZ_ (Kd.Heap.C (Kd.heap_int .i64) hb.block HZ2.out);replace HW:=aZ_ (heapD _ _ _ _ hb HW.out);clear hb) | (go_at_call 12;refine (impl_IsDiagram.calls Ax cx dm Ax2 cx2 dp rb _ HX1.out HX1c.out HX2.out HX2c.out HG.out.i1).mono ?_;rintro e w15 ⟨rfl,hb⟩;replace HB:=aZ_ (below_step HB.out hb);replace HT:=aZ_ (HT.out.below hb);replace HA:=aZ_ (Kd.Heap.C (Kd.heap_int .i64) hb.block HA.out);replace HE:=aZ_ (Kd.Heap.C (Kd.heap_int .i64) hb.block HE.out);replace HX1:=aZ_ (heapD _ _ _ _ hb HX1.out);replace HX2:=aZ_ (Kd.Heap.C (Kd.heap_int .i64) hb.block HX2.out);replace HY:=aZ_ (heapD _ _ _ _ hb HY.out);replace HZ1:=aZ_ (heapD _ _ _ _ hb HZ1.out);replace HZ2:=aZ_ (Kd.Heap.C (Kd.heap_int .i64) hb.block HZ2.out);replace HW:=aZ_ (heapD _ _ _ _ hb HW.out);clear hb) | (go_at_call 26;refine (spec_IsDiagram.calls k Ax cx dm Ax2 cx2 dp rb _ HX1.out HX1c.out HX2.out HX2c.out HG.out.i2).mono ?_;rintro e w16 ⟨rfl,hb⟩;replace HB:=aZ_ (below_step HB.out hb);replace HT:=aZ_ (HT.out.below hb);replace HA:=aZ_ (Kd.Heap.C (Kd.heap_int .i64) hb.block HA.out);replace HE:=aZ_ (Kd.Heap.C (Kd.heap_int .i64) hb.block HE.out);replace HX1:=aZ_ (heapD _ _ _ _ hb HX1.out);replace HX2:=aZ_ (Kd.Heap.C (Kd.heap_int .i64) hb.block HX2.out);replace HY:=aZ_ (heapD _ _ _ _ hb HY.out);replace HZ1:=aZ_ (heapD _ _ _ _ hb HZ1.out);replace HZ2:=aZ_ (Kd.Heap.C (Kd.heap_int .i64) hb.block HZ2.out);replace HW:=aZ_ (heapD _ _ _ _ hb HW.out);clear hb) | (go_at_call 15;refine (impl_ValueInDiagram.calls k Ay cy vm vx rv _ HY.out HYc.out HG.out.v1).mono ?_;rintro e w17 ⟨rfl,hb⟩;replace HB:=aZ_ (below_step HB.out hb);replace HT:=aZ_ (HT.out.below hb);replace HA:=aZ_ (Kd.Heap.C (Kd.heap_int .i64) hb.block HA.out);replace HE:=aZ_ (Kd.Heap.C (Kd.heap_int .i64) hb.block HE.out);replace HX1:=aZ_ (heapD _ _ _ _ hb HX1.out);replace HX2:=aZ_ (Kd.Heap.C (Kd.heap_int .i64) hb.block HX2.out);replace HY:=aZ_ (heapD _ _ _ _ hb HY.out);replace HZ1:=aZ_ (heapD _ _ _ _ hb HZ1.out);replace HZ2:=aZ_ (Kd.Heap.C (Kd.heap_int .i64) hb.block HZ2.out);replace HW:=aZ_ (heapD _ _ _ _ hb HW.out);clear hb) | (go_at_call 27;refine (spec_ValueInDiagram.calls k Ay cy vm vx rv _ HY.out HYc.out HG.out.v2).mono ?_;rintro e w18 ⟨rfl,hb⟩;replace HB:=aZ_ (below_step HB.out hb);replace HT:=aZ_ (HT.out.below hb);replace HA:=aZ_ (Kd.Heap.C (Kd.heap_int .i64) hb.block HA.out);replace HE:=aZ_ (Kd.Heap.C (Kd.heap_int .i64) hb.block HE.out);replace HX1:=aZ_ (heapD _ _ _ _ hb HX1.out);replace HX2:=aZ_ (Kd.Heap.C (Kd.heap_int .i64) hb.block HX2.out);replace HY:=aZ_ (heapD _ _ _ _ hb HY.out);replace HZ1:=aZ_ (heapD _ _ _ _ hb HZ1.out);replace HZ2:=aZ_ (Kd.Heap.C (Kd.heap_int .i64) hb.block HZ2.out);replace HW:=aZ_ (heapD _ _ _ _ hb HW.out);clear hb) | (go_at_call 13;refine (impl_CountInDiagram.calls k Az cz km Az2 cz2 kp rc _ HZ1.out HZ1c.out HZ2.out HZ2c.out HG.out.c1).mono ?_;rintro e w19 ⟨rfl,hb⟩;replace HB:=aZ_ (below_step HB.out hb);replace HT:=aZ_ (HT.out.below hb);replace HA:=aZ_ (Kd.Heap.C (Kd.heap_int .i64) hb.block HA.out);replace HE:=aZ_ (Kd.Heap.C (Kd.heap_int .i64) hb.block HE.out);replace HX1:=aZ_ (heapD _ _ _ _ hb HX1.out);replace HX2:=aZ_ (Kd.Heap.C (Kd.heap_int .i64) hb.block HX2.out);replace HY:=aZ_ (heapD _ _ _ _ hb HY.out);replace HZ1:=aZ_ (heapD _ _ _ _ hb HZ1.out);replace HZ2:=aZ_ (Kd.Heap.C (Kd.heap_int .i64) hb.block HZ2.out);replace HW:=aZ_ (heapD _ _ _ _ hb HW.out);clear hb) | (go_at_call 28;refine (spec_CountInDiagram.calls k Az cz km Az2 cz2 kp rc _ HZ1.out HZ1c.out HZ2.out HZ2c.out HG.out.c2).mono ?_;rintro e w20 ⟨rfl,hb⟩;replace HB:=aZ_ (below_step HB.out hb);replace HT:=aZ_ (HT.out.below hb);replace HA:=aZ_ (Kd.Heap.C (Kd.heap_int .i64) hb.block HA.out);replace HE:=aZ_ (Kd.Heap.C (Kd.heap_int .i64) hb.block HE.out);replace HX1:=aZ_ (heapD _ _ _ _ hb HX1.out);replace HX2:=aZ_ (Kd.Heap.C (Kd.heap_int .i64) hb.block HX2.out);replace HY:=aZ_ (heapD _ _ _ _ hb HY.out);replace HZ1:=aZ_ (heapD _ _ _ _ hb HZ1.out);replace HZ2:=aZ_ (Kd.Heap.C (Kd.heap_int .i64) hb.block HZ2.out);replace HW:=aZ_ (heapD _ _ _ _ hb HW.out);clear hb) | (go_at_call 29;refine (impl_FormatDiagram.any Aw cw fm rs _ HW.out HWc.out HT.out HG.out.t1).mono ?_;rintro e w21 ⟨rfl,hb⟩;replace HB:=aZ_ (below_step HB.out hb);replace HT:=aZ_ (HT.out.below hb);replace HA:=aZ_ (Kd.Heap.C (Kd.heap_int .i64) hb.block HA.out);replace HE:=aZ_ (Kd.Heap.C (Kd.heap_int .i64) hb.block HE.out);replace HX1:=aZ_ (heapD _ _ _ _ hb HX1.out);replace HX2:=aZ_ (Kd.Heap.C (Kd.heap_int .i64) hb.block HX2.out);replace HY:=aZ_ (heapD _ _ _ _ hb HY.out);replace HZ1:=aZ_ (heapD _ _ _ _ hb HZ1.out);replace HZ2:=aZ_ (Kd.Heap.C (Kd.heap_int .i64) hb.block HZ2.out);replace HW:=aZ_ (heapD _ _ _ _ hb HW.out);clear hb) | (go_at_call 30;refine (spec_FormatDiagram.calls k Aw cw fm rs _ HW.out HWc.out HG.out.t2).mono ?_;rintro e w22 ⟨rfl,hb⟩;replace HB:=aZ_ (below_step HB.out hb);replace HT:=aZ_ (HT.out.below hb);replace HA:=aZ_ (Kd.Heap.C (Kd.heap_int .i64) hb.block HA.out);replace HE:=aZ_ (Kd.Heap.C (Kd.heap_int .i64) hb.block HE.out);replace HX1:=aZ_ (heapD _ _ _ _ hb HX1.out);replace HX2:=aZ_ (Kd.Heap.C (Kd.heap_int .i64) hb.block HX2.out);replace HY:=aZ_ (heapD _ _ _ _ hb HY.out);replace HZ1:=aZ_ (heapD _ _ _ _ hb HZ1.out);replace HZ2:=aZ_ (Kd.Heap.C (Kd.heap_int .i64) hb.block HZ2.out);replace HW:=aZ_ (heapD _ _ _ _ hb HW.out);clear hb))
     go_ret;exact ⟨rfl,HB.out⟩
 next=>cases h
end Go.Proofs.YtflacbjpeecjcabGreatDoor.F
namespace Go.Proofs.YtflacbjpeecjcabGreatDoor.U
open Go.Proofs.YtflacbjpeecjcabGreatDoor.F Go.Proofs.YtflacbjpeecjcabGreatDoor.B
def isTab (a b:Int):Bool:=decide (0 ≤ a ∧ a ≤ 5 ∧ 0 ≤ b ∧ b < 2 ^ 2 ^ a.toNat)
theorem isTab_of {n w:Nat} (h:Tab n w):isTab n w = true:=by
 unfold isTab;have h2:(w:Int) < 2 ^ 2 ^ n:=by exact_mod_cast h.2
 exact decide_eq_true ⟨by omega,by have:=h.1;omega,by omega,by simpa using h2⟩
theorem tab_of {a b:Int} (h:isTab a b = true):∃ n w:Nat,a = n ∧ b = w ∧ Tab n w:=by
 have h:=of_decide_eq_true h;obtain ⟨n,rfl⟩:=Int.eq_ofNat_of_zero_le h.1;obtain ⟨w,rfl⟩:=Int.eq_ofNat_of_zero_le h.2.2.1;refine ⟨n,w,rfl,rfl,by omega,?_⟩;have h2:=h.2.2.2;rw [Int.toNat_natCast] at h2
 exact_mod_cast h2
theorem spec_isTable (a b:Int):spec_IsTable.f a b = some (isTab a b):=rfl
theorem size_some {n:Nat} (v:Int) (hn:n ≤ 62):impl_Table_size.f n v = some ((2 ^ n:Nat):Int):=by
 unfold impl_Table_size.f;rw [if_pos (by omega),shl1_of (by omega)]
theorem at_some' {n:Int} {w x:Nat} (hw:w < 9223372036854775808) (hx:x ≤ 64):impl_Table_at.f n w x = some ((bitN w x:Nat):Int):=by
 unfold impl_Table_at.f;rw [if_pos (by omega),bit_cast hw hx]
theorem shr_zero_iff {w m:Nat}:w >>> m = 0 ↔ w < 2 ^ m:=by
 rw [Nat.shiftRight_eq_div_pow,Nat.div_eq_zero_iff];have:=pow_pos m;omega
theorem impl_isTable {a b:Int} (h0:-9223372036854775808 ≤ b) (h1:b ≤ 9223372036854775807):impl_IsTable.f a b = some (isTab a b):=by
 have hb:impl_isBits.f a = some (decide (0 ≤ a ∧ a ≤ 5)):=by
  unfold impl_isBits.f
  by_cases h:a ≥ 0
  ·rw [if_pos h];congr 1;exact decide_eq_decide.mpr (by omega)
  ·rw [if_neg h];congr 1;symm;exact decide_eq_false (by omega)
 unfold impl_IsTable.f;rw [hb];simp only [Option.bind_some,decide_eq_true_eq]
 by_cases h:0 ≤ a ∧ a ≤ 5
 ·rw [if_pos h]
  by_cases hb0:b ≥ 0
  ·rw [if_pos hb0]
   obtain ⟨n,rfl⟩:=Int.eq_ofNat_of_zero_le h.1;obtain ⟨w,rfl⟩:=Int.eq_ofNat_of_zero_le hb0;have hM:=pow_le (n:=n) (by omega);rw [size_some _ (by omega)];simp only [Option.bind_some];rw [if_pos (Int.natCast_nonneg _),shr_cast w _ (by omega)]
   congr 1
   unfold isTab
   apply Bool.eq_iff_iff.mpr
   rw [beq_iff_eq,decide_eq_true_eq,Int.toNat_natCast];have e:=@shr_zero_iff w (2 ^ n)
   constructor
   ·intro hz
    have hz:w >>> 2 ^ n = 0:=by exact_mod_cast hz
    have:=e.mp hz;exact ⟨h.1,h.2,hb0,by exact_mod_cast this⟩
   ·intro hh
    have hh:=hh.2.2.2;have:=e.mpr (by exact_mod_cast hh)
    exact_mod_cast this
  ·rw [if_neg hb0]
   congr 1;symm
   exact decide_eq_false (by omega)
 ·rw [if_neg h]
  congr 1;symm
  exact decide_eq_false (by omega)
end Go.Proofs.YtflacbjpeecjcabGreatDoor.U
namespace Go.Proofs.YtflacbjpeecjcabGreatDoor.U
open Go.Proofs.YtflacbjpeecjcabGreatDoor.F Go.Proofs.YtflacbjpeecjcabGreatDoor.B
theorem full_some {n:Nat} (hn:n ≤ 5):spec_l2Full.f n = some (((2 ^ 2 ^ n - 1:Nat)):Int):=by
 unfold spec_l2Full.f;rw [if_pos (by omega),Int.toNat_natCast]
 congr 1
 have:=pow_pos (2 ^ n);rw [Int.natCast_sub (by omega)];simp
def notW (n w:Nat):Nat:=2 ^ 2 ^ n - 1 - w
theorem notW_lt (n w:Nat):notW n w < 2 ^ 2 ^ n:=by unfold notW;have:=pow_pos (2 ^ n);omega
theorem testBit_notW {n w:Nat} (h:w < 2 ^ 2 ^ n) (x:Nat):(notW n w).testBit x = (decide (x < 2 ^ n) && !w.testBit x):=by
 unfold notW;rw [Nat.sub_sub,Nat.add_comm 1 w,Nat.testBit_two_pow_sub_succ h]
theorem xor_full {n w:Nat} (h:w < 2 ^ 2 ^ n):w ^^^ (2 ^ 2 ^ n - 1) = notW n w:=by
 have h2:=pow_pos (2 ^ n);refine word_ext (m:=2 ^ n) (Nat.xor_lt_two_pow h (by omega)) (notW_lt n w) fun i hi=>?_
 rw [Nat.testBit_xor,testBit_notW h,Nat.testBit_two_pow_sub_one]
 cases w.testBit i <;> simp [hi]
theorem not_some {n w:Nat} (h:Tab n w):impl_Table_not.f n w = some ((n:Int),((notW n w:Nat):Int)):=by
 have hM:=pow_le h.1;have hF:=full_le h.1;have h2:=pow_pos (2 ^ n);unfold impl_Table_not.f;rw [size_some _ (by have:=h.1;omega)];simp only [Option.bind_some];rw [if_pos (Int.natCast_nonneg _),shl1_of (by omega)];have e:wrap64 (((2 ^ 2 ^ n:Nat):Int) - 1) = ((2 ^ 2 ^ n - 1:Nat):Int):=by rw [wrap64_of (by omega) (by omega)];omega
 rw [e,xor_cast h.lt63 (by omega),xor_full h.2]
end Go.Proofs.YtflacbjpeecjcabGreatDoor.U
namespace Go.Proofs.YtflacbjpeecjcabGreatDoor.U
open Go.Proofs.YtflacbjpeecjcabGreatDoor.F Go.Proofs.YtflacbjpeecjcabGreatDoor.B
end Go.Proofs.YtflacbjpeecjcabGreatDoor.U
