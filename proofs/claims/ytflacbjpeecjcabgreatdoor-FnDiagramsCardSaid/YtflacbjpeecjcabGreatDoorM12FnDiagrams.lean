/- Walks of Go functions and lemmas on what they compute, for the row of FnDiagrams (a part of several): each call ends as the Lean function of its name tells; the conditions are those of each theorem. -/
import Derived.Test.YtflacbjpeecjcabGreatDoorM11FnDiagrams
set_option linter.unusedVariables false
set_option linter.unusedSimpArgs false
set_option maxHeartbeats 16000000
set_option maxRecDepth 100000
open Go.RowKit Go.Proofs.YtflacbjpeecjcabGreatDoorW.PrintWords Go.Proofs.YtflacbjpeecjcabGreatDoorW.PrintLast Go.Proofs.YtflacbjpeecjcabGreatDoorW.PrintMore
namespace Go.Proofs.YtflacbjpeecjcabGreatDoor.F
attribute [local go_sem] max2_int min2_int max_two min_two max_three min_three max_four min_four 
attribute [local go_sem high] eqA56
mutual
def spec_IsDiagram.j0:Nat → List (S56) → List Int → Bool → Option (Bool)
 | 0,_,_,_=>none
 | k + 1,x0,x1,x24=>if x24 = true then (some false) else (spec_IsDiagram.l0 k x0 x1 0)
def spec_IsDiagram.l0:Nat → List (S56) → List Int → Int → Option (Bool)
 | 0,_,_,_=>none
 | k + 1,x0,x1,x5=>if x5 < (x0.length:Int) then (if 0 ≤ x5 then ((spec_l19Level.f k x1 ((rd_T56 x0 x5).f0)).bind fun t105=>(if t105 = (x1.length:Int) then (spec_IsDiagram.j2 k x0 x1 x5 t105 true ((rd_T56 x0 x5).f0) ((rd_T56 x0 x5).f1) ((rd_T56 x0 x5).f2)) else ((spec_l1In.f ((rd_T56 x0 x5).f1) (-2) (wrap64 (x5 - 1))).bind fun t106=>(if t106 = true then ((spec_l1In.f ((rd_T56 x0 x5).f2) (-2) (wrap64 (x5 - 1))).bind fun t107=>(if t107 = true then (spec_IsDiagram.j2 k x0 x1 x5 t105 (((rd_T56 x0 x5).f1) == ((rd_T56 x0 x5).f2)) ((rd_T56 x0 x5).f0) ((rd_T56 x0 x5).f1) ((rd_T56 x0 x5).f2)) else (spec_IsDiagram.j2 k x0 x1 x5 t105 true ((rd_T56 x0 x5).f0) ((rd_T56 x0 x5).f1) ((rd_T56 x0 x5).f2)))) else (spec_IsDiagram.j2 k x0 x1 x5 t105 true ((rd_T56 x0 x5).f0) ((rd_T56 x0 x5).f1) ((rd_T56 x0 x5).f2)))))) else (none)) else (some true)
def spec_IsDiagram.j2:Nat → List (S56) → List Int → Int → Int → Bool → Int → Int → Int → Option (Bool)
 | 0,_,_,_,_,_,_,_,_=>none
 | k + 1,x0,x1,x5,x7,x65,x105000,x105001,x105002=>if x65 = true then (some false) else (if x105001 ≥ 0 then (if 0 ≤ x105001 then (if x105001 < (x0.length:Int) then ((spec_l19Level.f k x1 ((rd_T56 x0 x105001).f0)).bind fun t109=>(if t109 ≤ x7 then (spec_IsDiagram.j3 k x0 x1 x5 true x105000 x105001 x105002) else (if x105002 ≥ 0 then (if 0 ≤ x105002 then (if x105002 < (x0.length:Int) then ((spec_l19Level.f k x1 ((rd_T56 x0 x105002).f0)).bind fun t111=>(spec_IsDiagram.j3 k x0 x1 x5 (decide (t111 ≤ x7)) x105000 x105001 x105002)) else (none)) else (none)) else (spec_IsDiagram.j3 k x0 x1 x5 false x105000 x105001 x105002)))) else (none)) else (none)) else (if x105002 ≥ 0 then (if 0 ≤ x105002 then (if x105002 < (x0.length:Int) then ((spec_l19Level.f k x1 ((rd_T56 x0 x105002).f0)).bind fun t113=>(spec_IsDiagram.j3 k x0 x1 x5 (decide (t113 ≤ x7)) x105000 x105001 x105002)) else (none)) else (none)) else (spec_IsDiagram.j3 k x0 x1 x5 false x105000 x105001 x105002)))
def spec_IsDiagram.j3:Nat → List (S56) → List Int → Int → Bool → Int → Int → Int → Option (Bool)
 | 0,_,_,_,_,_,_,_=>none
 | k + 1,x0,x1,x5,x97,x105000,x105001,x105002=>if x97 = true then (some false) else (spec_IsDiagram.l1 k x0 x1 x5 0 x105000 x105001 x105002)
def spec_IsDiagram.l1:Nat → List (S56) → List Int → Int → Int → Int → Int → Int → Option (Bool)
 | 0,_,_,_,_,_,_,_=>none
 | k + 1,x0,x1,x5,x8,x105000,x105001,x105002=>if x8 < x5 then (if 0 ≤ x8 then (if x8 < (x0.length:Int) then (if (((rd_T56 x0 x8).f0) == x105000 && (((rd_T56 x0 x8).f1) == x105001 && (((rd_T56 x0 x8).f2) == x105002))) = true then (some false) else (spec_IsDiagram.l1 k x0 x1 x5 (wrap64 (x8 + 1)) x105000 x105001 x105002)) else (none)) else (none)) else (spec_IsDiagram.l0 k x0 x1 (wrap64 (x5 + 1)))
end
def spec_IsDiagram.f (k:Nat) (l0:List (S56)) (l1:List Int):Option (Bool):=(spec_l3Perm.f k l1 (l1.length:Int)).bind fun t101=>(if t101 = true then (if (l1.length:Int) > 5 then (spec_IsDiagram.j0 k l0 l1 true) else ((spec_l1In.f (l0.length:Int) 1 31).bind fun t102=>(spec_IsDiagram.j0 k l0 l1 (!t102)))) else (spec_IsDiagram.j0 k l0 l1 true))
theorem spec_IsDiagram.calls (k:Nat) (A0:Option Addr) (c0:Nat) (l0:List (S56)) (A1:Option Addr) (c1:Nat) (l1:List Int) (r:Bool) (w:World) (hr0:Kd.C k56 w A0 l0.length l0) (hc0:l0.length ≤ c0) (hr1:Kd.C (Kd.int .i64) w A1 l1.length l1) (hc1:l1.length ≤ c1) (h:spec_IsDiagram.f k l0 l1 = some r) :
  Calls Tryz.prog 26 #[.slice A0 l0.length c0,.slice A1 l1.length c1] w fun e w'=>e = .returned (.bool r) ∧ Below w.heap.size w w':=by
 have hu56:=Tryz.underlying56;have HR0:=aZ_ hr0;have HC0:=aZ_ hc0;clear hr0 hc0;have HR1:=aZ_ hr1;have HC1:=aZ_ hc1;clear hr1 hc1;have HB:=aZ_ (Below.refl w.heap.size w);have H:((spec_l3Perm.f k l1 (l1.length:Int)).bind fun t101=>(if t101 = true then (if (l1.length:Int) > 5 then (spec_IsDiagram.j0 k l0 l1 true) else ((spec_l1In.f (l0.length:Int) 1 31).bind fun t102=>(spec_IsDiagram.j0 k l0 l1 (!t102)))) else (spec_IsDiagram.j0 k l0 l1 true))) = some r:=h;clear h;have HC3:=aZ_ H;clear H;go_enter Tryz.func26,Tryz.ntmps26
 go_upto_region 1 with (fail)
 repeat (go_quiet (fail);go_upto_region 1 with (fail))
 go_cut [24] (fun v24 wc=>∃ (kq:Nat) (x24_2:Bool),v24 = .bool x24_2 ∧ Aside0 (spec_IsDiagram.j0 kq l0 l1 x24_2 = some r) ∧ Aside0 (kq ≤ k) ∧ Aside0 (Below w.heap.size w wc))
 case first =>
  have H:=HC3.out;clear HC3;replace H:=Option.bind_eq_some_iff.mp H;obtain ⟨t101,A40,H⟩:=H;replace H:(if t101 = true then (if (l1.length:Int) > 5 then (spec_IsDiagram.j0 k l0 l1 true) else ((spec_l1In.f (l0.length:Int) 1 31).bind fun t102=>(spec_IsDiagram.j0 k l0 l1 (!t102)))) else (spec_IsDiagram.j0 k l0 l1 true)) = some r:=H;have A4:=aZ_ A40;clear A40
  by_cases c5:t101 = true
  ·subst c5
   have H1:(if (l1.length:Int) > 5 then (spec_IsDiagram.j0 k l0 l1 true) else ((spec_l1In.f (l0.length:Int) 1 31).bind fun t102=>(spec_IsDiagram.j0 k l0 l1 (!t102)))) = some r:=by rw [if_pos rfl] at H;exact H
   clear H;have H:=H1;clear H1
   by_cases c6:(l1.length:Int) > 5
   ·rw [if_pos c6] at H
    have c6b0:decide (5 < (l1.length:Int)) = true:=decide_eq_true c6;have c6b1:decide (5 < l1.length) = true:=decide_eq_true T73_;clear c6
    (first | rw [c6b0] | (simp only [i64_w,i32_w];rw [c6b0]) | skip)
    have H':=aZ_ H;clear H
    go_wp2_with (first | (go_at_call 36;(with_reducible refine (spec_l3Perm.calls k _ _ l1 (l1.length:Int) true _ ?side1 ?side2 A4.out).mono ?_);(case side1=>exact T15_);(case side2=>exact HC1.out);rintro e w' ⟨rfl,⟨nd,rfl⟩⟩;(try exact T7_)))
    repeat (go_quiet (first | (go_at_call 36;(with_reducible refine (spec_l3Perm.calls k _ _ l1 (l1.length:Int) true _ ?side1 ?side2 A4.out).mono ?_);(case side1=>exact T15_);(case side2=>exact HC1.out);rintro e w' ⟨rfl,⟨nd,rfl⟩⟩;(try exact T7_)));try go_wp2_with (first | (go_at_call 36;(with_reducible refine (spec_l3Perm.calls k _ _ l1 (l1.length:Int) true _ ?side1 ?side2 A4.out).mono ?_);(case side1=>exact T15_);(case side2=>exact HC1.out);rintro e w' ⟨rfl,⟨nd,rfl⟩⟩;(try exact T7_))))
    go_meet
    case rel=>exact ⟨_,(true),T11_,H',⟨T89_⟩,⟨T2_⟩⟩
   ·rw [if_neg c6] at H
    have c6b0:decide (5 < (l1.length:Int)) = false:=decide_eq_false c6;have c6b1:decide (5 < l1.length) = false:=decide_eq_false T73_;clear c6
    (first | rw [c6b0] | (simp only [i64_w,i32_w];rw [c6b0]) | skip)
    replace H:=Option.bind_eq_some_iff.mp H;obtain ⟨t102,A70,H⟩:=H;replace H:(spec_IsDiagram.j0 k l0 l1 (!t102)) = some r:=H;have A7:=aZ_ A70;clear A70;have H':=aZ_ H;clear H
    go_wp2_with (first | (go_at_call 36;(with_reducible refine (spec_l3Perm.calls k _ _ l1 (l1.length:Int) true _ ?side1 ?side2 A4.out).mono ?_);(case side1=>exact T15_);(case side2=>exact HC1.out);rintro e w' ⟨rfl,⟨nd,rfl⟩⟩;(try exact T7_)) | (go_at_call 54;(with_reducible refine (spec_l1In.calls (l0.length:Int) 1 31 t102 _ A7.out).mono ?_);rintro e w' ⟨rfl,⟨nd,rfl⟩⟩;(try exact T7_)))
    repeat (go_quiet (first | (go_at_call 36;(with_reducible refine (spec_l3Perm.calls k _ _ l1 (l1.length:Int) true _ ?side1 ?side2 A4.out).mono ?_);(case side1=>exact T15_);(case side2=>exact HC1.out);rintro e w' ⟨rfl,⟨nd,rfl⟩⟩;(try exact T7_)) | (go_at_call 54;(with_reducible refine (spec_l1In.calls (l0.length:Int) 1 31 t102 _ A7.out).mono ?_);rintro e w' ⟨rfl,⟨nd,rfl⟩⟩;(try exact T7_)));try go_wp2_with (first | (go_at_call 36;(with_reducible refine (spec_l3Perm.calls k _ _ l1 (l1.length:Int) true _ ?side1 ?side2 A4.out).mono ?_);(case side1=>exact T15_);(case side2=>exact HC1.out);rintro e w' ⟨rfl,⟨nd,rfl⟩⟩;(try exact T7_)) | (go_at_call 54;(with_reducible refine (spec_l1In.calls (l0.length:Int) 1 31 t102 _ A7.out).mono ?_);rintro e w' ⟨rfl,⟨nd,rfl⟩⟩;(try exact T7_))))
    go_meet
    case rel=>exact ⟨_,(!t102),T11_,H',⟨T89_⟩,⟨T2_⟩⟩
  ·replace c5:=Bool.eq_false_iff.mpr c5
   subst c5;have H1:(spec_IsDiagram.j0 k l0 l1 true) = some r:=by rw [if_neg (show ¬ (false = true) by decide)] at H;exact H
   clear H;have H:=H1;clear H1;have H':=aZ_ H;clear H
   go_wp2_with (first | (go_at_call 36;(with_reducible refine (spec_l3Perm.calls k _ _ l1 (l1.length:Int) false _ ?side1 ?side2 A4.out).mono ?_);(case side1=>exact T15_);(case side2=>exact HC1.out);rintro e w' ⟨rfl,⟨nd,rfl⟩⟩;(try exact T7_)))
   repeat (go_quiet (first | (go_at_call 36;(with_reducible refine (spec_l3Perm.calls k _ _ l1 (l1.length:Int) false _ ?side1 ?side2 A4.out).mono ?_);(case side1=>exact T15_);(case side2=>exact HC1.out);rintro e w' ⟨rfl,⟨nd,rfl⟩⟩;(try exact T7_)));try go_wp2_with (first | (go_at_call 36;(with_reducible refine (spec_l3Perm.calls k _ _ l1 (l1.length:Int) false _ ?side1 ?side2 A4.out).mono ?_);(case side1=>exact T15_);(case side2=>exact HC1.out);rintro e w' ⟨rfl,⟨nd,rfl⟩⟩;(try exact T7_))))
   go_meet
   case rel=>exact ⟨_,(true),T11_,H',⟨T89_⟩,⟨T2_⟩⟩
 case rest =>
  clear HC3
  repeat (first | clear c1 | clear c2 | clear p2 | clear c5 | clear c6 | clear c6b0 | clear c6b1)
  obtain ⟨kq,x24_2,rfl,HA,HJ2,HB⟩:=hcut
  cases kq with
  | zero=>exact absurd HA.out (by simp [spec_IsDiagram.j0])
  | succ kj2 =>
   have H:=HA.out;clear HA;simp only [spec_IsDiagram.j0] at H
   by_cases c8:x24_2 = true
   ·subst c8
    have H1:(some false) = some r:=by rw [if_pos rfl] at H;exact H
    clear H;have H:=H1;clear H1;obtain rfl:=Option.some.inj H;go_wp2
    repeat (go_quiet (fail);try go_wp2)
    go_ret;exact ⟨T13_,T2_⟩
   ·replace c8:=Bool.eq_false_iff.mpr c8
    subst c8;have H1:(spec_IsDiagram.l0 kj2 l0 l1 0) = some r:=by rw [if_neg (show ¬ (false = true) by decide)] at H;exact H
    clear H;have H:=H1;clear H1;have H':=aZ_ H;clear H;go_wp2
    repeat (go_quiet (fail);try go_wp2)
    go_loopg [5] kj2 (fun kq v5 w'=>∃ (x5_2:Int),v5 = .int .i64 x5_2 ∧ Aside0 (spec_IsDiagram.l0 kq l0 l1 x5_2 = some r) ∧ Aside0 (kq ≤ kj2) ∧ Aside0 (Below w.heap.size w w'))
    case atStart=>exact ⟨(0),T11_,H',⟨Nat.le_refl _⟩,⟨T2_⟩⟩
    case round =>
     clear H'
     repeat (first | clear c1 | clear c2 | clear p2 | clear c5 | clear c6 | clear c6b0 | clear c6b1 | clear c8)
     obtain ⟨x5_2,rfl,HA,HK2,HB⟩:=hrel
     cases gk with
     | zero=>exact absurd HA.out (by simp [spec_IsDiagram.l0])
     | succ k2 =>
      have H:=HA.out;clear HA;simp only [spec_IsDiagram.l0] at H
      by_cases c9:x5_2 < (l0.length:Int)
      ·rw [if_pos c9] at H
       have c9b0:decide (x5_2 < (l0.length:Int)) = true:=decide_eq_true c9;clear c9
       by_cases c10:0 ≤ x5_2
       ·rw [if_pos c10] at H
        have c10b0:decide (0 ≤ x5_2) = true:=decide_eq_true c10;clear c10;replace H:=Option.bind_eq_some_iff.mp H;obtain ⟨t105,A110,H⟩:=H;replace H:(if t105 = (l1.length:Int) then (spec_IsDiagram.j2 k2 l0 l1 x5_2 t105 true ((rd_T56 l0 x5_2).f0) ((rd_T56 l0 x5_2).f1) ((rd_T56 l0 x5_2).f2)) else ((spec_l1In.f ((rd_T56 l0 x5_2).f1) (-2) (wrap64 (x5_2 - 1))).bind fun t106=>(if t106 = true then ((spec_l1In.f ((rd_T56 l0 x5_2).f2) (-2) (wrap64 (x5_2 - 1))).bind fun t107=>(if t107 = true then (spec_IsDiagram.j2 k2 l0 l1 x5_2 t105 (((rd_T56 l0 x5_2).f1) == ((rd_T56 l0 x5_2).f2)) ((rd_T56 l0 x5_2).f0) ((rd_T56 l0 x5_2).f1) ((rd_T56 l0 x5_2).f2)) else (spec_IsDiagram.j2 k2 l0 l1 x5_2 t105 true ((rd_T56 l0 x5_2).f0) ((rd_T56 l0 x5_2).f1) ((rd_T56 l0 x5_2).f2)))) else (spec_IsDiagram.j2 k2 l0 l1 x5_2 t105 true ((rd_T56 l0 x5_2).f0) ((rd_T56 l0 x5_2).f1) ((rd_T56 l0 x5_2).f2))))) = some r:=H;have A11:=aZ_ A110;clear A110;have HC12:=aZ_ H;clear H;have p103:0 ≤ (x5_2:Int):=of_decide_eq_true T14_;have q103:x5_2 < (l0.length:Int):=of_decide_eq_true T14_;obtain ⟨ad103,e103,hx103_0,hx103_1,hx103_2⟩:=at_T56 HR0.out x5_2 p103 q103
        cases e103
        replace hx103_0:=(HB.out.cell (World.block_lt_of_cell? w _ hx103_0)).trans hx103_0;replace hx103_1:=(HB.out.cell (World.block_lt_of_cell? w _ hx103_1)).trans hx103_1;replace hx103_2:=(HB.out.cell (World.block_lt_of_cell? w _ hx103_2)).trans hx103_2;replace p103:=eq_true p103;replace q103:=eq_true q103
        go_upto_region 8 with (first | ((with_reducible refine gate_dst (N:=6) rfl ?_);(try (refine gate_guard (by rfl) ?_;dsimp only));refine box_event ?hg (N:=6) ?hd (cs:=#[.int .i64 0,.int .i64 0,.int .i64 0]) (t:=56) ?hr ?_;(case hd=>rfl);(case hg=>rfl);(case hr=>exact T19_);intro gb104 hg w13 hbox hb;have BK104:=aZ_ (hbox);have GW104:=aZ_ ((T3_:w.heap.size ≤ gb104));have GE104:=aZ_ ((T3_:w.heap.size ≤ gb104));replace HB:=aZ_ (below_step T2_ hb);clear hb hbox hg;obtain ⟨⟨hcz14_0,hcz14_1,hcz14_2⟩,hfz14_0,hfz14_1,hfz14_2⟩:=bc3_ BK104.out) | (go_at_call 55;(with_reducible refine (spec_l19Level.calls k2 _ _ l1 ((rd_T56 l0 x5_2).f0) t105 _ ?side1 ?side2 A11.out).mono ?_);(case side1=>exact Kd.C_below HR1.out T25_);(case side2=>exact HC1.out);rintro e w' ⟨rfl,⟨nd,rfl⟩⟩;(try exact T7_)))
        repeat (go_quiet (first | ((with_reducible refine gate_dst (N:=6) rfl ?_);(try (refine gate_guard (by rfl) ?_;dsimp only));refine box_event ?hg (N:=6) ?hd (cs:=#[.int .i64 0,.int .i64 0,.int .i64 0]) (t:=56) ?hr ?_;(case hd=>rfl);(case hg=>rfl);(case hr=>exact T19_);intro gb104 hg w13 hbox hb;have BK104:=aZ_ (hbox);have GW104:=aZ_ ((T3_:w.heap.size ≤ gb104));have GE104:=aZ_ ((T3_:w.heap.size ≤ gb104));replace HB:=aZ_ (below_step T2_ hb);clear hb hbox hg;obtain ⟨⟨hcz14_0,hcz14_1,hcz14_2⟩,hfz14_0,hfz14_1,hfz14_2⟩:=bc3_ BK104.out) | (go_at_call 55;(with_reducible refine (spec_l19Level.calls k2 _ _ l1 ((rd_T56 l0 x5_2).f0) t105 _ ?side1 ?side2 A11.out).mono ?_);(case side1=>exact Kd.C_below HR1.out T25_);(case side2=>exact HC1.out);rintro e w' ⟨rfl,⟨nd,rfl⟩⟩;(try exact T7_)));go_upto_region 8 with (first | ((with_reducible refine gate_dst (N:=6) rfl ?_);(try (refine gate_guard (by rfl) ?_;dsimp only));refine box_event ?hg (N:=6) ?hd (cs:=#[.int .i64 0,.int .i64 0,.int .i64 0]) (t:=56) ?hr ?_;(case hd=>rfl);(case hg=>rfl);(case hr=>exact T19_);intro gb104 hg w13 hbox hb;have BK104:=aZ_ (hbox);have GW104:=aZ_ ((T3_:w.heap.size ≤ gb104));have GE104:=aZ_ ((T3_:w.heap.size ≤ gb104));replace HB:=aZ_ (below_step T2_ hb);clear hb hbox hg;obtain ⟨⟨hcz14_0,hcz14_1,hcz14_2⟩,hfz14_0,hfz14_1,hfz14_2⟩:=bc3_ BK104.out) | (go_at_call 55;(with_reducible refine (spec_l19Level.calls k2 _ _ l1 ((rd_T56 l0 x5_2).f0) t105 _ ?side1 ?side2 A11.out).mono ?_);(case side1=>exact Kd.C_below HR1.out T25_);(case side2=>exact HC1.out);rintro e w' ⟨rfl,⟨nd,rfl⟩⟩;(try exact T7_))))
        (try simp only [Act.put,List.setIfInBounds_toArray,List.set_cons_zero,List.set_cons_succ])
        go_cut [65] (fun v65 wc=>∃ (kq:Nat) (x65_11:Bool),v65 = .bool x65_11 ∧ Aside0 (spec_IsDiagram.j2 kq l0 l1 x5_2 t105 x65_11 ((rd_T56 l0 x5_2).f0) ((rd_T56 l0 x5_2).f1) ((rd_T56 l0 x5_2).f2) = some r) ∧ Aside0 (kq ≤ k2) ∧ Aside0 (wc.heap[gb104]? = some (.cells #[.int .i64 ((rd_T56 l0 x5_2).f0),.int .i64 ((rd_T56 l0 x5_2).f1),.int .i64 ((rd_T56 l0 x5_2).f2)] 56 (0,0))) ∧ Aside0 (Below w.heap.size w wc))
        case first =>
         have H:=HC12.out;clear HC12
         by_cases c15:t105 = (l1.length:Int)
         ·rw [if_pos c15] at H
          have c15b0:(t105 == (l1.length:Int)) = true:=beq_iff_eq.mpr c15;have c15b1:(t105 != (l1.length:Int)) = false:=bne_eq_false_iff_eq.mpr c15;clear c15
          (first | rw [c15b0] | (simp only [i64_w,i32_w];rw [c15b0]) | skip)
          have H':=aZ_ H;clear H;go_wp2
          repeat (go_quiet (fail);try go_wp2)
          go_meet
          case rel=>exact ⟨_,(true),T11_,H',⟨T84_⟩,⟨by (with_reducible repeat (first | refine blk_drewN ?_ _ | refine blk_drew ?_ | refine blk_alloc ?_ _));refine blk_put (cs:=#[.int .i64 ((rd_T56 l0 x5_2).f0),.int .i64 ((rd_T56 l0 x5_2).f1),.int .i64 0]) ?_ 2 _ rfl;(with_reducible repeat (first | refine blk_drewN ?_ _ | refine blk_drew ?_ | refine blk_alloc ?_ _));refine blk_put (cs:=#[.int .i64 ((rd_T56 l0 x5_2).f0),.int .i64 0,.int .i64 0]) ?_ 1 _ rfl;(with_reducible repeat (first | refine blk_drewN ?_ _ | refine blk_drew ?_ | refine blk_alloc ?_ _));refine blk_put (cs:=#[.int .i64 0,.int .i64 0,.int .i64 0]) ?_ 0 _ rfl;(with_reducible repeat (first | refine blk_drewN ?_ _ | refine blk_drew ?_ | refine blk_alloc ?_ _));exact BK104.out⟩,⟨T25_⟩⟩
         ·rw [if_neg c15] at H
          have c15b0:(t105 == (l1.length:Int)) = false:=beq_eq_false_iff_ne.mpr c15;have c15b1:(t105 != (l1.length:Int)) = true:=bne_iff_ne.mpr c15
          (first | rw [c15b0] | (simp only [i64_w,i32_w];rw [c15b0]) | skip)
          replace H:=Option.bind_eq_some_iff.mp H;obtain ⟨t106,A160,H⟩:=H;replace H:(if t106 = true then ((spec_l1In.f ((rd_T56 l0 x5_2).f2) (-2) (wrap64 (x5_2 - 1))).bind fun t107=>(if t107 = true then (spec_IsDiagram.j2 k2 l0 l1 x5_2 t105 (((rd_T56 l0 x5_2).f1) == ((rd_T56 l0 x5_2).f2)) ((rd_T56 l0 x5_2).f0) ((rd_T56 l0 x5_2).f1) ((rd_T56 l0 x5_2).f2)) else (spec_IsDiagram.j2 k2 l0 l1 x5_2 t105 true ((rd_T56 l0 x5_2).f0) ((rd_T56 l0 x5_2).f1) ((rd_T56 l0 x5_2).f2)))) else (spec_IsDiagram.j2 k2 l0 l1 x5_2 t105 true ((rd_T56 l0 x5_2).f0) ((rd_T56 l0 x5_2).f1) ((rd_T56 l0 x5_2).f2))) = some r:=H;have A16:=aZ_ A160;clear A160
          by_cases c17:t106 = true
          ·subst c17
           have H1:((spec_l1In.f ((rd_T56 l0 x5_2).f2) (-2) (wrap64 (x5_2 - 1))).bind fun t107=>(if t107 = true then (spec_IsDiagram.j2 k2 l0 l1 x5_2 t105 (((rd_T56 l0 x5_2).f1) == ((rd_T56 l0 x5_2).f2)) ((rd_T56 l0 x5_2).f0) ((rd_T56 l0 x5_2).f1) ((rd_T56 l0 x5_2).f2)) else (spec_IsDiagram.j2 k2 l0 l1 x5_2 t105 true ((rd_T56 l0 x5_2).f0) ((rd_T56 l0 x5_2).f1) ((rd_T56 l0 x5_2).f2)))) = some r:=by rw [if_pos rfl] at H;exact H
           clear H;have H:=H1;clear H1;replace H:=Option.bind_eq_some_iff.mp H;obtain ⟨t107,A180,H⟩:=H;replace H:(if t107 = true then (spec_IsDiagram.j2 k2 l0 l1 x5_2 t105 (((rd_T56 l0 x5_2).f1) == ((rd_T56 l0 x5_2).f2)) ((rd_T56 l0 x5_2).f0) ((rd_T56 l0 x5_2).f1) ((rd_T56 l0 x5_2).f2)) else (spec_IsDiagram.j2 k2 l0 l1 x5_2 t105 true ((rd_T56 l0 x5_2).f0) ((rd_T56 l0 x5_2).f1) ((rd_T56 l0 x5_2).f2))) = some r:=H;have A18:=aZ_ A180;clear A180
           by_cases c19:t107 = true
           ·subst c19
            have H1:(spec_IsDiagram.j2 k2 l0 l1 x5_2 t105 (((rd_T56 l0 x5_2).f1) == ((rd_T56 l0 x5_2).f2)) ((rd_T56 l0 x5_2).f0) ((rd_T56 l0 x5_2).f1) ((rd_T56 l0 x5_2).f2)) = some r:=by rw [if_pos rfl] at H;exact H
            clear H;have H:=H1;clear H1;have H':=aZ_ H;clear H;obtain ⟨⟨hcz20_0,hcz20_1,hcz20_2⟩,hfz20_0,hfz20_1,hfz20_2⟩:=bc3_ BK104.out
            go_wp2_with (first | (go_at_call 54;(with_reducible refine (spec_l1In.calls ((rd_T56 l0 x5_2).f1) (-2) (wrap64 (x5_2 - 1)) true _ A16.out).mono ?_);rintro e w' ⟨rfl,⟨nd,rfl⟩⟩;(try exact T7_)) | (go_at_call 54;(with_reducible refine (spec_l1In.calls ((rd_T56 l0 x5_2).f2) (-2) (wrap64 (x5_2 - 1)) true _ A18.out).mono ?_);rintro e w' ⟨rfl,⟨nd,rfl⟩⟩;(try exact T7_)))
            repeat (go_quiet (first | (go_at_call 54;(with_reducible refine (spec_l1In.calls ((rd_T56 l0 x5_2).f1) (-2) (wrap64 (x5_2 - 1)) true _ A16.out).mono ?_);rintro e w' ⟨rfl,⟨nd,rfl⟩⟩;(try exact T7_)) | (go_at_call 54;(with_reducible refine (spec_l1In.calls ((rd_T56 l0 x5_2).f2) (-2) (wrap64 (x5_2 - 1)) true _ A18.out).mono ?_);rintro e w' ⟨rfl,⟨nd,rfl⟩⟩;(try exact T7_)));try go_wp2_with (first | (go_at_call 54;(with_reducible refine (spec_l1In.calls ((rd_T56 l0 x5_2).f1) (-2) (wrap64 (x5_2 - 1)) true _ A16.out).mono ?_);rintro e w' ⟨rfl,⟨nd,rfl⟩⟩;(try exact T7_)) | (go_at_call 54;(with_reducible refine (spec_l1In.calls ((rd_T56 l0 x5_2).f2) (-2) (wrap64 (x5_2 - 1)) true _ A18.out).mono ?_);rintro e w' ⟨rfl,⟨nd,rfl⟩⟩;(try exact T7_))))
            go_meet
            case rel=>exact ⟨_,((((rd_T56 l0 x5_2).f1) == ((rd_T56 l0 x5_2).f2))),T11_,H',⟨T84_⟩,⟨by (with_reducible repeat (first | refine blk_drewN ?_ _ | refine blk_drew ?_ | refine blk_alloc ?_ _));refine blk_put (cs:=#[.int .i64 ((rd_T56 l0 x5_2).f0),.int .i64 ((rd_T56 l0 x5_2).f1),.int .i64 0]) ?_ 2 _ rfl;(with_reducible repeat (first | refine blk_drewN ?_ _ | refine blk_drew ?_ | refine blk_alloc ?_ _));refine blk_put (cs:=#[.int .i64 ((rd_T56 l0 x5_2).f0),.int .i64 0,.int .i64 0]) ?_ 1 _ rfl;(with_reducible repeat (first | refine blk_drewN ?_ _ | refine blk_drew ?_ | refine blk_alloc ?_ _));refine blk_put (cs:=#[.int .i64 0,.int .i64 0,.int .i64 0]) ?_ 0 _ rfl;(with_reducible repeat (first | refine blk_drewN ?_ _ | refine blk_drew ?_ | refine blk_alloc ?_ _));exact BK104.out⟩,⟨T25_⟩⟩
           ·replace c19:=Bool.eq_false_iff.mpr c19
            subst c19;have H1:(spec_IsDiagram.j2 k2 l0 l1 x5_2 t105 true ((rd_T56 l0 x5_2).f0) ((rd_T56 l0 x5_2).f1) ((rd_T56 l0 x5_2).f2)) = some r:=by rw [if_neg (show ¬ (false = true) by decide)] at H;exact H
            clear H;have H:=H1;clear H1;have H':=aZ_ H;clear H;obtain ⟨⟨hcz21_0,hcz21_1,hcz21_2⟩,hfz21_0,hfz21_1,hfz21_2⟩:=bc3_ BK104.out
            go_wp2_with (first | (go_at_call 54;(with_reducible refine (spec_l1In.calls ((rd_T56 l0 x5_2).f1) (-2) (wrap64 (x5_2 - 1)) true _ A16.out).mono ?_);rintro e w' ⟨rfl,⟨nd,rfl⟩⟩;(try exact T7_)) | (go_at_call 54;(with_reducible refine (spec_l1In.calls ((rd_T56 l0 x5_2).f2) (-2) (wrap64 (x5_2 - 1)) false _ A18.out).mono ?_);rintro e w' ⟨rfl,⟨nd,rfl⟩⟩;(try exact T7_)))
            repeat (go_quiet (first | (go_at_call 54;(with_reducible refine (spec_l1In.calls ((rd_T56 l0 x5_2).f1) (-2) (wrap64 (x5_2 - 1)) true _ A16.out).mono ?_);rintro e w' ⟨rfl,⟨nd,rfl⟩⟩;(try exact T7_)) | (go_at_call 54;(with_reducible refine (spec_l1In.calls ((rd_T56 l0 x5_2).f2) (-2) (wrap64 (x5_2 - 1)) false _ A18.out).mono ?_);rintro e w' ⟨rfl,⟨nd,rfl⟩⟩;(try exact T7_)));try go_wp2_with (first | (go_at_call 54;(with_reducible refine (spec_l1In.calls ((rd_T56 l0 x5_2).f1) (-2) (wrap64 (x5_2 - 1)) true _ A16.out).mono ?_);rintro e w' ⟨rfl,⟨nd,rfl⟩⟩;(try exact T7_)) | (go_at_call 54;(with_reducible refine (spec_l1In.calls ((rd_T56 l0 x5_2).f2) (-2) (wrap64 (x5_2 - 1)) false _ A18.out).mono ?_);rintro e w' ⟨rfl,⟨nd,rfl⟩⟩;(try exact T7_))))
            go_meet
            case rel=>exact ⟨_,(true),T11_,H',⟨T84_⟩,⟨by (with_reducible repeat (first | refine blk_drewN ?_ _ | refine blk_drew ?_ | refine blk_alloc ?_ _));refine blk_put (cs:=#[.int .i64 ((rd_T56 l0 x5_2).f0),.int .i64 ((rd_T56 l0 x5_2).f1),.int .i64 0]) ?_ 2 _ rfl;(with_reducible repeat (first | refine blk_drewN ?_ _ | refine blk_drew ?_ | refine blk_alloc ?_ _));refine blk_put (cs:=#[.int .i64 ((rd_T56 l0 x5_2).f0),.int .i64 0,.int .i64 0]) ?_ 1 _ rfl;(with_reducible repeat (first | refine blk_drewN ?_ _ | refine blk_drew ?_ | refine blk_alloc ?_ _));refine blk_put (cs:=#[.int .i64 0,.int .i64 0,.int .i64 0]) ?_ 0 _ rfl;(with_reducible repeat (first | refine blk_drewN ?_ _ | refine blk_drew ?_ | refine blk_alloc ?_ _));exact BK104.out⟩,⟨T25_⟩⟩
          ·replace c17:=Bool.eq_false_iff.mpr c17
           subst c17;have H1:(spec_IsDiagram.j2 k2 l0 l1 x5_2 t105 true ((rd_T56 l0 x5_2).f0) ((rd_T56 l0 x5_2).f1) ((rd_T56 l0 x5_2).f2)) = some r:=by rw [if_neg (show ¬ (false = true) by decide)] at H;exact H
           clear H;have H:=H1;clear H1;have H':=aZ_ H;clear H;obtain ⟨⟨hcz22_0,hcz22_1,hcz22_2⟩,hfz22_0,hfz22_1,hfz22_2⟩:=bc3_ BK104.out
           go_wp2_with (first | (go_at_call 54;(with_reducible refine (spec_l1In.calls ((rd_T56 l0 x5_2).f1) (-2) (wrap64 (x5_2 - 1)) false _ A16.out).mono ?_);rintro e w' ⟨rfl,⟨nd,rfl⟩⟩;(try exact T7_)))
           repeat (go_quiet (first | (go_at_call 54;(with_reducible refine (spec_l1In.calls ((rd_T56 l0 x5_2).f1) (-2) (wrap64 (x5_2 - 1)) false _ A16.out).mono ?_);rintro e w' ⟨rfl,⟨nd,rfl⟩⟩;(try exact T7_)));try go_wp2_with (first | (go_at_call 54;(with_reducible refine (spec_l1In.calls ((rd_T56 l0 x5_2).f1) (-2) (wrap64 (x5_2 - 1)) false _ A16.out).mono ?_);rintro e w' ⟨rfl,⟨nd,rfl⟩⟩;(try exact T7_))))
           go_meet
           case rel=>exact ⟨_,(true),T11_,H',⟨T84_⟩,⟨by (with_reducible repeat (first | refine blk_drewN ?_ _ | refine blk_drew ?_ | refine blk_alloc ?_ _));refine blk_put (cs:=#[.int .i64 ((rd_T56 l0 x5_2).f0),.int .i64 ((rd_T56 l0 x5_2).f1),.int .i64 0]) ?_ 2 _ rfl;(with_reducible repeat (first | refine blk_drewN ?_ _ | refine blk_drew ?_ | refine blk_alloc ?_ _));refine blk_put (cs:=#[.int .i64 ((rd_T56 l0 x5_2).f0),.int .i64 0,.int .i64 0]) ?_ 1 _ rfl;(with_reducible repeat (first | refine blk_drewN ?_ _ | refine blk_drew ?_ | refine blk_alloc ?_ _));refine blk_put (cs:=#[.int .i64 0,.int .i64 0,.int .i64 0]) ?_ 0 _ rfl;(with_reducible repeat (first | refine blk_drewN ?_ _ | refine blk_drew ?_ | refine blk_alloc ?_ _));exact BK104.out⟩,⟨T25_⟩⟩
        case rest =>
         clear HC12
         repeat (first | clear c1 | clear p1 | clear q1 | clear hx1 | clear c2 | clear p2 | clear c5 | clear c6 | clear c6b0 | clear c6b1 | clear p6 | clear c8 | clear c9 | clear c9b0 | clear c10 | clear c10b0 | clear p10 | clear q10 | clear hx10 | clear c15 | clear c15b0 | clear c15b1 | clear c17 | clear c19 | clear hcz14_0 | clear hcz14_1 | clear hcz14_2 | clear hcz20_0 | clear hcz20_1 | clear hcz20_2 | clear hcz21_0 | clear hcz21_1 | clear hcz21_2 | clear hcz22_0 | clear hcz22_1 | clear hcz22_2 | clear hfz14_0 | clear hfz14_1 | clear hfz14_2 | clear hfz20_0 | clear hfz20_1 | clear hfz20_2 | clear hfz21_0 | clear hfz21_1 | clear hfz21_2 | clear hfz22_0 | clear hfz22_1 | clear hfz22_2 | clear hx103_0 | clear hx103_1 | clear hx103_2 | clear p103 | clear q103)
         obtain ⟨kq,x65_11,rfl,HA,HJ11,BK104,HB⟩:=hcut
         cases kq with
         | zero=>exact absurd HA.out (by simp [spec_IsDiagram.j2])
         | succ kj11 =>
          have H:=HA.out;clear HA;simp only [spec_IsDiagram.j2] at H
          by_cases c23:x65_11 = true
          ·subst c23
           have H1:(some false) = some r:=by rw [if_pos rfl] at H;exact H
           clear H;have H:=H1;clear H1;obtain rfl:=Option.some.inj H;go_wp2
           repeat (go_quiet (fail);try go_wp2)
           go_ret;exact ⟨T13_,T25_⟩
          ·replace c23:=Bool.eq_false_iff.mpr c23
           subst c23;have H1:(if ((rd_T56 l0 x5_2).f1) ≥ 0 then (if 0 ≤ ((rd_T56 l0 x5_2).f1) then (if ((rd_T56 l0 x5_2).f1) < (l0.length:Int) then ((spec_l19Level.f kj11 l1 ((rd_T56 l0 ((rd_T56 l0 x5_2).f1)).f0)).bind fun t109=>(if t109 ≤ t105 then (spec_IsDiagram.j3 kj11 l0 l1 x5_2 true ((rd_T56 l0 x5_2).f0) ((rd_T56 l0 x5_2).f1) ((rd_T56 l0 x5_2).f2)) else (if ((rd_T56 l0 x5_2).f2) ≥ 0 then (if 0 ≤ ((rd_T56 l0 x5_2).f2) then (if ((rd_T56 l0 x5_2).f2) < (l0.length:Int) then ((spec_l19Level.f kj11 l1 ((rd_T56 l0 ((rd_T56 l0 x5_2).f2)).f0)).bind fun t111=>(spec_IsDiagram.j3 kj11 l0 l1 x5_2 (decide (t111 ≤ t105)) ((rd_T56 l0 x5_2).f0) ((rd_T56 l0 x5_2).f1) ((rd_T56 l0 x5_2).f2))) else (none)) else (none)) else (spec_IsDiagram.j3 kj11 l0 l1 x5_2 false ((rd_T56 l0 x5_2).f0) ((rd_T56 l0 x5_2).f1) ((rd_T56 l0 x5_2).f2))))) else (none)) else (none)) else (if ((rd_T56 l0 x5_2).f2) ≥ 0 then (if 0 ≤ ((rd_T56 l0 x5_2).f2) then (if ((rd_T56 l0 x5_2).f2) < (l0.length:Int) then ((spec_l19Level.f kj11 l1 ((rd_T56 l0 ((rd_T56 l0 x5_2).f2)).f0)).bind fun t113=>(spec_IsDiagram.j3 kj11 l0 l1 x5_2 (decide (t113 ≤ t105)) ((rd_T56 l0 x5_2).f0) ((rd_T56 l0 x5_2).f1) ((rd_T56 l0 x5_2).f2))) else (none)) else (none)) else (spec_IsDiagram.j3 kj11 l0 l1 x5_2 false ((rd_T56 l0 x5_2).f0) ((rd_T56 l0 x5_2).f1) ((rd_T56 l0 x5_2).f2)))) = some r:=by rw [if_neg (show ¬ (false = true) by decide)] at H;exact H
           clear H;have H:=H1;clear H1;have HC24:=aZ_ H;clear H
           go_upto_region 10 with (fail)
           repeat (go_quiet (fail);go_upto_region 10 with (fail))
           go_cut [97] (fun v97 wc=>∃ (kq:Nat) (x97_23:Bool),v97 = .bool x97_23 ∧ Aside0 (spec_IsDiagram.j3 kq l0 l1 x5_2 x97_23 ((rd_T56 l0 x5_2).f0) ((rd_T56 l0 x5_2).f1) ((rd_T56 l0 x5_2).f2) = some r) ∧ Aside0 (kq ≤ kj11) ∧ Aside0 (wc.heap[gb104]? = some (.cells #[.int .i64 ((rd_T56 l0 x5_2).f0),.int .i64 ((rd_T56 l0 x5_2).f1),.int .i64 ((rd_T56 l0 x5_2).f2)] 56 (0,0))) ∧ Aside0 (Below w.heap.size w wc))
           case first =>
            have H:=HC24.out;clear HC24
            by_cases c25:((rd_T56 l0 x5_2).f1) ≥ 0
            ·rw [if_pos c25] at H
             have c25b0:decide (0 ≤ ((rd_T56 l0 x5_2).f1)) = true:=decide_eq_true c25;clear c25
             (first | rw [c25b0] | (simp only [i64_w,i32_w];rw [c25b0]) | skip)
             by_cases c26:0 ≤ ((rd_T56 l0 x5_2).f1)
             ·rw [if_pos c26] at H
              have c26b0:decide (0 ≤ ((rd_T56 l0 x5_2).f1)) = true:=decide_eq_true c26;clear c26
              by_cases c27:((rd_T56 l0 x5_2).f1) < (l0.length:Int)
              ·rw [if_pos c27] at H
               have c27b0:decide (((rd_T56 l0 x5_2).f1) < (l0.length:Int)) = true:=decide_eq_true c27;clear c27;replace H:=Option.bind_eq_some_iff.mp H;obtain ⟨t109,A280,H⟩:=H;replace H:(if t109 ≤ t105 then (spec_IsDiagram.j3 kj11 l0 l1 x5_2 true ((rd_T56 l0 x5_2).f0) ((rd_T56 l0 x5_2).f1) ((rd_T56 l0 x5_2).f2)) else (if ((rd_T56 l0 x5_2).f2) ≥ 0 then (if 0 ≤ ((rd_T56 l0 x5_2).f2) then (if ((rd_T56 l0 x5_2).f2) < (l0.length:Int) then ((spec_l19Level.f kj11 l1 ((rd_T56 l0 ((rd_T56 l0 x5_2).f2)).f0)).bind fun t111=>(spec_IsDiagram.j3 kj11 l0 l1 x5_2 (decide (t111 ≤ t105)) ((rd_T56 l0 x5_2).f0) ((rd_T56 l0 x5_2).f1) ((rd_T56 l0 x5_2).f2))) else (none)) else (none)) else (spec_IsDiagram.j3 kj11 l0 l1 x5_2 false ((rd_T56 l0 x5_2).f0) ((rd_T56 l0 x5_2).f1) ((rd_T56 l0 x5_2).f2)))) = some r:=H;have A28:=aZ_ A280;clear A280
               by_cases c29:t109 ≤ t105
               ·rw [if_pos c29] at H
                have c29b0:decide (t109 ≤ t105) = true:=decide_eq_true c29;clear c29;have H':=aZ_ H;clear H;obtain ⟨⟨hcz30_0,hcz30_1,hcz30_2⟩,hfz30_0,hfz30_1,hfz30_2⟩:=bc3_ BK104.out;have p108:0 ≤ (((rd_T56 l0 x5_2).f1):Int):=of_decide_eq_true T14_;have q108:((rd_T56 l0 x5_2).f1) < (l0.length:Int):=of_decide_eq_true T14_;obtain ⟨ad108,e108,hx108_0,hx108_1,hx108_2⟩:=at_T56 HR0.out ((rd_T56 l0 x5_2).f1) p108 q108;obtain rfl:ad103 = ad108:=(by injection e108);replace hx108_0:=(HB.out.cell (World.block_lt_of_cell? w _ hx108_0)).trans hx108_0;replace hx108_1:=(HB.out.cell (World.block_lt_of_cell? w _ hx108_1)).trans hx108_1;replace hx108_2:=(HB.out.cell (World.block_lt_of_cell? w _ hx108_2)).trans hx108_2;replace p108:=eq_true p108;replace q108:=eq_true q108
                go_wp2_with (first | (go_at_call 55;(with_reducible refine (spec_l19Level.calls kj11 _ _ l1 ((rd_T56 l0 ((rd_T56 l0 x5_2).f1)).f0) t109 _ ?side1 ?side2 A28.out).mono ?_);(case side1=>exact T15_);(case side2=>exact HC1.out);rintro e w' ⟨rfl,⟨nd,rfl⟩⟩;(try exact T7_)))
                repeat (go_quiet (first | (go_at_call 55;(with_reducible refine (spec_l19Level.calls kj11 _ _ l1 ((rd_T56 l0 ((rd_T56 l0 x5_2).f1)).f0) t109 _ ?side1 ?side2 A28.out).mono ?_);(case side1=>exact T15_);(case side2=>exact HC1.out);rintro e w' ⟨rfl,⟨nd,rfl⟩⟩;(try exact T7_)));try go_wp2_with (first | (go_at_call 55;(with_reducible refine (spec_l19Level.calls kj11 _ _ l1 ((rd_T56 l0 ((rd_T56 l0 x5_2).f1)).f0) t109 _ ?side1 ?side2 A28.out).mono ?_);(case side1=>exact T15_);(case side2=>exact HC1.out);rintro e w' ⟨rfl,⟨nd,rfl⟩⟩;(try exact T7_))))
                go_meet
                case rel=>exact ⟨_,(true),T11_,H',⟨T91_⟩,⟨by (with_reducible repeat (first | refine blk_drewN ?_ _ | refine blk_drew ?_ | refine blk_alloc ?_ _));exact BK104.out⟩,⟨T25_⟩⟩
               ·rw [if_neg c29] at H
                have c29b0:decide (t109 ≤ t105) = false:=decide_eq_false c29;clear c29
                by_cases c31:((rd_T56 l0 x5_2).f2) ≥ 0
                ·rw [if_pos c31] at H
                 have c31b0:decide (0 ≤ ((rd_T56 l0 x5_2).f2)) = true:=decide_eq_true c31;clear c31
                 by_cases c32:0 ≤ ((rd_T56 l0 x5_2).f2)
                 ·rw [if_pos c32] at H
                  have c32b0:decide (0 ≤ ((rd_T56 l0 x5_2).f2)) = true:=decide_eq_true c32;clear c32
                  by_cases c33:((rd_T56 l0 x5_2).f2) < (l0.length:Int)
                  ·rw [if_pos c33] at H
                   have c33b0:decide (((rd_T56 l0 x5_2).f2) < (l0.length:Int)) = true:=decide_eq_true c33;clear c33;replace H:=Option.bind_eq_some_iff.mp H;obtain ⟨t111,A340,H⟩:=H;replace H:(spec_IsDiagram.j3 kj11 l0 l1 x5_2 (decide (t111 ≤ t105)) ((rd_T56 l0 x5_2).f0) ((rd_T56 l0 x5_2).f1) ((rd_T56 l0 x5_2).f2)) = some r:=H;have A34:=aZ_ A340;clear A340;have H':=aZ_ H;clear H;obtain ⟨⟨hcz35_0,hcz35_1,hcz35_2⟩,hfz35_0,hfz35_1,hfz35_2⟩:=bc3_ BK104.out;have p108:0 ≤ (((rd_T56 l0 x5_2).f1):Int):=of_decide_eq_true T14_;have q108:((rd_T56 l0 x5_2).f1) < (l0.length:Int):=of_decide_eq_true T14_;obtain ⟨ad108,e108,hx108_0,hx108_1,hx108_2⟩:=at_T56 HR0.out ((rd_T56 l0 x5_2).f1) p108 q108;obtain rfl:ad103 = ad108:=(by injection e108);replace hx108_0:=(HB.out.cell (World.block_lt_of_cell? w _ hx108_0)).trans hx108_0;replace hx108_1:=(HB.out.cell (World.block_lt_of_cell? w _ hx108_1)).trans hx108_1;replace hx108_2:=(HB.out.cell (World.block_lt_of_cell? w _ hx108_2)).trans hx108_2;replace p108:=eq_true p108;replace q108:=eq_true q108
                   go_wp2_with (first | (go_at_call 55;(with_reducible refine (spec_l19Level.calls kj11 _ _ l1 ((rd_T56 l0 ((rd_T56 l0 x5_2).f1)).f0) t109 _ ?side1 ?side2 A28.out).mono ?_);(case side1=>exact T15_);(case side2=>exact HC1.out);rintro e w' ⟨rfl,⟨nd,rfl⟩⟩;(try exact T7_);have p110:0 ≤ (((rd_T56 l0 x5_2).f2):Int):=of_decide_eq_true T14_;have q110:((rd_T56 l0 x5_2).f2) < (l0.length:Int):=of_decide_eq_true T14_;obtain ⟨ad110,e110,hx110_0,hx110_1,hx110_2⟩:=at_T56 HR0.out ((rd_T56 l0 x5_2).f2) p110 q110;obtain rfl:ad103 = ad110:=(by injection e110);replace hx110_0:=(HB.out.cell (World.block_lt_of_cell? w _ hx110_0)).trans hx110_0;replace hx110_1:=(HB.out.cell (World.block_lt_of_cell? w _ hx110_1)).trans hx110_1;replace hx110_2:=(HB.out.cell (World.block_lt_of_cell? w _ hx110_2)).trans hx110_2;replace p110:=eq_true p110;replace q110:=eq_true q110) | (go_at_call 55;(with_reducible refine (spec_l19Level.calls kj11 _ _ l1 ((rd_T56 l0 ((rd_T56 l0 x5_2).f2)).f0) t111 _ ?side1 ?side2 A34.out).mono ?_);(case side1=>exact T63_);(case side2=>exact HC1.out);rintro e w' ⟨rfl,⟨nd,rfl⟩⟩;(try exact T7_)))
                   repeat (go_quiet (first | (go_at_call 55;(with_reducible refine (spec_l19Level.calls kj11 _ _ l1 ((rd_T56 l0 ((rd_T56 l0 x5_2).f1)).f0) t109 _ ?side1 ?side2 A28.out).mono ?_);(case side1=>exact T15_);(case side2=>exact HC1.out);rintro e w' ⟨rfl,⟨nd,rfl⟩⟩;(try exact T7_);have p110:0 ≤ (((rd_T56 l0 x5_2).f2):Int):=of_decide_eq_true T14_;have q110:((rd_T56 l0 x5_2).f2) < (l0.length:Int):=of_decide_eq_true T14_;obtain ⟨ad110,e110,hx110_0,hx110_1,hx110_2⟩:=at_T56 HR0.out ((rd_T56 l0 x5_2).f2) p110 q110;obtain rfl:ad103 = ad110:=(by injection e110);replace hx110_0:=(HB.out.cell (World.block_lt_of_cell? w _ hx110_0)).trans hx110_0;replace hx110_1:=(HB.out.cell (World.block_lt_of_cell? w _ hx110_1)).trans hx110_1;replace hx110_2:=(HB.out.cell (World.block_lt_of_cell? w _ hx110_2)).trans hx110_2;replace p110:=eq_true p110;replace q110:=eq_true q110) | (go_at_call 55;(with_reducible refine (spec_l19Level.calls kj11 _ _ l1 ((rd_T56 l0 ((rd_T56 l0 x5_2).f2)).f0) t111 _ ?side1 ?side2 A34.out).mono ?_);(case side1=>exact T63_);(case side2=>exact HC1.out);rintro e w' ⟨rfl,⟨nd,rfl⟩⟩;(try exact T7_)));try go_wp2_with (first | (go_at_call 55;(with_reducible refine (spec_l19Level.calls kj11 _ _ l1 ((rd_T56 l0 ((rd_T56 l0 x5_2).f1)).f0) t109 _ ?side1 ?side2 A28.out).mono ?_);(case side1=>exact T15_);(case side2=>exact HC1.out);rintro e w' ⟨rfl,⟨nd,rfl⟩⟩;(try exact T7_);have p110:0 ≤ (((rd_T56 l0 x5_2).f2):Int):=of_decide_eq_true T14_;have q110:((rd_T56 l0 x5_2).f2) < (l0.length:Int):=of_decide_eq_true T14_;obtain ⟨ad110,e110,hx110_0,hx110_1,hx110_2⟩:=at_T56 HR0.out ((rd_T56 l0 x5_2).f2) p110 q110;obtain rfl:ad103 = ad110:=(by injection e110);replace hx110_0:=(HB.out.cell (World.block_lt_of_cell? w _ hx110_0)).trans hx110_0;replace hx110_1:=(HB.out.cell (World.block_lt_of_cell? w _ hx110_1)).trans hx110_1;replace hx110_2:=(HB.out.cell (World.block_lt_of_cell? w _ hx110_2)).trans hx110_2;replace p110:=eq_true p110;replace q110:=eq_true q110) | (go_at_call 55;(with_reducible refine (spec_l19Level.calls kj11 _ _ l1 ((rd_T56 l0 ((rd_T56 l0 x5_2).f2)).f0) t111 _ ?side1 ?side2 A34.out).mono ?_);(case side1=>exact T63_);(case side2=>exact HC1.out);rintro e w' ⟨rfl,⟨nd,rfl⟩⟩;(try exact T7_))))
                   go_meet
                   case rel=>exact ⟨_,(decide (t111 ≤ t105)),T11_,H',⟨T91_⟩,⟨by (with_reducible repeat (first | refine blk_drewN ?_ _ | refine blk_drew ?_ | refine blk_alloc ?_ _));exact BK104.out⟩,⟨T25_⟩⟩
                  ·rw [if_neg c33] at H
                   exact absurd H T64_
                 ·rw [if_neg c32] at H
                  exact absurd H T64_
                ·rw [if_neg c31] at H
                 have c31b0:decide (0 ≤ ((rd_T56 l0 x5_2).f2)) = false:=decide_eq_false c31;clear c31;have H':=aZ_ H;clear H;obtain ⟨⟨hcz36_0,hcz36_1,hcz36_2⟩,hfz36_0,hfz36_1,hfz36_2⟩:=bc3_ BK104.out;have p108:0 ≤ (((rd_T56 l0 x5_2).f1):Int):=of_decide_eq_true T14_;have q108:((rd_T56 l0 x5_2).f1) < (l0.length:Int):=of_decide_eq_true T14_;obtain ⟨ad108,e108,hx108_0,hx108_1,hx108_2⟩:=at_T56 HR0.out ((rd_T56 l0 x5_2).f1) p108 q108;obtain rfl:ad103 = ad108:=(by injection e108);replace hx108_0:=(HB.out.cell (World.block_lt_of_cell? w _ hx108_0)).trans hx108_0;replace hx108_1:=(HB.out.cell (World.block_lt_of_cell? w _ hx108_1)).trans hx108_1;replace hx108_2:=(HB.out.cell (World.block_lt_of_cell? w _ hx108_2)).trans hx108_2;replace p108:=eq_true p108;replace q108:=eq_true q108
                 go_wp2_with (first | (go_at_call 55;(with_reducible refine (spec_l19Level.calls kj11 _ _ l1 ((rd_T56 l0 ((rd_T56 l0 x5_2).f1)).f0) t109 _ ?side1 ?side2 A28.out).mono ?_);(case side1=>exact T15_);(case side2=>exact HC1.out);rintro e w' ⟨rfl,⟨nd,rfl⟩⟩;(try exact T7_)))
                 repeat (go_quiet (first | (go_at_call 55;(with_reducible refine (spec_l19Level.calls kj11 _ _ l1 ((rd_T56 l0 ((rd_T56 l0 x5_2).f1)).f0) t109 _ ?side1 ?side2 A28.out).mono ?_);(case side1=>exact T15_);(case side2=>exact HC1.out);rintro e w' ⟨rfl,⟨nd,rfl⟩⟩;(try exact T7_)));try go_wp2_with (first | (go_at_call 55;(with_reducible refine (spec_l19Level.calls kj11 _ _ l1 ((rd_T56 l0 ((rd_T56 l0 x5_2).f1)).f0) t109 _ ?side1 ?side2 A28.out).mono ?_);(case side1=>exact T15_);(case side2=>exact HC1.out);rintro e w' ⟨rfl,⟨nd,rfl⟩⟩;(try exact T7_))))
                 go_meet
                 case rel=>exact ⟨_,(false),T11_,H',⟨T91_⟩,⟨by (with_reducible repeat (first | refine blk_drewN ?_ _ | refine blk_drew ?_ | refine blk_alloc ?_ _));exact BK104.out⟩,⟨T25_⟩⟩
              ·rw [if_neg c27] at H
               exact absurd H T64_
             ·rw [if_neg c26] at H
              exact absurd H T64_
            ·rw [if_neg c25] at H
             have c25b0:decide (0 ≤ ((rd_T56 l0 x5_2).f1)) = false:=decide_eq_false c25;clear c25
             (first | rw [c25b0] | (simp only [i64_w,i32_w];rw [c25b0]) | skip)
             by_cases c37:((rd_T56 l0 x5_2).f2) ≥ 0
             ·rw [if_pos c37] at H
              have c37b0:decide (0 ≤ ((rd_T56 l0 x5_2).f2)) = true:=decide_eq_true c37;clear c37
              by_cases c38:0 ≤ ((rd_T56 l0 x5_2).f2)
              ·rw [if_pos c38] at H
               have c38b0:decide (0 ≤ ((rd_T56 l0 x5_2).f2)) = true:=decide_eq_true c38;clear c38
               by_cases c39:((rd_T56 l0 x5_2).f2) < (l0.length:Int)
               ·rw [if_pos c39] at H
                have c39b0:decide (((rd_T56 l0 x5_2).f2) < (l0.length:Int)) = true:=decide_eq_true c39;clear c39;replace H:=Option.bind_eq_some_iff.mp H;obtain ⟨t113,A400,H⟩:=H;replace H:(spec_IsDiagram.j3 kj11 l0 l1 x5_2 (decide (t113 ≤ t105)) ((rd_T56 l0 x5_2).f0) ((rd_T56 l0 x5_2).f1) ((rd_T56 l0 x5_2).f2)) = some r:=H;have A40:=aZ_ A400;clear A400;have H':=aZ_ H;clear H;obtain ⟨⟨hcz41_0,hcz41_1,hcz41_2⟩,hfz41_0,hfz41_1,hfz41_2⟩:=bc3_ BK104.out;have p112:0 ≤ (((rd_T56 l0 x5_2).f2):Int):=of_decide_eq_true T14_;have q112:((rd_T56 l0 x5_2).f2) < (l0.length:Int):=of_decide_eq_true T14_;obtain ⟨ad112,e112,hx112_0,hx112_1,hx112_2⟩:=at_T56 HR0.out ((rd_T56 l0 x5_2).f2) p112 q112;obtain rfl:ad103 = ad112:=(by injection e112);replace hx112_0:=(HB.out.cell (World.block_lt_of_cell? w _ hx112_0)).trans hx112_0;replace hx112_1:=(HB.out.cell (World.block_lt_of_cell? w _ hx112_1)).trans hx112_1;replace hx112_2:=(HB.out.cell (World.block_lt_of_cell? w _ hx112_2)).trans hx112_2;replace p112:=eq_true p112;replace q112:=eq_true q112
                go_wp2_with (first | (go_at_call 55;(with_reducible refine (spec_l19Level.calls kj11 _ _ l1 ((rd_T56 l0 ((rd_T56 l0 x5_2).f2)).f0) t113 _ ?side1 ?side2 A40.out).mono ?_);(case side1=>exact T15_);(case side2=>exact HC1.out);rintro e w' ⟨rfl,⟨nd,rfl⟩⟩;(try exact T7_)))
                repeat (go_quiet (first | (go_at_call 55;(with_reducible refine (spec_l19Level.calls kj11 _ _ l1 ((rd_T56 l0 ((rd_T56 l0 x5_2).f2)).f0) t113 _ ?side1 ?side2 A40.out).mono ?_);(case side1=>exact T15_);(case side2=>exact HC1.out);rintro e w' ⟨rfl,⟨nd,rfl⟩⟩;(try exact T7_)));try go_wp2_with (first | (go_at_call 55;(with_reducible refine (spec_l19Level.calls kj11 _ _ l1 ((rd_T56 l0 ((rd_T56 l0 x5_2).f2)).f0) t113 _ ?side1 ?side2 A40.out).mono ?_);(case side1=>exact T15_);(case side2=>exact HC1.out);rintro e w' ⟨rfl,⟨nd,rfl⟩⟩;(try exact T7_))))
                go_meet
                case rel=>exact ⟨_,(decide (t113 ≤ t105)),T11_,H',⟨T91_⟩,⟨by (with_reducible repeat (first | refine blk_drewN ?_ _ | refine blk_drew ?_ | refine blk_alloc ?_ _));exact BK104.out⟩,⟨T25_⟩⟩
               ·rw [if_neg c39] at H
                exact absurd H T64_
              ·rw [if_neg c38] at H
               exact absurd H T64_
             ·rw [if_neg c37] at H
              have c37b0:decide (0 ≤ ((rd_T56 l0 x5_2).f2)) = false:=decide_eq_false c37;clear c37;have H':=aZ_ H;clear H;obtain ⟨⟨hcz42_0,hcz42_1,hcz42_2⟩,hfz42_0,hfz42_1,hfz42_2⟩:=bc3_ BK104.out;go_wp2
              repeat (go_quiet (fail);try go_wp2)
              go_meet
              case rel=>exact ⟨_,(false),T11_,H',⟨T91_⟩,⟨by (with_reducible repeat (first | refine blk_drewN ?_ _ | refine blk_drew ?_ | refine blk_alloc ?_ _));exact BK104.out⟩,⟨T25_⟩⟩
           case rest =>
            clear HC24
            repeat (first | clear c1 | clear p1 | clear q1 | clear hx1 | clear c2 | clear p2 | clear c3 | clear c5 | clear c6 | clear c6b0 | clear c6b1 | clear p6 | clear c8 | clear c9 | clear c9b0 | clear c10 | clear c10b0 | clear p10 | clear q10 | clear hx10 | clear p11 | clear q11 | clear hx11 | clear c15 | clear c15b0 | clear c15b1 | clear c17 | clear c19 | clear c23 | clear c25 | clear c25b0 | clear c26 | clear c26b0 | clear c27 | clear c27b0 | clear c29 | clear c29b0 | clear c31 | clear c31b0 | clear c32 | clear c32b0 | clear c33 | clear c33b0 | clear c37 | clear c37b0 | clear c38 | clear c38b0 | clear c39 | clear c39b0 | clear hcz14_0 | clear hcz14_1 | clear hcz14_2 | clear hcz20_0 | clear hcz20_1 | clear hcz20_2 | clear hcz21_0 | clear hcz21_1 | clear hcz21_2 | clear hcz22_0 | clear hcz22_1 | clear hcz22_2 | clear hcz30_0 | clear hcz30_1 | clear hcz30_2 | clear hcz35_0 | clear hcz35_1 | clear hcz35_2 | clear hcz36_0 | clear hcz36_1 | clear hcz36_2 | clear hcz41_0 | clear hcz41_1 | clear hcz41_2 | clear hcz42_0 | clear hcz42_1 | clear hcz42_2 | clear hfz14_0 | clear hfz14_1 | clear hfz14_2 | clear hfz20_0 | clear hfz20_1 | clear hfz20_2 | clear hfz21_0 | clear hfz21_1 | clear hfz21_2 | clear hfz22_0 | clear hfz22_1 | clear hfz22_2 | clear hfz30_0 | clear hfz30_1 | clear hfz30_2 | clear hfz35_0 | clear hfz35_1 | clear hfz35_2 | clear hfz36_0 | clear hfz36_1 | clear hfz36_2 | clear hfz41_0 | clear hfz41_1 | clear hfz41_2 | clear hfz42_0 | clear hfz42_1 | clear hfz42_2 | clear hx103_0 | clear hx103_1 | clear hx103_2 | clear hx108_0 | clear hx108_1 | clear hx108_2 | clear hx110_0 | clear hx110_1 | clear hx110_2 | clear hx112_0 | clear hx112_1 | clear hx112_2 | clear p103 | clear p108 | clear p110 | clear p112 | clear q103 | clear q108 | clear q110 | clear q112)
            obtain ⟨kq,x97_23,rfl,HA,HJ23,BK104,HB⟩:=hcut
            cases kq with
            | zero=>exact absurd HA.out (by simp [spec_IsDiagram.j3])
            | succ kj23 =>
             have H:=HA.out;clear HA;simp only [spec_IsDiagram.j3] at H
             by_cases c43:x97_23 = true
             ·subst c43
              have H1:(some false) = some r:=by rw [if_pos rfl] at H;exact H
              clear H;have H:=H1;clear H1;obtain rfl:=Option.some.inj H;go_wp2
              repeat (go_quiet (fail);try go_wp2)
              go_ret;exact ⟨T13_,T25_⟩
             ·replace c43:=Bool.eq_false_iff.mpr c43
              subst c43;have H1:(spec_IsDiagram.l1 kj23 l0 l1 x5_2 0 ((rd_T56 l0 x5_2).f0) ((rd_T56 l0 x5_2).f1) ((rd_T56 l0 x5_2).f2)) = some r:=by rw [if_neg (show ¬ (false = true) by decide)] at H;exact H
              clear H;have H:=H1;clear H1;have H':=aZ_ H;clear H;go_wp2
              repeat (go_quiet (fail);try go_wp2)
              go_loopg [8] kj23 (fun kq v8 w'=>∃ (x8_5:Int),v8 = .int .i64 x8_5 ∧ Aside0 (spec_IsDiagram.l1 kq l0 l1 x5_2 x8_5 ((rd_T56 l0 x5_2).f0) ((rd_T56 l0 x5_2).f1) ((rd_T56 l0 x5_2).f2) = some r) ∧ Aside0 (kq ≤ kj23) ∧ Aside0 (w'.heap[gb104]? = some (.cells #[.int .i64 ((rd_T56 l0 x5_2).f0),.int .i64 ((rd_T56 l0 x5_2).f1),.int .i64 ((rd_T56 l0 x5_2).f2)] 56 (0,0))) ∧ Aside0 (Below w.heap.size w w'))
              case atStart=>exact ⟨(0),T11_,H',⟨Nat.le_refl _⟩,⟨by (with_reducible repeat (first | refine blk_drewN ?_ _ | refine blk_drew ?_ | refine blk_alloc ?_ _));exact BK104.out⟩,⟨T25_⟩⟩
              case round =>
               clear H'
               repeat (first | clear c1 | clear p1 | clear q1 | clear hx1 | clear c2 | clear p2 | clear c3 | clear c4 | clear c5 | clear c6 | clear c6b0 | clear c6b1 | clear p6 | clear c8 | clear c9 | clear c9b0 | clear c10 | clear c10b0 | clear p10 | clear q10 | clear hx10 | clear p11 | clear q11 | clear hx11 | clear c15 | clear c15b0 | clear c15b1 | clear c17 | clear c19 | clear c23 | clear c25 | clear c25b0 | clear c26 | clear c26b0 | clear c27 | clear c27b0 | clear c29 | clear c29b0 | clear c31 | clear c31b0 | clear c32 | clear c32b0 | clear c33 | clear c33b0 | clear c37 | clear c37b0 | clear c38 | clear c38b0 | clear c39 | clear c39b0 | clear c43 | clear hcz14_0 | clear hcz14_1 | clear hcz14_2 | clear hcz20_0 | clear hcz20_1 | clear hcz20_2 | clear hcz21_0 | clear hcz21_1 | clear hcz21_2 | clear hcz22_0 | clear hcz22_1 | clear hcz22_2 | clear hcz30_0 | clear hcz30_1 | clear hcz30_2 | clear hcz35_0 | clear hcz35_1 | clear hcz35_2 | clear hcz36_0 | clear hcz36_1 | clear hcz36_2 | clear hcz41_0 | clear hcz41_1 | clear hcz41_2 | clear hcz42_0 | clear hcz42_1 | clear hcz42_2 | clear hfz14_0 | clear hfz14_1 | clear hfz14_2 | clear hfz20_0 | clear hfz20_1 | clear hfz20_2 | clear hfz21_0 | clear hfz21_1 | clear hfz21_2 | clear hfz22_0 | clear hfz22_1 | clear hfz22_2 | clear hfz30_0 | clear hfz30_1 | clear hfz30_2 | clear hfz35_0 | clear hfz35_1 | clear hfz35_2 | clear hfz36_0 | clear hfz36_1 | clear hfz36_2 | clear hfz41_0 | clear hfz41_1 | clear hfz41_2 | clear hfz42_0 | clear hfz42_1 | clear hfz42_2 | clear hx103_0 | clear hx103_1 | clear hx103_2 | clear hx108_0 | clear hx108_1 | clear hx108_2 | clear hx110_0 | clear hx110_1 | clear hx110_2 | clear hx112_0 | clear hx112_1 | clear hx112_2 | clear p103 | clear p108 | clear p110 | clear p112 | clear q103 | clear q108 | clear q110 | clear q112)
               obtain ⟨x8_5,rfl,HA,HK5,BK104,HB⟩:=hrel
               cases gk with
               | zero=>exact absurd HA.out (by simp [spec_IsDiagram.l1])
               | succ k5 =>
                have H:=HA.out;clear HA;simp only [spec_IsDiagram.l1] at H
                by_cases c44:x8_5 < x5_2
                ·rw [if_pos c44] at H
                 have c44b0:decide (x8_5 < x5_2) = true:=decide_eq_true c44;clear c44
                 by_cases c45:0 ≤ x8_5
                 ·rw [if_pos c45] at H
                  have c45b0:decide (0 ≤ x8_5) = true:=decide_eq_true c45;clear c45
                  by_cases c46:x8_5 < (l0.length:Int)
                  ·rw [if_pos c46] at H
                   have c46b0:decide (x8_5 < (l0.length:Int)) = true:=decide_eq_true c46;clear c46
                   by_cases c47:(((rd_T56 l0 x8_5).f0) == ((rd_T56 l0 x5_2).f0) && (((rd_T56 l0 x8_5).f1) == ((rd_T56 l0 x5_2).f1) && (((rd_T56 l0 x8_5).f2) == ((rd_T56 l0 x5_2).f2)))) = true
                   ·rw [if_pos c47] at H
                    have c47b0:(((rd_T56 l0 x8_5).f0) == ((rd_T56 l0 x5_2).f0) && (((rd_T56 l0 x8_5).f1) == ((rd_T56 l0 x5_2).f1) && (((rd_T56 l0 x8_5).f2) == ((rd_T56 l0 x5_2).f2)))) = true:=c47
                    (try (have c47b1:decide (((rd_T56 l0 x8_5).f0) = ((rd_T56 l0 x5_2).f0) && (((rd_T56 l0 x8_5).f1) == ((rd_T56 l0 x5_2).f1) && (((rd_T56 l0 x8_5).f2) == ((rd_T56 l0 x5_2).f2)))) = true:=by simpa using c47))
                    (try (have c47b2:(((rd_T56 l0 x8_5).f0) == ((rd_T56 l0 x5_2).f0) && (((rd_T56 l0 x8_5).f1) == ((rd_T56 l0 x5_2).f1) && (((rd_T56 l0 x8_5).f2) == ((rd_T56 l0 x5_2).f2)))) = true:=by simpa using c47))
                    clear c47;obtain rfl:=Option.some.inj H;have p114:0 ≤ (x8_5:Int):=of_decide_eq_true T14_;have q114:x8_5 < (l0.length:Int):=of_decide_eq_true T14_;obtain ⟨ad114,e114,hx114_0,hx114_1,hx114_2⟩:=at_T56 HR0.out x8_5 p114 q114;obtain rfl:ad103 = ad114:=(by injection e114);replace hx114_0:=(HB.out.cell (World.block_lt_of_cell? w _ hx114_0)).trans hx114_0;replace hx114_1:=(HB.out.cell (World.block_lt_of_cell? w _ hx114_1)).trans hx114_1;replace hx114_2:=(HB.out.cell (World.block_lt_of_cell? w _ hx114_2)).trans hx114_2;replace p114:=eq_true p114;replace q114:=eq_true q114;obtain ⟨⟨hcz48_0,hcz48_1,hcz48_2⟩,hfz48_0,hfz48_1,hfz48_2⟩:=bc3_ BK104.out;go_wp2
                    repeat (go_quiet (fail);try go_wp2)
                    go_ret;exact ⟨T13_,T25_⟩
                   ·rw [if_neg c47] at H
                    have c47b0:(((rd_T56 l0 x8_5).f0) == ((rd_T56 l0 x5_2).f0) && (((rd_T56 l0 x8_5).f1) == ((rd_T56 l0 x5_2).f1) && (((rd_T56 l0 x8_5).f2) == ((rd_T56 l0 x5_2).f2)))) = false:=by simpa using c47
                    (try (have c47b1:decide (((rd_T56 l0 x8_5).f0) = ((rd_T56 l0 x5_2).f0) && (((rd_T56 l0 x8_5).f1) == ((rd_T56 l0 x5_2).f1) && (((rd_T56 l0 x8_5).f2) == ((rd_T56 l0 x5_2).f2)))) = false:=by simpa using c47))
                    (try (have c47b2:(((rd_T56 l0 x8_5).f0) == ((rd_T56 l0 x5_2).f0) && (((rd_T56 l0 x8_5).f1) == ((rd_T56 l0 x5_2).f1) && (((rd_T56 l0 x8_5).f2) == ((rd_T56 l0 x5_2).f2)))) = false:=by simpa using c47))
                    (try (have c47b3:¬ (((rd_T56 l0 x8_5).f0) = ((rd_T56 l0 x5_2).f0) && (((rd_T56 l0 x8_5).f1) == ((rd_T56 l0 x5_2).f1) && (((rd_T56 l0 x8_5).f2) == ((rd_T56 l0 x5_2).f2)))):=by simpa using c47))
                    clear c47;have H':=aZ_ H;clear H;have p114:0 ≤ (x8_5:Int):=of_decide_eq_true T14_;have q114:x8_5 < (l0.length:Int):=of_decide_eq_true T14_;obtain ⟨ad114,e114,hx114_0,hx114_1,hx114_2⟩:=at_T56 HR0.out x8_5 p114 q114;obtain rfl:ad103 = ad114:=(by injection e114);replace hx114_0:=(HB.out.cell (World.block_lt_of_cell? w _ hx114_0)).trans hx114_0;replace hx114_1:=(HB.out.cell (World.block_lt_of_cell? w _ hx114_1)).trans hx114_1;replace hx114_2:=(HB.out.cell (World.block_lt_of_cell? w _ hx114_2)).trans hx114_2;replace p114:=eq_true p114;replace q114:=eq_true q114;obtain ⟨⟨hcz49_0,hcz49_1,hcz49_2⟩,hfz49_0,hfz49_1,hfz49_2⟩:=bc3_ BK104.out;go_wp2
                    repeat (go_quiet (fail);try go_wp2)
                    go_roundg k5
                    case measure=>have:=HJ2.out;have:=HK2.out;have:=HJ11.out;have:=HJ23.out;have:=HK5.out;omega
                    case rel=>exact ⟨(wrap64 (x8_5 + 1)),T11_,H',⟨(by have:=HJ2.out;have:=HK2.out;have:=HJ11.out;have:=HJ23.out;have:=HK5.out;omega)⟩,⟨by (with_reducible repeat (first | refine blk_drewN ?_ _ | refine blk_drew ?_ | refine blk_alloc ?_ _));exact BK104.out⟩,⟨T25_⟩⟩
                  ·rw [if_neg c46] at H
                   exact absurd H T64_
                 ·rw [if_neg c45] at H
                  exact absurd H T64_
                ·rw [if_neg c44] at H
                 have c44b0:decide (x8_5 < x5_2) = false:=decide_eq_false c44;clear c44;have H':=aZ_ H;clear H;go_wp2
                 repeat (go_quiet (fail);try go_wp2)
                 go_roundg k5
                 case measure=>have:=HJ2.out;have:=HK2.out;have:=HJ11.out;have:=HJ23.out;have:=HK5.out;omega
                 case rel=>exact ⟨(wrap64 (x5_2 + 1)),T11_,H',⟨(by have:=HJ2.out;have:=HK2.out;have:=HJ11.out;have:=HJ23.out;have:=HK5.out;omega)⟩,⟨T25_⟩⟩
       ·rw [if_neg c10] at H
        exact absurd H T64_
      ·rw [if_neg c9] at H
       have c9b0:decide (x5_2 < (l0.length:Int)) = false:=decide_eq_false c9;clear c9;obtain rfl:=Option.some.inj H;go_wp2
       repeat (go_quiet (fail);try go_wp2)
       go_ret;exact ⟨T13_,T2_⟩
end Go.Proofs.YtflacbjpeecjcabGreatDoor.F
namespace Go.Proofs.YtflacbjpeecjcabGreatDoor.F
attribute [local go_sem] max2_int min2_int max_two min_two max_three min_three max_four min_four 
mutual
def spec_ValueInDiagram.j0:Nat → List (S56) → Int → Int → Bool → Option (Int)
 | 0,_,_,_,_=>none
 | k + 1,x0,x1,x5,x18=>if x18 = true then (some (-1)) else (spec_ValueInDiagram.l0 k x0 x1 x5)
def spec_ValueInDiagram.l0:Nat → List (S56) → Int → Int → Option (Int)
 | 0,_,_,_=>none
 | k + 1,x0,x1,x5=>if x5 ≥ 0 then (if 0 ≤ x5 then (if x5 < (x0.length:Int) then ((spec_l1In.f ((rd_T56 x0 x5).f0) 0 4).bind fun t104=>(if t104 = true then (if 0 ≤ ((rd_T56 x0 x5).f0) then (if (Go.bits .and .i64 (shr .i64 x1 ((rd_T56 x0 x5).f0)) 1) = 1 then (spec_ValueInDiagram.j2 k x0 x1 x5 ((rd_T56 x0 x5).f2)) else (spec_ValueInDiagram.j2 k x0 x1 x5 ((rd_T56 x0 x5).f1))) else (none)) else (some (-1)))) else (none)) else (none)) else (some (-1))
def spec_ValueInDiagram.j2:Nat → List (S56) → Int → Int → Int → Option (Int)
 | 0,_,_,_,_=>none
 | k + 1,x0,x1,x5,x7=>(spec_l1In.f x7 (-2) (-1)).bind fun t105=>(if t105 = true then (some (wrap64 (x7 + 2))) else ((spec_l1In.f x7 0 (wrap64 (x5 - 1))).bind fun t106=>(if t106 = true then (spec_ValueInDiagram.l0 k x0 x1 x7) else (some (-1)))))
end
def spec_ValueInDiagram.f (k:Nat) (l0:List (S56)) (a1:Int):Option (Int):=if (l0.length:Int) > 31 then (spec_ValueInDiagram.j0 k l0 a1 (wrap64 ((l0.length:Int) - 1)) true) else ((spec_l1In.f a1 0 31).bind fun t101=>(spec_ValueInDiagram.j0 k l0 a1 (wrap64 ((l0.length:Int) - 1)) (!t101)))
theorem spec_ValueInDiagram.calls (k:Nat) (A0:Option Addr) (c0:Nat) (l0:List (S56)) (a1:Int) (r:Int) (w:World) (hr0:Kd.C k56 w A0 l0.length l0) (hc0:l0.length ≤ c0) (h:spec_ValueInDiagram.f k l0 a1 = some r) :
  Calls Tryz.prog 27 #[.slice A0 l0.length c0,.int .i64 a1] w fun e w'=>e = .returned (.int .i64 r) ∧ Below w.heap.size w w':=by
 have hu56:=Tryz.underlying56;have HR0:=aZ_ hr0;have HC0:=aZ_ hc0;clear hr0 hc0;have HB:=aZ_ (Below.refl w.heap.size w);have H:(if (l0.length:Int) > 31 then (spec_ValueInDiagram.j0 k l0 a1 (wrap64 ((l0.length:Int) - 1)) true) else ((spec_l1In.f a1 0 31).bind fun t101=>(spec_ValueInDiagram.j0 k l0 a1 (wrap64 ((l0.length:Int) - 1)) (!t101)))) = some r:=h;clear h;have HC3:=aZ_ H;clear H;go_enter Tryz.func27,Tryz.ntmps27
 go_upto_region 2 with (fail)
 go_cut [18] (fun v18 wc=>∃ (kq:Nat) (x18_2:Bool),v18 = .bool x18_2 ∧ Aside0 (spec_ValueInDiagram.j0 kq l0 a1 (wrap64 ((l0.length:Int) - 1)) x18_2 = some r) ∧ Aside0 (kq ≤ k) ∧ Aside0 (Below w.heap.size w wc))
 case first =>
  have H:=HC3.out;clear HC3
  by_cases c4:(l0.length:Int) > 31
  ·rw [if_pos c4] at H
   have c4b0:decide (31 < (l0.length:Int)) = true:=decide_eq_true c4;have c4b1:decide (31 < l0.length) = true:=decide_eq_true T73_;clear c4
   (first | rw [c4b0] | (simp only [i64_w,i32_w];rw [c4b0]) | skip)
   have H':=aZ_ H;clear H;go_wp2;go_meet
   case rel=>exact ⟨_,(true),T11_,H',⟨T89_⟩,⟨T2_⟩⟩
  ·rw [if_neg c4] at H
   have c4b0:decide (31 < (l0.length:Int)) = false:=decide_eq_false c4;have c4b1:decide (31 < l0.length) = false:=decide_eq_false T73_;clear c4
   (first | rw [c4b0] | (simp only [i64_w,i32_w];rw [c4b0]) | skip)
   replace H:=Option.bind_eq_some_iff.mp H;obtain ⟨t101,A50,H⟩:=H;replace H:(spec_ValueInDiagram.j0 k l0 a1 (wrap64 ((l0.length:Int) - 1)) (!t101)) = some r:=H;have A5:=aZ_ A50;clear A50;have H':=aZ_ H;clear H
   go_wp2_with (first | (go_at_call 54;(with_reducible refine (spec_l1In.calls a1 0 31 t101 _ A5.out).mono ?_);rintro e w' ⟨rfl,⟨nd,rfl⟩⟩))
   go_meet
   case rel=>exact ⟨_,(!t101),T11_,H',⟨T89_⟩,⟨T2_⟩⟩
 case rest =>
  clear HC3
  repeat (first | clear c2 | clear p2 | clear c4 | clear c4b0 | clear c4b1)
  obtain ⟨kq,x18_2,rfl,HA,HJ2,HB⟩:=hcut
  cases kq with
  | zero=>exact absurd HA.out (by simp [spec_ValueInDiagram.j0])
  | succ kj2 =>
   have H:=HA.out;clear HA;simp only [spec_ValueInDiagram.j0] at H
   by_cases c6:x18_2 = true
   ·subst c6
    have H1:(some (-1)) = some r:=by rw [if_pos rfl] at H;exact H
    clear H;have H:=H1;clear H1;obtain rfl:=Option.some.inj H;go_wp2;go_ret;exact ⟨T13_,T2_⟩
   ·replace c6:=Bool.eq_false_iff.mpr c6
    subst c6;have H1:(spec_ValueInDiagram.l0 kj2 l0 a1 (wrap64 ((l0.length:Int) - 1))) = some r:=by rw [if_neg (show ¬ (false = true) by decide)] at H;exact H
    clear H;have H:=H1;clear H1;have H':=aZ_ H;clear H;go_wp2
    go_loopg [5] kj2 (fun kq v5 w'=>∃ (x5_2:Int),v5 = .int .i64 x5_2 ∧ Aside0 (spec_ValueInDiagram.l0 kq l0 a1 x5_2 = some r) ∧ Aside0 (kq ≤ kj2) ∧ Aside0 (Below w.heap.size w w'))
    case atStart=>exact ⟨((wrap64 ((l0.length:Int) - 1))),T11_,H',⟨Nat.le_refl _⟩,⟨T2_⟩⟩
    case round =>
     clear H'
     repeat (first | clear c2 | clear p2 | clear c4 | clear c4b0 | clear c4b1 | clear c6 | clear p6)
     obtain ⟨x5_2,rfl,HA,HK2,HB⟩:=hrel
     cases gk with
     | zero=>exact absurd HA.out (by simp [spec_ValueInDiagram.l0])
     | succ k2 =>
      have H:=HA.out;clear HA;simp only [spec_ValueInDiagram.l0] at H
      by_cases c7:x5_2 ≥ 0
      ·rw [if_pos c7] at H
       have c7b0:decide (0 ≤ x5_2) = true:=decide_eq_true c7;clear c7
       by_cases c8:0 ≤ x5_2
       ·rw [if_pos c8] at H
        have c8b0:decide (0 ≤ x5_2) = true:=decide_eq_true c8;clear c8
        by_cases c9:x5_2 < (l0.length:Int)
        ·rw [if_pos c9] at H
         have c9b0:decide (x5_2 < (l0.length:Int)) = true:=decide_eq_true c9;clear c9;replace H:=Option.bind_eq_some_iff.mp H;obtain ⟨t104,A100,H⟩:=H;replace H:(if t104 = true then (if 0 ≤ ((rd_T56 l0 x5_2).f0) then (if (Go.bits .and .i64 (shr .i64 a1 ((rd_T56 l0 x5_2).f0)) 1) = 1 then (spec_ValueInDiagram.j2 k2 l0 a1 x5_2 ((rd_T56 l0 x5_2).f2)) else (spec_ValueInDiagram.j2 k2 l0 a1 x5_2 ((rd_T56 l0 x5_2).f1))) else (none)) else (some (-1))) = some r:=H;have A10:=aZ_ A100;clear A100
         by_cases c11:t104 = true
         ·subst c11
          have H1:(if 0 ≤ ((rd_T56 l0 x5_2).f0) then (if (Go.bits .and .i64 (shr .i64 a1 ((rd_T56 l0 x5_2).f0)) 1) = 1 then (spec_ValueInDiagram.j2 k2 l0 a1 x5_2 ((rd_T56 l0 x5_2).f2)) else (spec_ValueInDiagram.j2 k2 l0 a1 x5_2 ((rd_T56 l0 x5_2).f1))) else (none)) = some r:=by rw [if_pos rfl] at H;exact H
          clear H;have H:=H1;clear H1
          by_cases c12:0 ≤ ((rd_T56 l0 x5_2).f0)
          ·rw [if_pos c12] at H
           have c12b0:=eq_true c12;have c12b1:decide (0 ≤ ((rd_T56 l0 x5_2).f0)) = true:=decide_eq_true c12;clear c12;obtain ⟨ji13,hji13⟩:∃ j_:Int,(shr .i64 a1 ((rd_T56 l0 x5_2).f0)) = j_:=⟨_,rfl⟩;replace H:(if (Go.bits .and .i64 (ji13) 1) = 1 then (spec_ValueInDiagram.j2 k2 l0 a1 x5_2 ((rd_T56 l0 x5_2).f2)) else (spec_ValueInDiagram.j2 k2 l0 a1 x5_2 ((rd_T56 l0 x5_2).f1))) = some r:=by first | (rw [hji13] at H;exact H) | (simp only [hji13] at H ⊢;exact H)
           (try rw [hji13] at A10)
           have hji13_:(a1 / 2 ^ min ((rd_T56 l0 x5_2).f0).toNat 64) = ji13:=hji13;have hji13z:((rd_T56 l0 x5_2).f0) ≤ 64 → (a1 / 2 ^ ((rd_T56 l0 x5_2).f0).toNat) = ji13:=shr_small hji13;have HC14:=aZ_ H;clear H;have p102:0 ≤ (x5_2:Int):=of_decide_eq_true T14_;have q102:x5_2 < (l0.length:Int):=of_decide_eq_true T14_;obtain ⟨ad102,e102,hx102_0,hx102_1,hx102_2⟩:=at_T56 HR0.out x5_2 p102 q102
           cases e102
           replace hx102_0:=(HB.out.cell (World.block_lt_of_cell? w _ hx102_0)).trans hx102_0;replace hx102_1:=(HB.out.cell (World.block_lt_of_cell? w _ hx102_1)).trans hx102_1;replace hx102_2:=(HB.out.cell (World.block_lt_of_cell? w _ hx102_2)).trans hx102_2;replace p102:=eq_true p102;replace q102:=eq_true q102
           go_upto_if 36 with (first | ((with_reducible refine gate_dst (N:=6) rfl ?_);refine box_event ?hg (N:=6) ?hd (cs:=#[.int .i64 0,.int .i64 0,.int .i64 0]) (t:=56) ?hr ?_;(case hd=>rfl);(case hg=>rfl);(case hr=>exact T19_);intro gb103 hg w15 hbox hb;have BK103:=aZ_ (hbox);have GW103:=aZ_ ((T3_:w.heap.size ≤ gb103));have GE103:=aZ_ ((T3_:w.heap.size ≤ gb103));replace HB:=aZ_ (below_step T2_ hb);clear hb hbox hg;obtain ⟨⟨hcz16_0,hcz16_1,hcz16_2⟩,hfz16_0,hfz16_1,hfz16_2⟩:=bc3_ BK103.out) | ((with_reducible refine gate_callee (f:=54) rfl ?_);refine goesL_ (some 27) rfl rfl Tryz.func54 T22_ rfl #[.int .i64 ((rd_T56 l0 x5_2).f0),.int .i64 0,.int .i64 4] rfl T4_ ?_;(with_reducible refine (spec_l1In.calls ((rd_T56 l0 x5_2).f0) 0 4 true _ A10.out).mono ?_);rintro e w' ⟨rfl,⟨nd,rfl⟩⟩;refine ⟨_,rfl,?_⟩))
           (try simp only [Act.put,List.setIfInBounds_toArray,List.set_cons_zero,List.set_cons_succ])
           go_cut [7] (fun v7 wc=>∃ (kq:Nat) (x7_13:Int),v7 = .int .i64 x7_13 ∧ Aside0 (spec_ValueInDiagram.j2 kq l0 a1 x5_2 x7_13 = some r) ∧ Aside0 (kq ≤ k2) ∧ Aside0 (wc.heap[gb103]? = some (.cells #[.int .i64 ((rd_T56 l0 x5_2).f0),.int .i64 ((rd_T56 l0 x5_2).f1),.int .i64 ((rd_T56 l0 x5_2).f2)] 56 (0,0))) ∧ Aside0 (Below w.heap.size w wc))
           case first =>
            have H:=HC14.out;clear HC14
            by_cases c17:(Go.bits .and .i64 (ji13) 1) = 1
            ·rw [if_pos c17] at H
             have c17b0:((Go.bits .and .i64 (ji13) 1) == 1) = true:=beq_iff_eq.mpr c17;have c17b1:((Go.bits .and .i64 (ji13) 1) != 1) = false:=bne_eq_false_iff_eq.mpr c17;clear c17
             (first | rw [c17b0] | (simp only [i64_w,i32_w];rw [c17b0]) | skip)
             have H':=aZ_ H;clear H;obtain ⟨⟨hcz18_0,hcz18_1,hcz18_2⟩,hfz18_0,hfz18_1,hfz18_2⟩:=bc3_ BK103.out;go_wp2;go_meet
             case rel=>exact ⟨_,((rd_T56 l0 x5_2).f2),T11_,H',⟨T84_⟩,⟨by (with_reducible repeat (first | refine blk_drewN ?_ _ | refine blk_drew ?_ | refine blk_alloc ?_ _));refine blk_put (cs:=#[.int .i64 ((rd_T56 l0 x5_2).f0),.int .i64 ((rd_T56 l0 x5_2).f1),.int .i64 0]) ?_ 2 _ rfl;(with_reducible repeat (first | refine blk_drewN ?_ _ | refine blk_drew ?_ | refine blk_alloc ?_ _));refine blk_put (cs:=#[.int .i64 ((rd_T56 l0 x5_2).f0),.int .i64 0,.int .i64 0]) ?_ 1 _ rfl;(with_reducible repeat (first | refine blk_drewN ?_ _ | refine blk_drew ?_ | refine blk_alloc ?_ _));refine blk_put (cs:=#[.int .i64 0,.int .i64 0,.int .i64 0]) ?_ 0 _ rfl;(with_reducible repeat (first | refine blk_drewN ?_ _ | refine blk_drew ?_ | refine blk_alloc ?_ _));exact BK103.out⟩,⟨T31_⟩⟩
            ·rw [if_neg c17] at H
             have c17b0:((Go.bits .and .i64 (ji13) 1) == 1) = false:=beq_eq_false_iff_ne.mpr c17;have c17b1:((Go.bits .and .i64 (ji13) 1) != 1) = true:=bne_iff_ne.mpr c17
             (first | rw [c17b0] | (simp only [i64_w,i32_w];rw [c17b0]) | skip)
             have H':=aZ_ H;clear H;go_wp2;go_meet
             case rel=>exact ⟨_,((rd_T56 l0 x5_2).f1),T11_,H',⟨T84_⟩,⟨by (with_reducible repeat (first | refine blk_drewN ?_ _ | refine blk_drew ?_ | refine blk_alloc ?_ _));refine blk_put (cs:=#[.int .i64 ((rd_T56 l0 x5_2).f0),.int .i64 ((rd_T56 l0 x5_2).f1),.int .i64 0]) ?_ 2 _ rfl;(with_reducible repeat (first | refine blk_drewN ?_ _ | refine blk_drew ?_ | refine blk_alloc ?_ _));refine blk_put (cs:=#[.int .i64 ((rd_T56 l0 x5_2).f0),.int .i64 0,.int .i64 0]) ?_ 1 _ rfl;(with_reducible repeat (first | refine blk_drewN ?_ _ | refine blk_drew ?_ | refine blk_alloc ?_ _));refine blk_put (cs:=#[.int .i64 0,.int .i64 0,.int .i64 0]) ?_ 0 _ rfl;(with_reducible repeat (first | refine blk_drewN ?_ _ | refine blk_drew ?_ | refine blk_alloc ?_ _));exact BK103.out⟩,⟨T31_⟩⟩
           case rest =>
            clear HC14
            repeat (first | clear c1 | clear p1 | clear q1 | clear hx1 | clear c2 | clear p2 | clear c4 | clear c4b0 | clear c4b1 | clear c5 | clear c6 | clear p6 | clear c7 | clear c7b0 | clear c8 | clear c8b0 | clear c9 | clear c9b0 | clear p10 | clear q10 | clear hx10 | clear c11 | clear c12 | clear c12b0 | clear c12b1 | clear c17 | clear c17b0 | clear c17b1 | clear hcz16_0 | clear hcz16_1 | clear hcz16_2 | clear hcz18_0 | clear hcz18_1 | clear hcz18_2 | clear hfz16_0 | clear hfz16_1 | clear hfz16_2 | clear hfz18_0 | clear hfz18_1 | clear hfz18_2 | clear hx102_0 | clear hx102_1 | clear hx102_2 | clear p102 | clear q102)
            obtain ⟨kq,x7_13,rfl,HA,HJ13,BK103,HB⟩:=hcut
            cases kq with
            | zero=>exact absurd HA.out (by simp [spec_ValueInDiagram.j2])
            | succ kj13 =>
             have H:=HA.out;clear HA;simp only [spec_ValueInDiagram.j2] at H;replace H:=Option.bind_eq_some_iff.mp H;obtain ⟨t105,A190,H⟩:=H;replace H:(if t105 = true then (some (wrap64 (x7_13 + 2))) else ((spec_l1In.f x7_13 0 (wrap64 (x5_2 - 1))).bind fun t106=>(if t106 = true then (spec_ValueInDiagram.l0 kj13 l0 a1 x7_13) else (some (-1))))) = some r:=H;have A19:=aZ_ A190;clear A190
             by_cases c20:t105 = true
             ·subst c20
              have H1:(some (wrap64 (x7_13 + 2))) = some r:=by rw [if_pos rfl] at H;exact H
              clear H;have H:=H1;clear H1;obtain rfl:=Option.some.inj H
              go_wp2_with (first | ((with_reducible refine gate_callee (f:=54) rfl ?_);refine goesL_ (some 40) rfl rfl Tryz.func54 T22_ rfl #[.int .i64 x7_13,.int .i64 (-2),.int .i64 (-1)] rfl T4_ ?_;(with_reducible refine (spec_l1In.calls x7_13 (-2) (-1) true _ A19.out).mono ?_);rintro e w' ⟨rfl,⟨nd,rfl⟩⟩;refine ⟨_,rfl,?_⟩))
              go_ret;exact ⟨T103_,T31_⟩
             ·replace c20:=Bool.eq_false_iff.mpr c20
              subst c20;have H1:((spec_l1In.f x7_13 0 (wrap64 (x5_2 - 1))).bind fun t106=>(if t106 = true then (spec_ValueInDiagram.l0 kj13 l0 a1 x7_13) else (some (-1)))) = some r:=by rw [if_neg (show ¬ (false = true) by decide)] at H;exact H
              clear H;have H:=H1;clear H1;replace H:=Option.bind_eq_some_iff.mp H;obtain ⟨t106,A210,H⟩:=H;replace H:(if t106 = true then (spec_ValueInDiagram.l0 kj13 l0 a1 x7_13) else (some (-1))) = some r:=H;have A21:=aZ_ A210;clear A210
              by_cases c22:t106 = true
              ·subst c22
               have H1:(spec_ValueInDiagram.l0 kj13 l0 a1 x7_13) = some r:=by rw [if_pos rfl] at H;exact H
               clear H;have H:=H1;clear H1;have H':=aZ_ H;clear H
               go_wp2_with (first | ((with_reducible refine gate_callee (f:=54) rfl ?_);refine goesL_ (some 40) rfl rfl Tryz.func54 T22_ rfl #[.int .i64 x7_13,.int .i64 (-2),.int .i64 (-1)] rfl T4_ ?_;(with_reducible refine (spec_l1In.calls x7_13 (-2) (-1) false _ A19.out).mono ?_);rintro e w' ⟨rfl,⟨nd,rfl⟩⟩;refine ⟨_,rfl,?_⟩) | ((with_reducible refine gate_callee (f:=54) rfl ?_);refine goesL_ (some 46) rfl rfl Tryz.func54 T22_ rfl #[.int .i64 x7_13,.int .i64 0,.int .i64 (wrap64 (x5_2 - 1))] rfl T4_ ?_;(with_reducible refine (spec_l1In.calls x7_13 0 (wrap64 (x5_2 - 1)) true _ A21.out).mono ?_);rintro e w' ⟨rfl,⟨nd,rfl⟩⟩;refine ⟨_,rfl,?_⟩))
               go_roundg kj13
               case measure=>have:=HJ2.out;have:=HK2.out;have:=HJ13.out;omega
               case rel=>exact ⟨(x7_13),T11_,H',⟨(by have:=HJ2.out;have:=HK2.out;have:=HJ13.out;omega)⟩,⟨T31_⟩⟩
              ·replace c22:=Bool.eq_false_iff.mpr c22
               subst c22;have H1:(some (-1)) = some r:=by rw [if_neg (show ¬ (false = true) by decide)] at H;exact H
               clear H;have H:=H1;clear H1;obtain rfl:=Option.some.inj H
               go_wp2_with (first | ((with_reducible refine gate_callee (f:=54) rfl ?_);refine goesL_ (some 40) rfl rfl Tryz.func54 T22_ rfl #[.int .i64 x7_13,.int .i64 (-2),.int .i64 (-1)] rfl T4_ ?_;(with_reducible refine (spec_l1In.calls x7_13 (-2) (-1) false _ A19.out).mono ?_);rintro e w' ⟨rfl,⟨nd,rfl⟩⟩;refine ⟨_,rfl,?_⟩) | ((with_reducible refine gate_callee (f:=54) rfl ?_);refine goesL_ (some 46) rfl rfl Tryz.func54 T22_ rfl #[.int .i64 x7_13,.int .i64 0,.int .i64 (wrap64 (x5_2 - 1))] rfl T4_ ?_;(with_reducible refine (spec_l1In.calls x7_13 0 (wrap64 (x5_2 - 1)) false _ A21.out).mono ?_);rintro e w' ⟨rfl,⟨nd,rfl⟩⟩;refine ⟨_,rfl,?_⟩))
               go_ret;exact ⟨T103_,T31_⟩
          ·rw [if_neg c12] at H
           exact absurd H T64_
         ·replace c11:=Bool.eq_false_iff.mpr c11
          subst c11;have H1:(some (-1)) = some r:=by rw [if_neg (show ¬ (false = true) by decide)] at H;exact H
          clear H;have H:=H1;clear H1;obtain rfl:=Option.some.inj H;have p102:0 ≤ (x5_2:Int):=of_decide_eq_true T14_;have q102:x5_2 < (l0.length:Int):=of_decide_eq_true T14_;obtain ⟨ad102,e102,hx102_0,hx102_1,hx102_2⟩:=at_T56 HR0.out x5_2 p102 q102
          cases e102
          replace hx102_0:=(HB.out.cell (World.block_lt_of_cell? w _ hx102_0)).trans hx102_0;replace hx102_1:=(HB.out.cell (World.block_lt_of_cell? w _ hx102_1)).trans hx102_1;replace hx102_2:=(HB.out.cell (World.block_lt_of_cell? w _ hx102_2)).trans hx102_2;replace p102:=eq_true p102;replace q102:=eq_true q102
          go_wp2_with (first | ((with_reducible refine gate_dst (N:=6) rfl ?_);refine box_event ?hg (N:=6) ?hd (cs:=#[.int .i64 0,.int .i64 0,.int .i64 0]) (t:=56) ?hr ?_;(case hd=>rfl);(case hg=>rfl);(case hr=>exact T19_);intro gb103 hg w23 hbox hb;have BK103:=aZ_ (hbox);have GW103:=aZ_ ((T3_:w.heap.size ≤ gb103));have GE103:=aZ_ ((T3_:w.heap.size ≤ gb103));replace HB:=aZ_ (below_step T2_ hb);clear hb hbox hg;obtain ⟨⟨hcz24_0,hcz24_1,hcz24_2⟩,hfz24_0,hfz24_1,hfz24_2⟩:=bc3_ BK103.out) | ((with_reducible refine gate_callee (f:=54) rfl ?_);refine goesL_ (some 27) rfl rfl Tryz.func54 T22_ rfl #[.int .i64 ((rd_T56 l0 x5_2).f0),.int .i64 0,.int .i64 4] rfl T4_ ?_;(with_reducible refine (spec_l1In.calls ((rd_T56 l0 x5_2).f0) 0 4 false _ A10.out).mono ?_);rintro e w' ⟨rfl,⟨nd,rfl⟩⟩;refine ⟨_,rfl,?_⟩))
          go_ret;exact ⟨T13_,T31_⟩
        ·rw [if_neg c9] at H
         exact absurd H T64_
       ·rw [if_neg c8] at H
        exact absurd H T64_
      ·rw [if_neg c7] at H
       have c7b0:decide (0 ≤ x5_2) = false:=decide_eq_false c7;clear c7;obtain rfl:=Option.some.inj H;go_wp2;go_ret;exact ⟨T13_,T2_⟩
mutual
def spec_CountInDiagram.l0:Nat → List (S56) → List Int → List Int → Int → Option (Int)
 | 0,_,_,_,_=>none
 | k + 1,x0,x1,x5,x6=>if x6 < (x0.length:Int) then (if 0 ≤ x6 then ((spec_l19Level.f k x1 ((rd_T56 x0 x6).f0)).bind fun t109=>(spec_CountInDiagram.l1 k x0 x1 x5 x6 t109 0 (([(rd_T56 x0 x6).f1,(rd_T56 x0 x6).f2]:List Int)) 0)) else (none)) else (if 0 ≤ (wrap64 ((x0.length:Int) - 1)) then (if (wrap64 ((x0.length:Int) - 1)) < (x5.length:Int) then (if (wrap64 ((x0.length:Int) - 1)) < (x0.length:Int) then ((spec_l19Level.f k x1 ((rd_T56 x0 (wrap64 ((x0.length:Int) - 1))).f0)).bind fun t107=>(if 0 ≤ t107 then (some (shl .i64 (rd x5 (wrap64 ((x0.length:Int) - 1))) t107)) else (none))) else (none)) else (none)) else (none))
def spec_CountInDiagram.l1:Nat → List (S56) → List Int → List Int → Int → Int → Int → List Int → Int → Option (Int)
 | 0,_,_,_,_,_,_,_,_=>none
 | k + 1,x0,x1,x5,x6,x7,x8,x9,x10=>if x10 < 2 then (if 0 ≤ x10 then (if x10 < (x9.length:Int) then (if (rd x9 x10) = (-1) then (if 0 ≤ (wrap64 ((wrap64 ((x1.length:Int) - x7)) - 1)) then (spec_CountInDiagram.l1 k x0 x1 x5 x6 x7 (wrap64 (x8 + (shl .i64 1 (wrap64 ((wrap64 ((x1.length:Int) - x7)) - 1))))) x9 (wrap64 (x10 + 1))) else (none)) else (if (rd x9 x10) ≥ 0 then (if 0 ≤ (rd x9 x10) then (if (rd x9 x10) < (x5.length:Int) then (if (rd x9 x10) < (x0.length:Int) then ((spec_l19Level.f k x1 ((rd_T56 x0 (rd x9 x10)).f0)).bind fun t121=>(if 0 ≤ (wrap64 ((wrap64 (t121 - x7)) - 1)) then (spec_CountInDiagram.l1 k x0 x1 x5 x6 x7 (wrap64 (x8 + (shl .i64 (rd x5 (rd x9 x10)) (wrap64 ((wrap64 (t121 - x7)) - 1))))) x9 (wrap64 (x10 + 1))) else (none))) else (none)) else (none)) else (none)) else (spec_CountInDiagram.l1 k x0 x1 x5 x6 x7 x8 x9 (wrap64 (x10 + 1))))) else (none)) else (none)) else (if x5.length < 17592186044416 then (spec_CountInDiagram.l0 k x0 x1 (x5 ++ [x8]) (wrap64 (x6 + 1))) else (none))
end
def spec_CountInDiagram.f (k:Nat) (l0:List (S56)) (l1:List Int):Option (Int):=(spec_IsDiagram.f k l0 l1).bind fun t101=>(if t101 = true then (spec_CountInDiagram.l0 k l0 l1 (([]:List Int)) 0) else (some (-1)))
def spec_CountInDiagram.T9:Bool × List (List Nat × List Nat):=(true,[([],[]),([],[]),([0,1],[0,1]),([2],[2]),([3],[3]),([],[]),([],[]),([5,6],[5,6]),([7],[7]),([8],[8]),([4,9],[4,9]),([10,0,1,2,3,4,5,6,7,8,9,10],[10])])
def spec_CountInDiagram.B9:List Nat:=[0,0,3,7,15,0,0,96,224,480,1023,2047]
theorem spec_CountInDiagram.tab9:rtab .any (opsOf Tryz.f28 9) = spec_CountInDiagram.T9:=by kernel_rfl
theorem spec_CountInDiagram.bits9:waitsOk spec_CountInDiagram.T9.2 spec_CountInDiagram.B9 = true:=by kernel_rfl
def spec_CountInDiagram.T17:Bool × List (List Nat × List Nat):=(true,[([],[]),([],[]),([],[]),([1,2],[1,2]),([3],[3]),([],[]),([],[]),([],[]),([6,7],[6,7]),([8],[8]),([9],[9]),([5,10],[5,10]),([],[]),([11,12],[11,12]),([13],[13]),([4,14],[4,14]),([0,15],[0,15]),([16,11,0,1,2,3,4,5,6,7,8,9,10,11,12,13,14,15,16],[0,16])])
def spec_CountInDiagram.B17:List Nat:=[0,0,0,6,14,0,0,0,192,448,960,2016,0,8160,16352,32766,65535,131071]
theorem spec_CountInDiagram.tab17:rtab .any (opsOf Tryz.f28 17) = spec_CountInDiagram.T17:=by kernel_rfl
theorem spec_CountInDiagram.bits17:waitsOk spec_CountInDiagram.T17.2 spec_CountInDiagram.B17 = true:=by kernel_rfl
def spec_CountInDiagram.T20:Bool × List (List Nat × List Nat):=(true,[([],[]),([],[]),([0,1],[0,1]),([2],[2]),([],[]),([],[]),([],[]),([5,6],[5,6]),([7],[7]),([8],[8]),([4,9],[4,9]),([3,10],[3,10]),([11,10,0,1,2,3,4,5,6,7,8,9,10,11],[11])])
def spec_CountInDiagram.B20:List Nat:=[0,0,3,7,0,0,0,96,224,480,1008,2047,4095]
theorem spec_CountInDiagram.tab20:rtab .any (opsOf Tryz.f28 20) = spec_CountInDiagram.T20:=by kernel_rfl
theorem spec_CountInDiagram.bits20:waitsOk spec_CountInDiagram.T20.2 spec_CountInDiagram.B20 = true:=by kernel_rfl
theorem spec_CountInDiagram.calls (k:Nat) (A0:Option Addr) (c0:Nat) (l0:List (S56)) (A1:Option Addr) (c1:Nat) (l1:List Int) (r:Int) (w:World) (hr0:Kd.C k56 w A0 l0.length l0) (hc0:l0.length ≤ c0) (hr1:Kd.C (Kd.int .i64) w A1 l1.length l1) (hc1:l1.length ≤ c1) (h:spec_CountInDiagram.f k l0 l1 = some r) :
  Calls Tryz.prog 28 #[.slice A0 l0.length c0,.slice A1 l1.length c1] w fun e w'=>e = .returned (.int .i64 r) ∧ Below w.heap.size w w':=by
 have HR0:=aZ_ hr0;have HC0:=aZ_ hc0;clear hr0 hc0;have HR1:=aZ_ hr1;have HC1:=aZ_ hc1;clear hr1 hc1;have HB:=aZ_ (Below.refl w.heap.size w);have H:((spec_IsDiagram.f k l0 l1).bind fun t101=>(if t101 = true then (spec_CountInDiagram.l0 k l0 l1 (([]:List Int)) 0) else (some (-1)))) = some r:=h;clear h;replace H:=Option.bind_eq_some_iff.mp H;obtain ⟨t101,A30,H⟩:=H;replace H:(if t101 = true then (spec_CountInDiagram.l0 k l0 l1 (([]:List Int)) 0) else (some (-1))) = some r:=H;have A3:=aZ_ A30;clear A30
 by_cases c4:t101 = true
 ·subst c4
  have H1:(spec_CountInDiagram.l0 k l0 l1 (([]:List Int)) 0) = some r:=by rw [if_pos rfl] at H;exact H
  clear H;have H:=H1;clear H1;obtain ⟨y102,hy102⟩:∃ y_:List Int,y_ = (([]:List Int)):=⟨_,rfl⟩;replace H:(spec_CountInDiagram.l0 k l0 l1 y102 0) = some r:=by first | (rw [hy102];with_reducible exact H) | (have H2_:=(Option.bind_some _ _).symm.trans H;rw [hy102];with_reducible exact H2_) | (have H2_:=(Option.bind_some _ _).symm.trans H;with_reducible exact H2_) | with_reducible exact H | (rw [hy102];exact H) | exact H
  have Ny102:=aZ_ hy102;clear hy102;have H':=aZ_ H;clear H;go_enter Tryz.func28,Tryz.ntmps28
  go_wp2_with (first | ((with_reducible refine gate_callee (f:=26) rfl ?_);refine goesL_ (some 15) rfl rfl Tryz.func26 T22_ rfl #[.slice A0 l0.length c0,.slice A1 l1.length c1] rfl T4_ ?_;(with_reducible refine (spec_IsDiagram.calls k _ _ l0 _ _ l1 true _ ?side1 ?side2 ?side3 ?side4 A3.out).mono ?_);(case side1=>exact T42_);(case side2=>exact HC0.out);(case side3=>exact T80_);(case side4=>exact HC1.out);rintro e w5 ⟨rfl,hb⟩;refine ⟨_,rfl,?_⟩;replace HB:=aZ_ (below_step T2_ hb);(try clear hb)) | ((with_reducible refine gate_dst (N:=17) rfl ?_);refine Kd.R_lit (Kd.int .i64) _ 3 ?hg (N:=17) ?hd (xs:=([]:List Int)) (inner:=[]) (ok:=fun _=>True) (okp:=fun _=>True) ?hr ?hp (fun _ hk=>hk) trivial (Below.refl _ _) (Nat.le_refl _) T64_ ?_;(case hd=>rfl);(case hg=>rfl);(case hr=>exact T19_);(case hp=>exact (Reps.none _ _));intro v103 w6 ho7 hb hg_ hnew_;clear hg_ hnew_;(first | rw [← Ny102.out] at ho7 | (simp only [Int.reduceToNat] at ho7;rw [← Ny102.out] at ho7));have HO104:=aZ_ (Kd.R_lower ho7 (below_size T2_));replace HB:=aZ_ (below_step T2_ hb);clear hb ho7))
  go_loopg [5,6] k (fun kq v5 v6 w'=>∃ (x5_1:List Int) (x6_1:Int),v6 = .int .i64 x6_1 ∧ Aside0 (spec_CountInDiagram.l0 kq l0 l1 x5_1 x6_1 = some r) ∧ Aside0 (kq ≤ k) ∧ Aside0 (Kd.R (Kd.int .i64) 3 w' w.heap.size (fun _=>True) v5 x5_1) ∧ Aside0 (Below w.heap.size w w'))
  case atStart=>exact ⟨(y102),(0),T11_,H',⟨Nat.le_refl _⟩,⟨by (with_reducible repeat (first | apply Kd.R_alloc | apply Kd.R_drewN | apply Kd.R_drew));exact HO104.out⟩,⟨T2_⟩⟩
  case round =>
   clear H'
   repeat (first | clear c1 | clear c2 | clear p2 | clear c4)
   obtain ⟨x5_1,x6_1,rfl,HA,HK1,HO_5,HB⟩:=hrel
   cases gk with
   | zero=>exact absurd HA.out (by simp [spec_CountInDiagram.l0])
   | succ k1 =>
    have H:=HA.out;clear HA;simp only [spec_CountInDiagram.l0] at H
    by_cases c8:x6_1 < (l0.length:Int)
    ·rw [if_pos c8] at H
     have c8b0:decide (x6_1 < (l0.length:Int)) = true:=decide_eq_true c8;clear c8
     by_cases c9:0 ≤ x6_1
     ·rw [if_pos c9] at H
      have c9b0:decide (0 ≤ x6_1) = true:=decide_eq_true c9;clear c9;replace H:=Option.bind_eq_some_iff.mp H;obtain ⟨t109,A100,H⟩:=H;replace H:(spec_CountInDiagram.l1 k1 l0 l1 x5_1 x6_1 t109 0 (([(rd_T56 l0 x6_1).f1,(rd_T56 l0 x6_1).f2]:List Int)) 0) = some r:=H;have A10:=aZ_ A100;clear A100;obtain ⟨y112,hy112⟩:∃ y_:List Int,y_ = (([(rd_T56 l0 x6_1).f1,(rd_T56 l0 x6_1).f2]:List Int)):=⟨_,rfl⟩;replace H:(spec_CountInDiagram.l1 k1 l0 l1 x5_1 x6_1 t109 0 y112 0) = some r:=by first | (rw [hy112];with_reducible exact H) | (have H2_:=(Option.bind_some _ _).symm.trans H;rw [hy112];with_reducible exact H2_) | (have H2_:=(Option.bind_some _ _).symm.trans H;with_reducible exact H2_) | with_reducible exact H | (rw [hy112];exact H) | exact H
      have Ny112:=aZ_ hy112;clear hy112;have H':=aZ_ H;clear H;have p108:0 ≤ (x6_1:Int):=of_decide_eq_true T14_;have q108:x6_1 < (l0.length:Int):=of_decide_eq_true T14_;obtain ⟨ad108,e108,hx108_0,hx108_1,hx108_2⟩:=at_T56 HR0.out x6_1 p108 q108
      cases e108
      replace hx108_0:=(HB.out.cell (World.block_lt_of_cell? w _ hx108_0)).trans hx108_0;replace hx108_1:=(HB.out.cell (World.block_lt_of_cell? w _ hx108_1)).trans hx108_1;replace hx108_2:=(HB.out.cell (World.block_lt_of_cell? w _ hx108_2)).trans hx108_2;replace p108:=eq_true p108;replace q108:=eq_true q108
      try go_wp2_with (first | ((with_reducible refine gate_callee (f:=55) rfl ?_);refine goesL_ (some 30) rfl rfl Tryz.func55 T22_ rfl #[.slice A1 l1.length c1,.int .i64 ((rd_T56 l0 x6_1).f0)] rfl T4_ ?_;(with_reducible refine (spec_l19Level.calls k1 _ _ l1 ((rd_T56 l0 x6_1).f0) t109 _ ?side1 ?side2 A10.out).mono ?_);(case side1=>exact T15_);(case side2=>exact HC1.out);rintro e w' ⟨rfl,⟨nd,rfl⟩⟩;refine ⟨_,rfl,?_⟩))
      (try (rw [drewN_self wr];generalize hq_:World.drewN wr _ = wr;replace HO_5:Aside0 (Kd.R (Kd.int .i64) 3 wr w.heap.size (fun _=>True) u5 x5_1):=⟨(by rw [← hq_];exact T37_)⟩;replace HB:Aside0 (Below w.heap.size w wr):=⟨(by rw [← hq_];exact T2_)⟩;clear hq_))
      replace HO_5:=aZ_ (Kd.R_drew HO_5.out);replace HB:=aZ_ (below_drew1 HB.out);have p110:0 ≤ (x6_1:Int):=of_decide_eq_true T14_;have q110:x6_1 < (l0.length:Int):=of_decide_eq_true T14_;obtain ⟨ad110,e110,hx110_0,hx110_1,hx110_2⟩:=at_T56 HR0.out x6_1 p110 q110;have hw110_2:=hx110_2;have hw110_1:=hx110_1;have hw110_0:=hx110_0;obtain rfl:ad108 = ad110:=(by injection e110);replace hx110_0:=(HB.out.cell (World.block_lt_of_cell? w _ hx110_0)).trans hx110_0;replace hx110_1:=(HB.out.cell (World.block_lt_of_cell? w _ hx110_1)).trans hx110_1;replace hx110_2:=(HB.out.cell (World.block_lt_of_cell? w _ hx110_2)).trans hx110_2;replace p110:=eq_true p110;replace q110:=eq_true q110;have p111:0 ≤ (x6_1:Int):=of_decide_eq_true T14_;have q111:x6_1 < (l0.length:Int):=of_decide_eq_true T14_;obtain ⟨ad111,e111,hx111_0,hx111_1,hx111_2⟩:=at_T56 HR0.out x6_1 p111 q111;have hw111_2:=hx111_2;have hw111_1:=hx111_1;have hw111_0:=hx111_0;obtain rfl:ad108 = ad111:=(by injection e111);replace hx111_0:=(HB.out.cell (World.block_lt_of_cell? w _ hx111_0)).trans hx111_0;replace hx111_1:=(HB.out.cell (World.block_lt_of_cell? w _ hx111_1)).trans hx111_1;replace hx111_2:=(HB.out.cell (World.block_lt_of_cell? w _ hx111_2)).trans hx111_2;replace p111:=eq_true p111;replace q111:=eq_true q111;refine start_ (n:=12) (S:=fun w'=>w'.cell? (ad108.add ((x6_1).toNat * 3)) = some (.int .i64 ((rd_T56 l0 x6_1).f0)) ∧ w'.cell? ⟨(ad108.add ((x6_1).toNat * 3)).block,(ad108.add ((x6_1).toNat * 3)).off + 1,none⟩ = some (.int .i64 ((rd_T56 l0 x6_1).f1)) ∧ w'.cell? ⟨(ad108.add ((x6_1).toNat * 3)).block,(ad108.add ((x6_1).toNat * 3)).off + 2,none⟩ = some (.int .i64 ((rd_T56 l0 x6_1).f2)) ∧ w'.cell? (ad108.add ((x6_1).toNat * 3)) = some (.int .i64 ((rd_T56 l0 x6_1).f0)) ∧ w'.cell? ⟨(ad108.add ((x6_1).toNat * 3)).block,(ad108.add ((x6_1).toNat * 3)).off + 1,none⟩ = some (.int .i64 ((rd_T56 l0 x6_1).f1)) ∧ w'.cell? ⟨(ad108.add ((x6_1).toNat * 3)).block,(ad108.add ((x6_1).toNat * 3)).off + 2,none⟩ = some (.int .i64 ((rd_T56 l0 x6_1).f2))) (ds:=[]) (bA 12 0) T22_ rfl rfl ⟨((HB.out.cell (World.block_lt_of_cell? w _ hw110_0)).trans hw110_0),((HB.out.cell (World.block_lt_of_cell? w _ hw110_1)).trans hw110_1),((HB.out.cell (World.block_lt_of_cell? w _ hw110_2)).trans hw110_2),((HB.out.cell (World.block_lt_of_cell? w _ hw111_0)).trans hw111_0),((HB.out.cell (World.block_lt_of_cell? w _ hw111_1)).trans hw111_1),((HB.out.cell (World.block_lt_of_cell? w _ hw111_2)).trans hw111_2)⟩ (fun hHeld=>?_);refine with_tabW spec_CountInDiagram.tab9 spec_CountInDiagram.bits9 (fun HT_ HW_=>?_);generalize wr.drew = w11 at HO_5 HB hx110_0 hx110_1 hx110_2 hx111_0 hx111_1 hx111_2 hHeld ⊢;refine pZ_ 0 (some 31) (bA 12 1) ?_;refine pZ_ 1 (some 32) (bA 12 3) ?_;refine pZ_ 2 (some 33) (bA 12 7) ?_;refine pZ_ 3 (some 34) (bA 12 15) ?_;refine pZ_ 5 (some 36) (bA 12 47) ?_;refine pZ_ 6 (some 37) (bA 12 111) ?_;refine pZ_ 7 (some 38) (bA 12 239) ?_;refine pZ_ 8 (some 39) (bA 12 495) ?_
      refine tZ6_ 4 (some 35) (bA 12 511) hHeld ?_;refine tZ6_ 9 (some 40) (bA 12 1023) hHeld ?_;refine one_ (i:=10) (N:=some 41) (bA 12 2047) rfl rfl (one_of HT_.out T22_) T55_ (fun K hK=>?_);refine Kd.R_lit_step (Kd.int .i64) _ 3 ?hg (N:=41) ?hd (xs:=([(rd_T56 l0 x6_1).f1,(rd_T56 l0 x6_1).f2]:List Int)) (inner:=[.int .i64 ((rd_T56 l0 x6_1).f1),.int .i64 ((rd_T56 l0 x6_1).f2)]) (ok:=fun _=>True) (okp:=fun _=>True) ?hr ?hp (fun _ hk=>hk) trivial (Below.refl _ _) (Nat.le_refl _) T64_ ?_;(case hd=>rfl);(case hg=>rfl);(case hr=>exact T19_);(case hp=>exact (Reps.one (show Kd.M (Kd.int .i64) _ _ _ ((rd_T56 l0 x6_1).f1) [.int .i64 ((rd_T56 l0 x6_1).f1)] from rfl) (Reps.one (show Kd.M (Kd.int .i64) _ _ _ ((rd_T56 l0 x6_1).f2) [.int .i64 ((rd_T56 l0 x6_1).f2)] from rfl) (Reps.none _ _))));intro v113 w12 ho13 hb hg_ hnew_;clear hg_ hnew_
      (first | rw [← Ny112.out] at ho13 | (simp only [Int.reduceToNat] at ho13;rw [← Ny112.out] at ho13))
      have HO114:=aZ_ (Kd.R_lower (Kd.R_new' ho13 (Kd.R_lt T37_)) (below_size T2_));replace HO_5:=aZ_ (Kd.R_elder' T37_ (Kd.R_base ho13) hb);replace HB:=aZ_ (below_step T2_ hb);clear hb ho13;refine hK.out _ _ ⟨((HB.out.cell (World.block_lt_of_cell? w _ hw110_0)).trans hw110_0),((HB.out.cell (World.block_lt_of_cell? w _ hw110_1)).trans hw110_1),((HB.out.cell (World.block_lt_of_cell? w _ hw110_2)).trans hw110_2),((HB.out.cell (World.block_lt_of_cell? w _ hw111_0)).trans hw111_0),((HB.out.cell (World.block_lt_of_cell? w _ hw111_1)).trans hw111_1),((HB.out.cell (World.block_lt_of_cell? w _ hw111_2)).trans hw111_2)⟩ (fun hHeld=>?_);clear hK K;refine nZ_ (some 41) ?_;refine pZ_ 11 (some 9) (bA 12 4095) ?_;refine done_ (done_of HT_.out T22_) ?_
      try go_wp2
      go_loopg [8,10] k1 (fun kq v8 v10 w'=>∃ (x8_2:Int) (x10_2:Int),v8 = .int .i64 x8_2 ∧ v10 = .int .i64 x10_2 ∧ Aside0 (spec_CountInDiagram.l1 kq l0 l1 x5_1 x6_1 t109 x8_2 y112 x10_2 = some r) ∧ Aside0 (kq ≤ k1) ∧ Aside0 (Kd.R (Kd.int .i64) 3 w' w.heap.size (fun k_=>some k_ ≠ (v113:Value).ownBlock) u5 x5_1) ∧ Aside0 (Kd.R (Kd.int .i64) 3 w' w.heap.size (fun k_=>some k_ ≠ (u5:Value).ownBlock) v113 y112) ∧ Aside0 (Below w.heap.size w w'))
      case atStart=>exact ⟨(0),(0),T11_,T11_,H',⟨Nat.le_refl _⟩,⟨by (with_reducible repeat (first | apply Kd.R_alloc | apply Kd.R_drewN | apply Kd.R_drew));exact Kd.R_mono HO_5.out (fun _ hk=>hk.2)⟩,⟨by (with_reducible repeat (first | apply Kd.R_alloc | apply Kd.R_drewN | apply Kd.R_drew));exact Kd.R_mono HO114.out (fun _ hk=>hk.2)⟩,⟨T2_⟩⟩
      case round =>
       clear H'
       repeat (first | clear c1 | clear p1 | clear q1 | clear hx1 | clear c2 | clear p2 | clear c4 | clear c5 | clear c8 | clear c8b0 | clear c9 | clear c9b0 | clear p10 | clear q10 | clear hx10 | clear p11 | clear q11 | clear hx11 | clear hx108_0 | clear hx108_1 | clear hx108_2 | clear hx110_0 | clear hx110_1 | clear hx110_2 | clear hx111_0 | clear hx111_1 | clear hx111_2 | clear p108 | clear p110 | clear p111 | clear q108 | clear q110 | clear q111)
       obtain ⟨x8_2,x10_2,rfl,rfl,HA,HK2,HO_5,HO_9,HB⟩:=hrel
       cases gk with
       | zero=>exact absurd HA.out (by simp [spec_CountInDiagram.l1])
       | succ k2 =>
        have H:=HA.out;clear HA;simp only [spec_CountInDiagram.l1] at H
        by_cases c14:x10_2 < 2
        ·rw [if_pos c14] at H
         have c14b0:decide (x10_2 < 2) = true:=decide_eq_true c14;clear c14
         by_cases c15:0 ≤ x10_2
         ·rw [if_pos c15] at H
          have c15b0:decide (0 ≤ x10_2) = true:=decide_eq_true c15;clear c15
          by_cases c16:x10_2 < (y112.length:Int)
          ·rw [if_pos c16] at H
           have c16b0:decide (x10_2 < (y112.length:Int)) = true:=decide_eq_true c16;clear c16
           by_cases c17:(rd y112 x10_2) = (-1)
           ·rw [if_pos c17] at H
            have c17b0:((rd y112 x10_2) == (-1)) = true:=beq_iff_eq.mpr c17;have c17b1:((rd y112 x10_2) != (-1)) = false:=bne_eq_false_iff_eq.mpr c17;clear c17;obtain ⟨ji18,hji18⟩:∃ j_:Int,(wrap64 ((wrap64 ((l1.length:Int) - t109)) - 1)) = j_:=⟨_,rfl⟩;replace H:(if 0 ≤ (ji18) then (spec_CountInDiagram.l1 k2 l0 l1 x5_1 x6_1 t109 (wrap64 (x8_2 + (shl .i64 1 (ji18)))) y112 (wrap64 (x10_2 + 1))) else (none)) = some r:=by first | (rw [hji18] at H;exact H) | (simp only [hji18] at H ⊢;exact H)
            have hji18w:(IntKind.i64.wrap ((wrap64 ((l1.length:Int) - t109)) - 1)) = ji18:=(i64_w _).trans hji18
            by_cases c19:0 ≤ (ji18)
            ·rw [if_pos c19] at H
             have c19b0:=eq_true c19;have c19b1:decide (0 ≤ (ji18)) = true:=decide_eq_true c19;clear c19;obtain ⟨ji20,hji20⟩:∃ j_:Int,(shl .i64 1 (ji18)) = j_:=⟨_,rfl⟩;replace H:(spec_CountInDiagram.l1 k2 l0 l1 x5_1 x6_1 t109 (wrap64 (x8_2 + (ji20))) y112 (wrap64 (x10_2 + 1))) = some r:=by first | (rw [hji20] at H;exact H) | (simp only [hji20] at H ⊢;exact H)
             have hji20_:(IntKind.i64.wrap (1 * 2 ^ min (ji18).toNat 64)) = ji20:=hji20;have hji20z:(ji18) ≤ 64 → (IntKind.i64.wrap (1 * 2 ^ (ji18).toNat)) = ji20:=shl_small hji20;have hji20u:(IntKind.i64.wrap (2 ^ min (ji18).toNat 64)) = ji20:=by have h_:=hji20_;rw [Int.one_mul] at h_;exact h_
             have hji20v:(ji18) ≤ 64 → (IntKind.i64.wrap (2 ^ (ji18).toNat)) = ji20:=fun hle_=>by have h_:=hji20z hle_;rw [Int.one_mul] at h_;exact h_
             have hji20y:(wrap64 (1 * 2 ^ min (ji18).toNat 64)) = ji20:=(i64_w _).symm.trans hji20_;have hji20x:(ji18) ≤ 64 → (wrap64 (1 * 2 ^ (ji18).toNat)) = ji20:=fun h_=>(i64_w _).symm.trans (hji20z h_)
             have H':=aZ_ H;clear H;obtain ⟨Ao21,co21,eo21⟩:=Kd.R_slice HO_9.out;subst eo21;have p118:0 ≤ (x10_2:Int):=of_decide_eq_true T14_;have q118:x10_2 < (y112.length:Int):=of_decide_eq_true T14_;obtain ⟨ad118,e118,hx118_0⟩:=Kd.at_int (Kd.R_reads' HO_9.out).2.2 x10_2 p118 q118
             cases e118
             replace p118:=eq_true p118;replace q118:=eq_true q118;go_wp2
             go_roundg k2
             case measure=>have:=HK1.out;have:=HK2.out;omega
             case rel=>exact ⟨(wrap64 (x8_2 + (ji20))),(wrap64 (x10_2 + 1)),(by first | rfl | (simp;done) | (simp only [← hji20] <;> (first | rfl | simp)) | (simp [*];done)),T11_,H',⟨T92_⟩,⟨by (with_reducible repeat (first | apply Kd.R_alloc | apply Kd.R_drewN | apply Kd.R_drew));exact HO_5.out⟩,⟨by (with_reducible repeat (first | apply Kd.R_alloc | apply Kd.R_drewN | apply Kd.R_drew));exact HO_9.out⟩,⟨T2_⟩⟩
            ·rw [if_neg c19] at H
             exact absurd H T64_
           ·rw [if_neg c17] at H
            have c17b0:((rd y112 x10_2) == (-1)) = false:=beq_eq_false_iff_ne.mpr c17;have c17b1:((rd y112 x10_2) != (-1)) = true:=bne_iff_ne.mpr c17
            by_cases c22:(rd y112 x10_2) ≥ 0
            ·rw [if_pos c22] at H
             have c22b0:decide (0 ≤ (rd y112 x10_2)) = true:=decide_eq_true c22;clear c22
             by_cases c23:0 ≤ (rd y112 x10_2)
             ·rw [if_pos c23] at H
              have c23b0:decide (0 ≤ (rd y112 x10_2)) = true:=decide_eq_true c23;clear c23
              by_cases c24:(rd y112 x10_2) < (x5_1.length:Int)
              ·rw [if_pos c24] at H
               have c24b0:decide ((rd y112 x10_2) < (x5_1.length:Int)) = true:=decide_eq_true c24;clear c24
               by_cases c25:(rd y112 x10_2) < (l0.length:Int)
               ·rw [if_pos c25] at H
                have c25b0:decide ((rd y112 x10_2) < (l0.length:Int)) = true:=decide_eq_true c25;clear c25;replace H:=Option.bind_eq_some_iff.mp H;obtain ⟨t121,A260,H⟩:=H;replace H:(if 0 ≤ (wrap64 ((wrap64 (t121 - t109)) - 1)) then (spec_CountInDiagram.l1 k2 l0 l1 x5_1 x6_1 t109 (wrap64 (x8_2 + (shl .i64 (rd x5_1 (rd y112 x10_2)) (wrap64 ((wrap64 (t121 - t109)) - 1))))) y112 (wrap64 (x10_2 + 1))) else (none)) = some r:=H;have A26:=aZ_ A260;clear A260;obtain ⟨ji27,hji27⟩:∃ j_:Int,(wrap64 ((wrap64 (t121 - t109)) - 1)) = j_:=⟨_,rfl⟩;replace H:(if 0 ≤ (ji27) then (spec_CountInDiagram.l1 k2 l0 l1 x5_1 x6_1 t109 (wrap64 (x8_2 + (shl .i64 (rd x5_1 (rd y112 x10_2)) (ji27)))) y112 (wrap64 (x10_2 + 1))) else (none)) = some r:=by first | (rw [hji27] at H;exact H) | (simp only [hji27] at H ⊢;exact H)
                (try rw [hji27] at A26)
                have hji27w:(IntKind.i64.wrap ((wrap64 (t121 - t109)) - 1)) = ji27:=(i64_w _).trans hji27
                by_cases c28:0 ≤ (ji27)
                ·rw [if_pos c28] at H
                 have c28b0:=eq_true c28;have c28b1:decide (0 ≤ (ji27)) = true:=decide_eq_true c28;clear c28;obtain ⟨ji29,hji29⟩:∃ j_:Int,(shl .i64 (rd x5_1 (rd y112 x10_2)) (ji27)) = j_:=⟨_,rfl⟩;replace H:(spec_CountInDiagram.l1 k2 l0 l1 x5_1 x6_1 t109 (wrap64 (x8_2 + (ji29))) y112 (wrap64 (x10_2 + 1))) = some r:=by first | (rw [hji29] at H;exact H) | (simp only [hji29] at H ⊢;exact H)
                 (try rw [hji29] at A26)
                 have hji29_:(IntKind.i64.wrap ((rd x5_1 (rd y112 x10_2)) * 2 ^ min (ji27).toNat 64)) = ji29:=hji29;have hji29z:(ji27) ≤ 64 → (IntKind.i64.wrap ((rd x5_1 (rd y112 x10_2)) * 2 ^ (ji27).toNat)) = ji29:=shl_small hji29;have hji29y:(wrap64 ((rd x5_1 (rd y112 x10_2)) * 2 ^ min (ji27).toNat 64)) = ji29:=(i64_w _).symm.trans hji29_;have hji29x:(ji27) ≤ 64 → (wrap64 ((rd x5_1 (rd y112 x10_2)) * 2 ^ (ji27).toNat)) = ji29:=fun h_=>(i64_w _).symm.trans (hji29z h_)
                 have H':=aZ_ H;clear H;obtain ⟨Ao30,co30,eo30⟩:=Kd.R_slice HO_9.out;subst eo30;have p118:0 ≤ (x10_2:Int):=of_decide_eq_true T14_;have q118:x10_2 < (y112.length:Int):=of_decide_eq_true T14_;obtain ⟨ad118,e118,hx118_0⟩:=Kd.at_int (Kd.R_reads' HO_9.out).2.2 x10_2 p118 q118
                 cases e118
                 replace p118:=eq_true p118;replace q118:=eq_true q118
                 try go_wp2
                 replace HO_5:=aZ_ (Kd.R_drew HO_5.out);replace HO_9:=aZ_ (Kd.R_drew HO_9.out);replace HB:=aZ_ (below_drew1 HB.out);obtain ⟨Ao32,co32,eo32⟩:=Kd.R_slice HO_5.out
                 (first | subst eo32 | (injection eo32 with f1_ f2_ f3_;have f4_:=f1_.symm;have f5_:=f3_.symm;clear f1_ f2_ f3_;subst f4_;subst f5_))
                 have p119:0 ≤ ((rd y112 x10_2):Int):=of_decide_eq_true T14_;have q119:(rd y112 x10_2) < (x5_1.length:Int):=of_decide_eq_true T14_;obtain ⟨ad119,e119,hx119_0⟩:=Kd.at_int (Kd.R_reads' HO_5.out).2.2 (rd y112 x10_2) p119 q119
                 cases e119
                 replace p119:=eq_true p119;replace q119:=eq_true q119;have p120:0 ≤ ((rd y112 x10_2):Int):=of_decide_eq_true T14_;have q120:(rd y112 x10_2) < (l0.length:Int):=of_decide_eq_true T14_;obtain ⟨ad120,e120,hx120_0,hx120_1,hx120_2⟩:=at_T56 HR0.out (rd y112 x10_2) p120 q120;have hw120_2:=hx120_2;have hw120_1:=hx120_1;have hw120_0:=hx120_0;obtain rfl:ad108 = ad120:=(by injection e120);replace hx120_0:=(HB.out.cell (World.block_lt_of_cell? w _ hx120_0)).trans hx120_0;replace hx120_1:=(HB.out.cell (World.block_lt_of_cell? w _ hx120_1)).trans hx120_1;replace hx120_2:=(HB.out.cell (World.block_lt_of_cell? w _ hx120_2)).trans hx120_2;replace p120:=eq_true p120;replace q120:=eq_true q120;refine start_ (n:=18) (S:=fun w'=>w'.cell? (ad119.add ((rd y112 x10_2)).toNat) = some (.int .i64 (rd x5_1 (rd y112 x10_2))) ∧ w'.cell? (ad108.add (((rd y112 x10_2)).toNat * 3)) = some (.int .i64 ((rd_T56 l0 (rd y112 x10_2)).f0)) ∧ w'.cell? ⟨(ad108.add (((rd y112 x10_2)).toNat * 3)).block,(ad108.add (((rd y112 x10_2)).toNat * 3)).off + 1,none⟩ = some (.int .i64 ((rd_T56 l0 (rd y112 x10_2)).f1)) ∧ w'.cell? ⟨(ad108.add (((rd y112 x10_2)).toNat * 3)).block,(ad108.add (((rd y112 x10_2)).toNat * 3)).off + 2,none⟩ = some (.int .i64 ((rd_T56 l0 (rd y112 x10_2)).f2))) (ds:=[]) (bA 18 0) T22_ rfl rfl ⟨hx119_0,((HB.out.cell (World.block_lt_of_cell? w _ hw120_0)).trans hw120_0),((HB.out.cell (World.block_lt_of_cell? w _ hw120_1)).trans hw120_1),((HB.out.cell (World.block_lt_of_cell? w _ hw120_2)).trans hw120_2)⟩ (fun hHeld=>?_);refine with_tabW spec_CountInDiagram.tab17 spec_CountInDiagram.bits17 (fun HT_ HW_=>?_);generalize wr.drew = w31 at HO_5 HO_9 HB hx119_0 hx120_0 hx120_1 hx120_2 hHeld ⊢;refine pZ_ 0 (some 64) (bA 18 1) ?_;refine pZ_ 1 (some 65) (bA 18 3) ?_;refine pZ_ 2 (some 66) (bA 18 7) ?_;refine pZ_ 3 (some 67) (bA 18 15) ?_;refine pZ_ 5 (some 69) (bA 18 47) ?_;refine pZ_ 6 (some 70) (bA 18 111) ?_;refine pZ_ 7 (some 71) (bA 18 239) ?_;refine pZ_ 8 (some 72) (bA 18 495) ?_;refine pZ_ 9 (some 73) (bA 18 1007) ?_;refine pZ_ 12 (some 76) (bA 18 5103) ?_;refine tZ4_ 4 (some 68) (bA 18 5119) hHeld ?_;refine tZ4_ 10 (some 74) (bA 18 6143) hHeld ?_;refine one_ (i:=11) (N:=some 75) (bA 18 8191) rfl rfl (one_of HT_.out T22_) T55_ (fun K hK=>?_);refine gZ_ Tryz.func55 #[.slice A1 l1.length c1,.int .i64 ((rd_T56 l0 (rd y112 x10_2)).f0)] ?_;with_reducible refine (spec_l19Level.calls k2 _ _ l1 ((rd_T56 l0 (rd y112 x10_2)).f0) t121 _ ?side1 ?side2 A26.out).mono ?_
                 (case side1=>exact T15_)
                 (case side2=>exact HC1.out)
                 rintro e w' ⟨rfl,⟨nd,rfl⟩⟩;refine ⟨_,rfl,?_⟩;refine hK.out _ _ ⟨hHeld.1,((HB.out.cell (World.block_lt_of_cell? w _ hw120_0)).trans hw120_0),((HB.out.cell (World.block_lt_of_cell? w _ hw120_1)).trans hw120_1),((HB.out.cell (World.block_lt_of_cell? w _ hw120_2)).trans hw120_2)⟩ (fun hHeld=>?_);clear hK K;refine nZ_ (some 75) ?_;refine pZ_ 13 (some 77) (bA 18 16383) ?_;refine pZ_ 14 (some 78) (bA 18 32767) ?_;refine pZ_ 15 (some 79) (bA 18 65535) ?_;refine pZ_ 16 (some 80) (bA 18 131071) ?_;refine pZ_ 17 (some 8) (bA 18 262143) ?_;refine done_ (done_of HT_.out T22_) ?_
                 try go_wp2
                 go_roundg k2
                 case measure=>have:=HK1.out;have:=HK2.out;omega
                 case rel=>exact ⟨(wrap64 (x8_2 + (ji29))),(wrap64 (x10_2 + 1)),(by first | rfl | (simp;done) | (simp only [← hji29] <;> (first | rfl | simp)) | (simp [*];done)),T11_,H',⟨T92_⟩,⟨by (with_reducible repeat (first | apply Kd.R_alloc | apply Kd.R_drewN | apply Kd.R_drew));exact HO_5.out⟩,⟨by (with_reducible repeat (first | apply Kd.R_alloc | apply Kd.R_drewN | apply Kd.R_drew));exact HO_9.out⟩,⟨T2_⟩⟩
                ·rw [if_neg c28] at H
                 exact absurd H T64_
               ·rw [if_neg c25] at H
                exact absurd H T64_
              ·rw [if_neg c24] at H
               exact absurd H T64_
             ·rw [if_neg c23] at H
              exact absurd H T64_
            ·rw [if_neg c22] at H
             have c22b0:decide (0 ≤ (rd y112 x10_2)) = false:=decide_eq_false c22;clear c22;have H':=aZ_ H;clear H;obtain ⟨Ao33,co33,eo33⟩:=Kd.R_slice HO_9.out;subst eo33;have p118:0 ≤ (x10_2:Int):=of_decide_eq_true T14_;have q118:x10_2 < (y112.length:Int):=of_decide_eq_true T14_;obtain ⟨ad118,e118,hx118_0⟩:=Kd.at_int (Kd.R_reads' HO_9.out).2.2 x10_2 p118 q118
             cases e118
             replace p118:=eq_true p118;replace q118:=eq_true q118;go_wp2
             go_roundg k2
             case measure=>have:=HK1.out;have:=HK2.out;omega
             case rel=>exact ⟨(x8_2),(wrap64 (x10_2 + 1)),T11_,T11_,H',⟨T92_⟩,⟨by (with_reducible repeat (first | apply Kd.R_alloc | apply Kd.R_drewN | apply Kd.R_drew));exact HO_5.out⟩,⟨by (with_reducible repeat (first | apply Kd.R_alloc | apply Kd.R_drewN | apply Kd.R_drew));exact HO_9.out⟩,⟨T2_⟩⟩
          ·rw [if_neg c16] at H
           exact absurd H T64_
         ·rw [if_neg c15] at H
          exact absurd H T64_
        ·rw [if_neg c14] at H
         have c14b0:decide (x10_2 < 2) = false:=decide_eq_false c14;clear c14
         by_cases c34:x5_1.length < 17592186044416
         ·rw [if_pos c34] at H
          have LMc34:=aZ_ c34;clear c34;obtain ⟨y115,hy115⟩:∃ y_:List Int,y_ = (x5_1 ++ [x8_2]):=⟨_,rfl⟩;replace H:(spec_CountInDiagram.l0 k2 l0 l1 y115 (wrap64 (x6_1 + 1))) = some r:=by first | (rw [hy115];with_reducible exact H) | (have H2_:=(Option.bind_some _ _).symm.trans H;rw [hy115];with_reducible exact H2_) | (have H2_:=(Option.bind_some _ _).symm.trans H;with_reducible exact H2_) | with_reducible exact H | (rw [hy115];exact H) | exact H
          have Ny115:=aZ_ hy115;clear hy115;have H':=aZ_ H;clear H
          go_wp2_with (first | ((with_reducible refine gate_builtin (b:=.append) (xs:=#[.tmp 81,.tmp 83]) rfl ?_);at_builtin;refine Kd.R_append (Kd.int .i64) (w0:=w) w.heap.size rfl (.tmp 81) (.tmp 83) 26 3 (.int .i64 0) 8 rfl Tryz.underlying26 info3 rfl T55_ T73_ u5 x5_1 x8_2 [.int .i64 x8_2] (fun k_=>some k_ ≠ (v113:Value).ownBlock) (fun _=>False) rfl rfl ?aP (fun _ hk=>hk.elim) ?aF ?aO ?aB ?aS ?aL ?_;(case aP=>exact rfl);(case aB=>exact T2_);(case aF=>exact (fun k_ hk=>Kd.fresh' (Kd.R_lt (by (with_reducible repeat (first | apply Kd.R_alloc | apply Kd.R_drewN | apply Kd.R_drew));exact HO_9.out)) k_ hk));(case aO=>exact T37_);(case aS=>exact (below_size T2_));(case aL=>have:=LMc34.out;omega);intro v116 w35 ho hb hg hat;rw [← Ny115.out] at ho;replace HO_9:=aZ_ (Kd.R_after (ok:=(fun _=>True)) (by (with_reducible repeat (first | apply Kd.R_alloc | apply Kd.R_drewN | apply Kd.R_drew));exact Kd.R_mono HO_9.out (fun _ hk=>⟨trivial,hk⟩)) hg hat);replace HB:=aZ_ (hb);have HO117:=aZ_ (ho);clear HO_5;clear ho hb hg hat))
          go_roundg k2
          case measure=>have:=HK1.out;have:=HK2.out;omega
          case rel=>exact ⟨(y115),(wrap64 (x6_1 + 1)),T11_,H',⟨T92_⟩,⟨by (with_reducible repeat (first | apply Kd.R_alloc | apply Kd.R_drewN | apply Kd.R_drew));exact Kd.R_mono HO117.out (fun _ hk=>trivial)⟩,⟨T2_⟩⟩
         ·rw [if_neg c34] at H
          exact absurd H T64_
     ·rw [if_neg c9] at H
      exact absurd H T64_
    ·rw [if_neg c8] at H
     have c8b0:decide (x6_1 < (l0.length:Int)) = false:=decide_eq_false c8;clear c8;obtain ⟨ji36,hji36⟩:∃ j_:Int,(wrap64 ((l0.length:Int) - 1)) = j_:=⟨_,rfl⟩;replace H:(if 0 ≤ (ji36) then (if (ji36) < (x5_1.length:Int) then (if (ji36) < (l0.length:Int) then ((spec_l19Level.f k1 l1 ((rd_T56 l0 (ji36)).f0)).bind fun t107=>(if 0 ≤ t107 then (some (shl .i64 (rd x5_1 (ji36)) t107)) else (none))) else (none)) else (none)) else (none)) = some r:=by first | (rw [hji36] at H;exact H) | (simp only [hji36] at H ⊢;exact H)
     have hji36w:(IntKind.i64.wrap ((l0.length:Int) - 1)) = ji36:=(i64_w _).trans hji36
     by_cases c37:0 ≤ (ji36)
     ·rw [if_pos c37] at H
      have c37b0:decide (0 ≤ (ji36)) = true:=decide_eq_true c37;clear c37
      by_cases c38:(ji36) < (x5_1.length:Int)
      ·rw [if_pos c38] at H
       have c38b0:decide ((ji36) < (x5_1.length:Int)) = true:=decide_eq_true c38;clear c38
       by_cases c39:(ji36) < (l0.length:Int)
       ·rw [if_pos c39] at H
        have c39b0:decide ((ji36) < (l0.length:Int)) = true:=decide_eq_true c39;clear c39;replace H:=Option.bind_eq_some_iff.mp H;obtain ⟨t107,A400,H⟩:=H;replace H:(if 0 ≤ t107 then (some (shl .i64 (rd x5_1 (ji36)) t107)) else (none)) = some r:=H;have A40:=aZ_ A400;clear A400
        by_cases c41:0 ≤ t107
        ·rw [if_pos c41] at H
         have c41b0:=eq_true c41;have c41b1:decide (0 ≤ t107) = true:=decide_eq_true c41;clear c41;obtain ⟨ji42,hji42⟩:∃ j_:Int,(shl .i64 (rd x5_1 (ji36)) t107) = j_:=⟨_,rfl⟩;replace H:(some ji42) = some r:=by first | (rw [hji42] at H;exact H) | (simp only [hji42] at H ⊢;exact H)
         (try rw [hji42] at A40)
         have hji42_:(IntKind.i64.wrap ((rd x5_1 (ji36)) * 2 ^ min t107.toNat 64)) = ji42:=hji42;have hji42z:t107 ≤ 64 → (IntKind.i64.wrap ((rd x5_1 (ji36)) * 2 ^ t107.toNat)) = ji42:=shl_small hji42;have hji42y:(wrap64 ((rd x5_1 (ji36)) * 2 ^ min t107.toNat 64)) = ji42:=(i64_w _).symm.trans hji42_;have hji42x:t107 ≤ 64 → (wrap64 ((rd x5_1 (ji36)) * 2 ^ t107.toNat)) = ji42:=fun h_=>(i64_w _).symm.trans (hji42z h_)
         obtain rfl:=Option.some.inj H
         try go_wp2
         replace HO_5:=aZ_ (Kd.R_drew HO_5.out);replace HB:=aZ_ (below_drew1 HB.out);obtain ⟨Ao44,co44,eo44⟩:=Kd.R_slice HO_5.out
         (first | subst eo44 | (injection eo44 with f1_ f2_ f3_;have f4_:=f1_.symm;have f5_:=f3_.symm;clear f1_ f2_ f3_;subst f4_;subst f5_))
         have p105:0 ≤ ((ji36):Int):=of_decide_eq_true T14_;have q105:(ji36) < (x5_1.length:Int):=of_decide_eq_true T14_;obtain ⟨ad105,e105,hx105_0⟩:=Kd.at_int (Kd.R_reads' HO_5.out).2.2 (ji36) p105 q105
         cases e105
         replace p105:=eq_true p105;replace q105:=eq_true q105;have p106:0 ≤ ((ji36):Int):=of_decide_eq_true T14_;have q106:(ji36) < (l0.length:Int):=of_decide_eq_true T14_;obtain ⟨ad106,e106,hx106_0,hx106_1,hx106_2⟩:=at_T56 HR0.out (ji36) p106 q106;have hw106_2:=hx106_2;have hw106_1:=hx106_1;have hw106_0:=hx106_0
         cases e106
         replace hx106_0:=(HB.out.cell (World.block_lt_of_cell? w _ hx106_0)).trans hx106_0;replace hx106_1:=(HB.out.cell (World.block_lt_of_cell? w _ hx106_1)).trans hx106_1;replace hx106_2:=(HB.out.cell (World.block_lt_of_cell? w _ hx106_2)).trans hx106_2;replace p106:=eq_true p106;replace q106:=eq_true q106;refine start_ (n:=13) (S:=fun w'=>w'.cell? (ad105.add ((ji36)).toNat) = some (.int .i64 (rd x5_1 (ji36))) ∧ w'.cell? (ad106.add (((ji36)).toNat * 3)) = some (.int .i64 ((rd_T56 l0 (ji36)).f0)) ∧ w'.cell? ⟨(ad106.add (((ji36)).toNat * 3)).block,(ad106.add (((ji36)).toNat * 3)).off + 1,none⟩ = some (.int .i64 ((rd_T56 l0 (ji36)).f1)) ∧ w'.cell? ⟨(ad106.add (((ji36)).toNat * 3)).block,(ad106.add (((ji36)).toNat * 3)).off + 2,none⟩ = some (.int .i64 ((rd_T56 l0 (ji36)).f2))) (ds:=[]) (bA 13 0) T22_ rfl rfl ⟨hx105_0,((HB.out.cell (World.block_lt_of_cell? w _ hw106_0)).trans hw106_0),((HB.out.cell (World.block_lt_of_cell? w _ hw106_1)).trans hw106_1),((HB.out.cell (World.block_lt_of_cell? w _ hw106_2)).trans hw106_2)⟩ (fun hHeld=>?_);refine with_tabW spec_CountInDiagram.tab20 spec_CountInDiagram.bits20 (fun HT_ HW_=>?_);generalize wr.drew = w43 at HO_5 HB hx105_0 hx106_0 hx106_1 hx106_2 hHeld ⊢;refine pZ_ 0 (some 88) (bA 13 1) ?_;refine pZ_ 1 (some 89) (bA 13 3) ?_;refine pZ_ 2 (some 90) (bA 13 7) ?_;refine pZ_ 4 (some 92) (bA 13 23) ?_;refine pZ_ 5 (some 93) (bA 13 55) ?_;refine pZ_ 6 (some 94) (bA 13 119) ?_;refine pZ_ 7 (some 95) (bA 13 247) ?_;refine pZ_ 8 (some 96) (bA 13 503) ?_;refine tZ4_ 3 (some 91) (bA 13 511) hHeld ?_;refine tZ4_ 9 (some 97) (bA 13 1023) hHeld ?_;refine one_ (i:=10) (N:=some 98) (bA 13 2047) rfl rfl (one_of HT_.out T22_) T55_ (fun K hK=>?_);refine goes_ Tryz.func55 T22_ rfl #[.slice A1 l1.length c1,.int .i64 ((rd_T56 l0 (ji36)).f0)] (by rfl) rfl rfl (by (try simp only [List.map_toArray,List.map_cons,List.map_nil]);first | done | (simp only [hji36];rfl) | rfl | (simp only [List.length_drop,List.length_take];rfl)) ?_;with_reducible refine (spec_l19Level.calls k1 _ _ l1 ((rd_T56 l0 (ji36)).f0) t107 _ ?side1 ?side2 A40.out).mono ?_
         (case side1=>exact T15_)
         (case side2=>exact HC1.out)
         rintro e w' ⟨rfl,⟨nd,rfl⟩⟩;refine ⟨_,rfl,?_⟩;refine hK.out _ _ ⟨hHeld.1,((HB.out.cell (World.block_lt_of_cell? w _ hw106_0)).trans hw106_0),((HB.out.cell (World.block_lt_of_cell? w _ hw106_1)).trans hw106_1),((HB.out.cell (World.block_lt_of_cell? w _ hw106_2)).trans hw106_2)⟩ (fun hHeld=>?_);clear hK K;refine nZ_ (some 98) ?_;refine pZ_ 11 (some 99) (bA 13 4095) ?_;refine pZ_ 12 (some 4) (bA 13 8191) ?_;refine done_ (done_of HT_.out T22_) ?_
         try go_wp2
         go_ret;exact ⟨(by first | rfl | (simp [errW_none,errW_some] <;> rfl) | (simp only [← hji36,← hji42];first | rfl | (simp [errW_none,errW_some] <;> rfl)) | (simp [*,errW_none,errW_some] <;> rfl)),T2_⟩
        ·rw [if_neg c41] at H
         exact absurd H T64_
       ·rw [if_neg c39] at H
        exact absurd H T64_
      ·rw [if_neg c38] at H
       exact absurd H T64_
     ·rw [if_neg c37] at H
      exact absurd H T64_
 ·replace c4:=Bool.eq_false_iff.mpr c4
  subst c4;have H1:(some (-1)) = some r:=by rw [if_neg (show ¬ (false = true) by decide)] at H;exact H
  clear H;have H:=H1;clear H1;obtain rfl:=Option.some.inj H;go_enter Tryz.func28,Tryz.ntmps28
  go_wp2_with (first | ((with_reducible refine gate_callee (f:=26) rfl ?_);refine goesL_ (some 15) rfl rfl Tryz.func26 T22_ rfl #[.slice A0 l0.length c0,.slice A1 l1.length c1] rfl T4_ ?_;(with_reducible refine (spec_IsDiagram.calls k _ _ l0 _ _ l1 false _ ?side1 ?side2 ?side3 ?side4 A3.out).mono ?_);(case side1=>exact T42_);(case side2=>exact HC0.out);(case side3=>exact T80_);(case side4=>exact HC1.out);rintro e w45 ⟨rfl,hb⟩;refine ⟨_,rfl,?_⟩;replace HB:=aZ_ (below_step T2_ hb);(try clear hb)))
  go_ret;exact ⟨T13_,T2_⟩
end Go.Proofs.YtflacbjpeecjcabGreatDoor.F
