/- The walk of one Go function: a call of it ends as the Lean function of its name tells; the conditions are those of each theorem. -/
import Derived.Test.YtflacbjpeecjcacDoorF0
import Derived.Test.YtflacbjpeecjcacDoorFGa
import Derived.Test.YtflacbjpeecjcacDoorFspecFormatInt
namespace Go.Proofs.YtflacbjpeecjcacDoor.F
open Go.RowKit Go.Proofs.YtflacbjpeecjcacDoorW.PrintWords Go.Proofs.YtflacbjpeecjcacDoorW.PrintLast Go.Proofs.YtflacbjpeecjcacDoorW.PrintMore
attribute [local go_sem] max2_int min2_int max_two min_two max_three min_three max_four min_four   -- for this text's walks alone
set_option linter.unusedVariables false
set_option linter.unusedSimpArgs false

/-! ### spec_FormatDiagram: function 5 -/
mutual
def spec_FormatDiagram.l0 : Nat → List (S30) → ByteArray → Int → Option (ByteArray)
  | 0, _, _, _ => none
  | k + 1, x0, x3, x4 => if x4 < (x0.length : Int) then (if 0 ≤ x4 then (if (x0.length : Int) > 31 then (spec_FormatDiagram.j1 k x0 x3 x4 true ((rd_T30 x0 x4).f0) ((rd_T30 x0 x4).f1) ((rd_T30 x0 x4).f2)) else ((spec_l1In.f ((rd_T30 x0 x4).f0) 0 4).bind fun t103 => (if t103 = true then ((spec_l1In.f ((rd_T30 x0 x4).f1) (-2) 30).bind fun t104 => (if t104 = true then ((spec_l1In.f ((rd_T30 x0 x4).f2) (-2) 30).bind fun t105 => (spec_FormatDiagram.j1 k x0 x3 x4 (!t105) ((rd_T30 x0 x4).f0) ((rd_T30 x0 x4).f1) ((rd_T30 x0 x4).f2))) else (spec_FormatDiagram.j1 k x0 x3 x4 true ((rd_T30 x0 x4).f0) ((rd_T30 x0 x4).f1) ((rd_T30 x0 x4).f2)))) else (spec_FormatDiagram.j1 k x0 x3 x4 true ((rd_T30 x0 x4).f0) ((rd_T30 x0 x4).f1) ((rd_T30 x0 x4).f2))))) else (none)) else (if x3.toList = ([] : List UInt8) then (some (⟨#[110, 111, 110, 101]⟩ : ByteArray)) else (some x3))
def spec_FormatDiagram.j1 : Nat → List (S30) → ByteArray → Int → Bool → Int → Int → Int → Option (ByteArray)
  | 0, _, _, _, _, _, _, _ => none
  | k + 1, x0, x3, x4, x36, x103000, x103001, x103002 => if x36 = true then (some (⟨#[]⟩ : ByteArray)) else (if x4 > 0 then (if x3.size + 1 ≤ 9223372036854775807 then (if 0 ≤ x103000 then (if x103000 ≤ (wrap64 (x103000 + 1)) then (if (wrap64 (x103000 + 1)) ≤ 5 then (if (x3 ++ (⟨#[32]⟩ : ByteArray)).size + ((⟨#[97, 98, 99, 100, 101]⟩ : ByteArray).extract (x103000 : Int).toNat ((wrap64 (x103000 + 1)) : Int).toNat).size ≤ 9223372036854775807 then ((spec_FormatInt.f k x103001).bind fun t106 => (if ((x3 ++ (⟨#[32]⟩ : ByteArray)) ++ ((⟨#[97, 98, 99, 100, 101]⟩ : ByteArray).extract (x103000 : Int).toNat ((wrap64 (x103000 + 1)) : Int).toNat)).size + t106.size ≤ 9223372036854775807 then (if (((x3 ++ (⟨#[32]⟩ : ByteArray)) ++ ((⟨#[97, 98, 99, 100, 101]⟩ : ByteArray).extract (x103000 : Int).toNat ((wrap64 (x103000 + 1)) : Int).toNat)) ++ t106).size + 1 ≤ 9223372036854775807 then ((spec_FormatInt.f k x103002).bind fun t107 => (if ((((x3 ++ (⟨#[32]⟩ : ByteArray)) ++ ((⟨#[97, 98, 99, 100, 101]⟩ : ByteArray).extract (x103000 : Int).toNat ((wrap64 (x103000 + 1)) : Int).toNat)) ++ t106) ++ (⟨#[44]⟩ : ByteArray)).size + t107.size ≤ 9223372036854775807 then (spec_FormatDiagram.l0 k x0 (((((x3 ++ (⟨#[32]⟩ : ByteArray)) ++ ((⟨#[97, 98, 99, 100, 101]⟩ : ByteArray).extract (x103000 : Int).toNat ((wrap64 (x103000 + 1)) : Int).toNat)) ++ t106) ++ (⟨#[44]⟩ : ByteArray)) ++ t107) (wrap64 (x4 + 1))) else (none))) else (none)) else (none))) else (none)) else (none)) else (none)) else (none)) else (none)) else (if 0 ≤ x103000 then (if x103000 ≤ (wrap64 (x103000 + 1)) then (if (wrap64 (x103000 + 1)) ≤ 5 then (if x3.size + ((⟨#[97, 98, 99, 100, 101]⟩ : ByteArray).extract (x103000 : Int).toNat ((wrap64 (x103000 + 1)) : Int).toNat).size ≤ 9223372036854775807 then ((spec_FormatInt.f k x103001).bind fun t108 => (if (x3 ++ ((⟨#[97, 98, 99, 100, 101]⟩ : ByteArray).extract (x103000 : Int).toNat ((wrap64 (x103000 + 1)) : Int).toNat)).size + t108.size ≤ 9223372036854775807 then (if ((x3 ++ ((⟨#[97, 98, 99, 100, 101]⟩ : ByteArray).extract (x103000 : Int).toNat ((wrap64 (x103000 + 1)) : Int).toNat)) ++ t108).size + 1 ≤ 9223372036854775807 then ((spec_FormatInt.f k x103002).bind fun t109 => (if (((x3 ++ ((⟨#[97, 98, 99, 100, 101]⟩ : ByteArray).extract (x103000 : Int).toNat ((wrap64 (x103000 + 1)) : Int).toNat)) ++ t108) ++ (⟨#[44]⟩ : ByteArray)).size + t109.size ≤ 9223372036854775807 then (spec_FormatDiagram.l0 k x0 ((((x3 ++ ((⟨#[97, 98, 99, 100, 101]⟩ : ByteArray).extract (x103000 : Int).toNat ((wrap64 (x103000 + 1)) : Int).toNat)) ++ t108) ++ (⟨#[44]⟩ : ByteArray)) ++ t109) (wrap64 (x4 + 1))) else (none))) else (none)) else (none))) else (none)) else (none)) else (none)) else (none)))
end
def spec_FormatDiagram.f (k : Nat) (l0 : List (S30)) : Option (ByteArray) := spec_FormatDiagram.l0 k l0 (⟨#[]⟩ : ByteArray) 0
theorem spec_FormatDiagram.mono_l : ∀ k, (∀ y0 y1 y2, LeO (spec_FormatDiagram.l0 k y0 y1 y2) (spec_FormatDiagram.l0 (k + 1) y0 y1 y2)) ∧ (∀ y0 y1 y2 y3 y4 y5 y6, LeO (spec_FormatDiagram.j1 k y0 y1 y2 y3 y4 y5 y6) (spec_FormatDiagram.j1 (k + 1) y0 y1 y2 y3 y4 y5 y6))
  | 0 => ⟨fun _ _ _ r h => by simp [spec_FormatDiagram.l0] at h, fun _ _ _ _ _ _ _ r h => by simp [spec_FormatDiagram.j1] at h⟩
  | k + 1 => by
    obtain ⟨ih0, ih1⟩ := spec_FormatDiagram.mono_l k
    refine ⟨?_, ?_⟩
    · intro y0 y1 y2
      unfold spec_FormatDiagram.l0
      repeat' first
      | (with_reducible exact ih0 _ _ _)
      | (with_reducible exact ih1 _ _ _ _ _ _ _)
      | (with_reducible exact spec_FormatInt.mono _ _)
      | (with_reducible exact LeO.refl _)
      | (with_reducible exact LeO.none _)
      | (with_reducible refine LeO.ite ?_ ?_)
      | (with_reducible refine LeO.bind ?_ (fun _ => ?_))
      | exact ih0 _ _ _
      | exact ih1 _ _ _ _ _ _ _
      | exact spec_FormatInt.mono _ _
      | exact LeO.none _
      | refine LeO.ite ?_ ?_
      | refine LeO.bind ?_ (fun _ => ?_)
    · intro y0 y1 y2 y3 y4 y5 y6
      unfold spec_FormatDiagram.j1
      repeat' first
      | (with_reducible exact ih0 _ _ _)
      | (with_reducible exact ih1 _ _ _ _ _ _ _)
      | (with_reducible exact spec_FormatInt.mono _ _)
      | (with_reducible exact LeO.refl _)
      | (with_reducible exact LeO.none _)
      | (with_reducible refine LeO.ite ?_ ?_)
      | (with_reducible refine LeO.bind ?_ (fun _ => ?_))
      | exact ih0 _ _ _
      | exact ih1 _ _ _ _ _ _ _
      | exact spec_FormatInt.mono _ _
      | exact LeO.none _
      | refine LeO.ite ?_ ?_
      | refine LeO.bind ?_ (fun _ => ?_)
theorem spec_FormatDiagram.mono : ∀ a0 k, LeO (spec_FormatDiagram.f k a0) (spec_FormatDiagram.f (k + 1) a0) := by
  intro a0 k
  obtain ⟨ih0, ih1⟩ := spec_FormatDiagram.mono_l k
  unfold spec_FormatDiagram.f
  repeat' first
      | (with_reducible exact ih0 _ _ _)
      | (with_reducible exact ih1 _ _ _ _ _ _ _)
      | (with_reducible exact spec_FormatInt.mono _ _)
      | (with_reducible exact LeO.refl _)
      | (with_reducible exact LeO.none _)
      | (with_reducible refine LeO.ite ?_ ?_)
      | (with_reducible refine LeO.bind ?_ (fun _ => ?_))
      | exact ih0 _ _ _
      | exact ih1 _ _ _ _ _ _ _
      | exact spec_FormatInt.mono _ _
      | exact LeO.none _
      | refine LeO.ite ?_ ?_
      | refine LeO.bind ?_ (fun _ => ?_)
def spec_FormatDiagram.T10 : Bool × List (List Nat × List Nat) := (true, [([], []), ([], []), ([1], [1]), ([], []), ([3], [3]), ([4], [4]), ([2, 5], [2, 5]), ([0, 6], [0, 6]), ([], []), ([8], [8]), ([9], [9]), ([7, 10], [7, 10]), ([11], [11]), ([], []), ([13], [13]), ([14, 10], [14]), ([12, 15], [12, 15]), ([16, 15, 0, 1, 2, 3, 4, 5, 6, 7, 8, 9, 10, 11, 12, 13, 14, 15, 16], [0, 16])])
def spec_FormatDiagram.B10 : List Nat := [0, 0, 2, 0, 8, 24, 62, 127, 0, 256, 768, 2047, 4095, 0, 8192, 26368, 65535, 131071]
theorem spec_FormatDiagram.tab10 : rtab .any (opsOf Tryd.f5 10) = spec_FormatDiagram.T10 := by kernel_rfl
theorem spec_FormatDiagram.bits10 : waitsOk spec_FormatDiagram.T10.2 spec_FormatDiagram.B10 = true := by kernel_rfl
set_option maxHeartbeats 8000000 in
set_option maxRecDepth 100000 in
theorem spec_FormatDiagram.calls (k : Nat) (A0 : Option Addr) (c0 : Nat) (l0 : List (S30)) (r : ByteArray) (w : World) (hr0 : Kd.C k30 w A0 l0.length l0) (hc0 : l0.length ≤ c0) (h : spec_FormatDiagram.f k l0 = some r) :
    Calls Tryd.prog 5 #[.slice A0 l0.length c0] w fun e w' => e = .returned (.string r) ∧ Below w.heap.size w w' := by
  have hu30 := Tryd.underlying30
  have HR0 := Aside0.mk hr0
  have HC0 := Aside0.mk hc0
  clear hr0 hc0
  have HB := Aside0.mk (Below.refl w.heap.size w)
  have H : (spec_FormatDiagram.l0 k l0 (⟨#[]⟩ : ByteArray) 0) = some r := h
  clear h
  have H' := Aside0.mk H
  clear H
  go_enter Tryd.func5, Tryd.ntmps5
  go_wp2
  go_loopg [3, 4] k (fun kq v3 v4 w' => ∃ (x3_1 : ByteArray) (x4_1 : Int), v3 = .string x3_1 ∧ v4 = .int .i64 x4_1 ∧ Aside0 (spec_FormatDiagram.l0 kq l0 x3_1 x4_1 = some r) ∧ Aside0 (kq ≤ k) ∧ Aside0 (Below w.heap.size w w'))
  case atStart => exact ⟨((⟨#[]⟩ : ByteArray)), (0), (by first | rfl | (simp; done) | (simp [*]; done)), (by first | rfl | (simp; done) | (simp [*]; done)), H', ⟨Nat.le_refl _⟩, ⟨by repeat (first | (with_reducible first | exact HB.out | apply below_alloc | apply pw_below_drewN | apply below_drew1) | exact HB.out)⟩⟩
  case round =>
    clear H'
    obtain ⟨x3_1, x4_1, rfl, rfl, HA, HK1, HB⟩ := hrel
    cases gk with
    | zero => exact absurd HA.out (by simp [spec_FormatDiagram.l0])
    | succ k1 =>
      have H := HA.out
      clear HA
      simp only [spec_FormatDiagram.l0] at H
      by_cases c2 : x4_1 < (l0.length : Int)
      · rw [if_pos c2] at H
        have c2b0 : decide (x4_1 < (l0.length : Int)) = true := decide_eq_true c2
        clear c2
        by_cases c3 : 0 ≤ x4_1
        · rw [if_pos c3] at H
          have c3b0 : decide (0 ≤ x4_1) = true := decide_eq_true c3
          clear c3
          have HC4 := Aside0.mk H
          clear H
          have p101 : 0 ≤ (x4_1 : Int) := of_decide_eq_true (by first | (with_reducible assumption) | assumption)
          have q101 : x4_1 < (l0.length : Int) := of_decide_eq_true (by first | (with_reducible assumption) | assumption)
          obtain ⟨ad101, e101, hx101_0, hx101_1, hx101_2⟩ := at_T30 HR0.out x4_1 p101 q101
          cases e101
          replace hx101_0 := (HB.out.cell (World.block_lt_of_cell? w _ hx101_0)).trans hx101_0
          replace hx101_1 := (HB.out.cell (World.block_lt_of_cell? w _ hx101_1)).trans hx101_1
          replace hx101_2 := (HB.out.cell (World.block_lt_of_cell? w _ hx101_2)).trans hx101_2
          replace p101 := eq_true p101
          replace q101 := eq_true q101
          go_upto_region 6 with (first | ((with_reducible refine gate_dst (N := 5) rfl ?_); refine box_event ?hg (N := 5) ?hd (cs := #[.int .i64 0, .int .i64 0, .int .i64 0]) (t := 30) ?hr ?_; (case hd => rfl); (case hg => rfl); (case hr => first | (go_simp; done) | (go_simp; rfl)); intro gb102 hg w5 hbox hb; have n0_ := Aside0.mk (below_step (by repeat (first | (with_reducible first | exact HB.out | apply below_alloc | apply pw_below_drewN | apply below_drew1) | exact HB.out)) hb); have n1_ := Aside0.mk (hbox); have n2_ := Aside0.mk ((by rw [hg]; exact (below_size (by repeat (first | (with_reducible first | exact HB.out | apply below_alloc | apply pw_below_drewN | apply below_drew1) | exact HB.out))) : w.heap.size ≤ gb102)); have n3_ := Aside0.mk ((by rw [hg]; exact (below_size (by repeat (first | (with_reducible first | exact HB.out | apply below_alloc | apply pw_below_drewN | apply below_drew1) | exact HB.out))) : w.heap.size ≤ gb102)); clear HB; have HB := n0_; have BK102 := n1_; have GW102 := n2_; have GE102 := n3_; clear n0_ n1_ n2_ n3_; clear hb hbox hg; have hcz6_0 : w5.cell? ⟨gb102, 0, none⟩ = some (.int .i64 0) := (blk_cell BK102.out 0).trans rfl; have hcz6_1 : w5.cell? ⟨gb102, 1, none⟩ = some (.int .i64 0) := (blk_cell BK102.out 1).trans rfl; have hcz6_2 : w5.cell? ⟨gb102, 2, none⟩ = some (.int .i64 0) := (blk_cell BK102.out 2).trans rfl; have hfz6_0 := blk_frozen BK102.out 0; have hfz6_1 := blk_frozen BK102.out 1; have hfz6_2 := blk_frozen BK102.out 2))
          (try simp only [Act.put, List.setIfInBounds_toArray, List.set_cons_zero, List.set_cons_succ])
          go_cut [36] (fun v36 wc => ∃ (kq : Nat) (x36_3 : Bool), v36 = .bool x36_3 ∧ Aside0 (spec_FormatDiagram.j1 kq l0 x3_1 x4_1 x36_3 ((rd_T30 l0 x4_1).f0) ((rd_T30 l0 x4_1).f1) ((rd_T30 l0 x4_1).f2) = some r) ∧ Aside0 (kq ≤ k1) ∧ Aside0 (wc.heap[gb102]? = some (.cells #[.int .i64 ((rd_T30 l0 x4_1).f0), .int .i64 ((rd_T30 l0 x4_1).f1), .int .i64 ((rd_T30 l0 x4_1).f2)] 30 (0, 0))) ∧ Aside0 (Below w.heap.size w wc))
          case first =>
            have H := HC4.out
            clear HC4
            by_cases c7 : (l0.length : Int) > 31
            · rw [if_pos c7] at H
              have c7b0 : decide (31 < (l0.length : Int)) = true := decide_eq_true c7
              have c7b1 : decide (31 < l0.length) = true := decide_eq_true (by omega)
              clear c7
              (first | rw [c7b0] | (simp only [i64_w, i32_w]; rw [c7b0]) | skip)
              have H' := Aside0.mk H
              clear H
              go_wp2
              go_meet
              case rel => exact ⟨_, (true), (by first | rfl | (simp; done) | (simp [*]; done)), H', ⟨by have := HK1.out; first | omega | exact Nat.le_refl _⟩, ⟨by (with_reducible repeat (first | refine blk_drewN ?_ _ | refine blk_drew ?_ | refine blk_alloc ?_ _)); refine blk_put (cs := #[.int .i64 ((rd_T30 l0 x4_1).f0), .int .i64 ((rd_T30 l0 x4_1).f1), .int .i64 0]) ?_ 2 _ rfl; (with_reducible repeat (first | refine blk_drewN ?_ _ | refine blk_drew ?_ | refine blk_alloc ?_ _)); refine blk_put (cs := #[.int .i64 ((rd_T30 l0 x4_1).f0), .int .i64 0, .int .i64 0]) ?_ 1 _ rfl; (with_reducible repeat (first | refine blk_drewN ?_ _ | refine blk_drew ?_ | refine blk_alloc ?_ _)); refine blk_put (cs := #[.int .i64 0, .int .i64 0, .int .i64 0]) ?_ 0 _ rfl; (with_reducible repeat (first | refine blk_drewN ?_ _ | refine blk_drew ?_ | refine blk_alloc ?_ _)); exact BK102.out⟩, ⟨by repeat (first | (with_reducible first | exact HB.out | apply below_alloc | apply pw_below_drewN | apply below_drew1 | refine below_set ?_ GE102.out) | exact HB.out)⟩⟩
            · rw [if_neg c7] at H
              have c7b0 : decide (31 < (l0.length : Int)) = false := decide_eq_false c7
              have c7b1 : decide (31 < l0.length) = false := decide_eq_false (by omega)
              clear c7
              (first | rw [c7b0] | (simp only [i64_w, i32_w]; rw [c7b0]) | skip)
              replace H := Option.bind_eq_some_iff.mp H
              obtain ⟨t103, A80, H⟩ := H
              replace H : (if t103 = true then ((spec_l1In.f ((rd_T30 l0 x4_1).f1) (-2) 30).bind fun t104 => (if t104 = true then ((spec_l1In.f ((rd_T30 l0 x4_1).f2) (-2) 30).bind fun t105 => (spec_FormatDiagram.j1 k1 l0 x3_1 x4_1 (!t105) ((rd_T30 l0 x4_1).f0) ((rd_T30 l0 x4_1).f1) ((rd_T30 l0 x4_1).f2))) else (spec_FormatDiagram.j1 k1 l0 x3_1 x4_1 true ((rd_T30 l0 x4_1).f0) ((rd_T30 l0 x4_1).f1) ((rd_T30 l0 x4_1).f2)))) else (spec_FormatDiagram.j1 k1 l0 x3_1 x4_1 true ((rd_T30 l0 x4_1).f0) ((rd_T30 l0 x4_1).f1) ((rd_T30 l0 x4_1).f2))) = some r := H
              have A8 := Aside0.mk A80
              clear A80
              by_cases c9 : t103 = true
              · subst c9
                have H1 : ((spec_l1In.f ((rd_T30 l0 x4_1).f1) (-2) 30).bind fun t104 => (if t104 = true then ((spec_l1In.f ((rd_T30 l0 x4_1).f2) (-2) 30).bind fun t105 => (spec_FormatDiagram.j1 k1 l0 x3_1 x4_1 (!t105) ((rd_T30 l0 x4_1).f0) ((rd_T30 l0 x4_1).f1) ((rd_T30 l0 x4_1).f2))) else (spec_FormatDiagram.j1 k1 l0 x3_1 x4_1 true ((rd_T30 l0 x4_1).f0) ((rd_T30 l0 x4_1).f1) ((rd_T30 l0 x4_1).f2)))) = some r := by rw [if_pos rfl] at H; exact H
                clear H
                have H := H1
                clear H1
                replace H := Option.bind_eq_some_iff.mp H
                obtain ⟨t104, A100, H⟩ := H
                replace H : (if t104 = true then ((spec_l1In.f ((rd_T30 l0 x4_1).f2) (-2) 30).bind fun t105 => (spec_FormatDiagram.j1 k1 l0 x3_1 x4_1 (!t105) ((rd_T30 l0 x4_1).f0) ((rd_T30 l0 x4_1).f1) ((rd_T30 l0 x4_1).f2))) else (spec_FormatDiagram.j1 k1 l0 x3_1 x4_1 true ((rd_T30 l0 x4_1).f0) ((rd_T30 l0 x4_1).f1) ((rd_T30 l0 x4_1).f2))) = some r := H
                have A10 := Aside0.mk A100
                clear A100
                by_cases c11 : t104 = true
                · subst c11
                  have H1 : ((spec_l1In.f ((rd_T30 l0 x4_1).f2) (-2) 30).bind fun t105 => (spec_FormatDiagram.j1 k1 l0 x3_1 x4_1 (!t105) ((rd_T30 l0 x4_1).f0) ((rd_T30 l0 x4_1).f1) ((rd_T30 l0 x4_1).f2))) = some r := by rw [if_pos rfl] at H; exact H
                  clear H
                  have H := H1
                  clear H1
                  replace H := Option.bind_eq_some_iff.mp H
                  obtain ⟨t105, A120, H⟩ := H
                  replace H : (spec_FormatDiagram.j1 k1 l0 x3_1 x4_1 (!t105) ((rd_T30 l0 x4_1).f0) ((rd_T30 l0 x4_1).f1) ((rd_T30 l0 x4_1).f2)) = some r := H
                  have A12 := Aside0.mk A120
                  clear A120
                  have H' := Aside0.mk H
                  clear H
                  have hcz13_0 : w5.cell? ⟨gb102, 0, none⟩ = some (.int .i64 0) := (blk_cell BK102.out 0).trans rfl
                  have hcz13_1 : w5.cell? ⟨gb102, 1, none⟩ = some (.int .i64 0) := (blk_cell BK102.out 1).trans rfl
                  have hcz13_2 : w5.cell? ⟨gb102, 2, none⟩ = some (.int .i64 0) := (blk_cell BK102.out 2).trans rfl
                  have hfz13_0 := blk_frozen BK102.out 0
                  have hfz13_1 := blk_frozen BK102.out 1
                  have hfz13_2 := blk_frozen BK102.out 2
                  go_wp2_with (first | (go_at_call 9; (with_reducible refine (spec_l1In.calls ((rd_T30 l0 x4_1).f0) 0 4 true _ A8.out).mono ?_); rintro e w' ⟨rfl, ⟨nd, rfl⟩⟩) | (go_at_call 9; (with_reducible refine (spec_l1In.calls ((rd_T30 l0 x4_1).f1) (-2) 30 true _ A10.out).mono ?_); rintro e w' ⟨rfl, ⟨nd, rfl⟩⟩) | (go_at_call 9; (with_reducible refine (spec_l1In.calls ((rd_T30 l0 x4_1).f2) (-2) 30 t105 _ A12.out).mono ?_); rintro e w' ⟨rfl, ⟨nd, rfl⟩⟩))
                  go_meet
                  case rel => exact ⟨_, (!t105), (by first | rfl | (simp; done) | (simp [*]; done)), H', ⟨by have := HK1.out; first | omega | exact Nat.le_refl _⟩, ⟨by (with_reducible repeat (first | refine blk_drewN ?_ _ | refine blk_drew ?_ | refine blk_alloc ?_ _)); refine blk_put (cs := #[.int .i64 ((rd_T30 l0 x4_1).f0), .int .i64 ((rd_T30 l0 x4_1).f1), .int .i64 0]) ?_ 2 _ rfl; (with_reducible repeat (first | refine blk_drewN ?_ _ | refine blk_drew ?_ | refine blk_alloc ?_ _)); refine blk_put (cs := #[.int .i64 ((rd_T30 l0 x4_1).f0), .int .i64 0, .int .i64 0]) ?_ 1 _ rfl; (with_reducible repeat (first | refine blk_drewN ?_ _ | refine blk_drew ?_ | refine blk_alloc ?_ _)); refine blk_put (cs := #[.int .i64 0, .int .i64 0, .int .i64 0]) ?_ 0 _ rfl; (with_reducible repeat (first | refine blk_drewN ?_ _ | refine blk_drew ?_ | refine blk_alloc ?_ _)); exact BK102.out⟩, ⟨by repeat (first | (with_reducible first | exact HB.out | apply below_alloc | apply pw_below_drewN | apply below_drew1 | refine below_set ?_ GE102.out) | exact HB.out)⟩⟩
                · replace c11 := Bool.eq_false_iff.mpr c11
                  subst c11
                  have H1 : (spec_FormatDiagram.j1 k1 l0 x3_1 x4_1 true ((rd_T30 l0 x4_1).f0) ((rd_T30 l0 x4_1).f1) ((rd_T30 l0 x4_1).f2)) = some r := by rw [if_neg (show ¬ (false = true) by decide)] at H; exact H
                  clear H
                  have H := H1
                  clear H1
                  have H' := Aside0.mk H
                  clear H
                  have hcz14_0 : w5.cell? ⟨gb102, 0, none⟩ = some (.int .i64 0) := (blk_cell BK102.out 0).trans rfl
                  have hcz14_1 : w5.cell? ⟨gb102, 1, none⟩ = some (.int .i64 0) := (blk_cell BK102.out 1).trans rfl
                  have hcz14_2 : w5.cell? ⟨gb102, 2, none⟩ = some (.int .i64 0) := (blk_cell BK102.out 2).trans rfl
                  have hfz14_0 := blk_frozen BK102.out 0
                  have hfz14_1 := blk_frozen BK102.out 1
                  have hfz14_2 := blk_frozen BK102.out 2
                  go_wp2_with (first | (go_at_call 9; (with_reducible refine (spec_l1In.calls ((rd_T30 l0 x4_1).f0) 0 4 true _ A8.out).mono ?_); rintro e w' ⟨rfl, ⟨nd, rfl⟩⟩) | (go_at_call 9; (with_reducible refine (spec_l1In.calls ((rd_T30 l0 x4_1).f1) (-2) 30 false _ A10.out).mono ?_); rintro e w' ⟨rfl, ⟨nd, rfl⟩⟩))
                  go_meet
                  case rel => exact ⟨_, (true), (by first | rfl | (simp; done) | (simp [*]; done)), H', ⟨by have := HK1.out; first | omega | exact Nat.le_refl _⟩, ⟨by (with_reducible repeat (first | refine blk_drewN ?_ _ | refine blk_drew ?_ | refine blk_alloc ?_ _)); refine blk_put (cs := #[.int .i64 ((rd_T30 l0 x4_1).f0), .int .i64 ((rd_T30 l0 x4_1).f1), .int .i64 0]) ?_ 2 _ rfl; (with_reducible repeat (first | refine blk_drewN ?_ _ | refine blk_drew ?_ | refine blk_alloc ?_ _)); refine blk_put (cs := #[.int .i64 ((rd_T30 l0 x4_1).f0), .int .i64 0, .int .i64 0]) ?_ 1 _ rfl; (with_reducible repeat (first | refine blk_drewN ?_ _ | refine blk_drew ?_ | refine blk_alloc ?_ _)); refine blk_put (cs := #[.int .i64 0, .int .i64 0, .int .i64 0]) ?_ 0 _ rfl; (with_reducible repeat (first | refine blk_drewN ?_ _ | refine blk_drew ?_ | refine blk_alloc ?_ _)); exact BK102.out⟩, ⟨by repeat (first | (with_reducible first | exact HB.out | apply below_alloc | apply pw_below_drewN | apply below_drew1 | refine below_set ?_ GE102.out) | exact HB.out)⟩⟩
              · replace c9 := Bool.eq_false_iff.mpr c9
                subst c9
                have H1 : (spec_FormatDiagram.j1 k1 l0 x3_1 x4_1 true ((rd_T30 l0 x4_1).f0) ((rd_T30 l0 x4_1).f1) ((rd_T30 l0 x4_1).f2)) = some r := by rw [if_neg (show ¬ (false = true) by decide)] at H; exact H
                clear H
                have H := H1
                clear H1
                have H' := Aside0.mk H
                clear H
                have hcz15_0 : w5.cell? ⟨gb102, 0, none⟩ = some (.int .i64 0) := (blk_cell BK102.out 0).trans rfl
                have hcz15_1 : w5.cell? ⟨gb102, 1, none⟩ = some (.int .i64 0) := (blk_cell BK102.out 1).trans rfl
                have hcz15_2 : w5.cell? ⟨gb102, 2, none⟩ = some (.int .i64 0) := (blk_cell BK102.out 2).trans rfl
                have hfz15_0 := blk_frozen BK102.out 0
                have hfz15_1 := blk_frozen BK102.out 1
                have hfz15_2 := blk_frozen BK102.out 2
                go_wp2_with (first | (go_at_call 9; (with_reducible refine (spec_l1In.calls ((rd_T30 l0 x4_1).f0) 0 4 false _ A8.out).mono ?_); rintro e w' ⟨rfl, ⟨nd, rfl⟩⟩))
                go_meet
                case rel => exact ⟨_, (true), (by first | rfl | (simp; done) | (simp [*]; done)), H', ⟨by have := HK1.out; first | omega | exact Nat.le_refl _⟩, ⟨by (with_reducible repeat (first | refine blk_drewN ?_ _ | refine blk_drew ?_ | refine blk_alloc ?_ _)); refine blk_put (cs := #[.int .i64 ((rd_T30 l0 x4_1).f0), .int .i64 ((rd_T30 l0 x4_1).f1), .int .i64 0]) ?_ 2 _ rfl; (with_reducible repeat (first | refine blk_drewN ?_ _ | refine blk_drew ?_ | refine blk_alloc ?_ _)); refine blk_put (cs := #[.int .i64 ((rd_T30 l0 x4_1).f0), .int .i64 0, .int .i64 0]) ?_ 1 _ rfl; (with_reducible repeat (first | refine blk_drewN ?_ _ | refine blk_drew ?_ | refine blk_alloc ?_ _)); refine blk_put (cs := #[.int .i64 0, .int .i64 0, .int .i64 0]) ?_ 0 _ rfl; (with_reducible repeat (first | refine blk_drewN ?_ _ | refine blk_drew ?_ | refine blk_alloc ?_ _)); exact BK102.out⟩, ⟨by repeat (first | (with_reducible first | exact HB.out | apply below_alloc | apply pw_below_drewN | apply below_drew1 | refine below_set ?_ GE102.out) | exact HB.out)⟩⟩
          case rest =>
            clear HC4
            try clear c1
            try clear p1
            try clear q1
            try clear hx1
            try clear c2
            try clear c2b0
            try clear p2
            try clear c3
            try clear c3b0
            try clear c5
            try clear c7
            try clear c7b0
            try clear c7b1
            try clear c9
            try clear p10
            try clear q10
            try clear hx10
            try clear c11
            try clear hcz13_0
            try clear hcz13_1
            try clear hcz13_2
            try clear hcz14_0
            try clear hcz14_1
            try clear hcz14_2
            try clear hcz15_0
            try clear hcz15_1
            try clear hcz15_2
            try clear hcz6_0
            try clear hcz6_1
            try clear hcz6_2
            try clear hfz13_0
            try clear hfz13_1
            try clear hfz13_2
            try clear hfz14_0
            try clear hfz14_1
            try clear hfz14_2
            try clear hfz15_0
            try clear hfz15_1
            try clear hfz15_2
            try clear hfz6_0
            try clear hfz6_1
            try clear hfz6_2
            try clear hx101_0
            try clear hx101_1
            try clear hx101_2
            try clear p101
            try clear q101
            obtain ⟨kq, x36_3, rfl, HA, HJ3, BK102, HB⟩ := hcut
            cases kq with
            | zero => exact absurd HA.out (by simp [spec_FormatDiagram.j1])
            | succ kj3 =>
              have H := HA.out
              clear HA
              simp only [spec_FormatDiagram.j1] at H
              by_cases c16 : x36_3 = true
              · subst c16
                have H1 : (some (⟨#[]⟩ : ByteArray)) = some r := by rw [if_pos rfl] at H; exact H
                clear H
                have H := H1
                clear H1
                obtain rfl := Option.some.inj H
                go_wp2
                go_ret
                exact ⟨by first | rfl | (simp [errW_none, errW_some] <;> rfl) | (simp [*, errW_none, errW_some] <;> rfl), by repeat (first | (with_reducible first | exact HB.out | apply below_alloc | apply pw_below_drewN | apply below_drew1 | refine below_set ?_ GE102.out) | exact HB.out)⟩
              · replace c16 := Bool.eq_false_iff.mpr c16
                subst c16
                have H1 : (if x4_1 > 0 then (if x3_1.size + 1 ≤ 9223372036854775807 then (if 0 ≤ ((rd_T30 l0 x4_1).f0) then (if ((rd_T30 l0 x4_1).f0) ≤ (wrap64 (((rd_T30 l0 x4_1).f0) + 1)) then (if (wrap64 (((rd_T30 l0 x4_1).f0) + 1)) ≤ 5 then (if (x3_1 ++ (⟨#[32]⟩ : ByteArray)).size + ((⟨#[97, 98, 99, 100, 101]⟩ : ByteArray).extract (((rd_T30 l0 x4_1).f0) : Int).toNat ((wrap64 (((rd_T30 l0 x4_1).f0) + 1)) : Int).toNat).size ≤ 9223372036854775807 then ((spec_FormatInt.f kj3 ((rd_T30 l0 x4_1).f1)).bind fun t106 => (if ((x3_1 ++ (⟨#[32]⟩ : ByteArray)) ++ ((⟨#[97, 98, 99, 100, 101]⟩ : ByteArray).extract (((rd_T30 l0 x4_1).f0) : Int).toNat ((wrap64 (((rd_T30 l0 x4_1).f0) + 1)) : Int).toNat)).size + t106.size ≤ 9223372036854775807 then (if (((x3_1 ++ (⟨#[32]⟩ : ByteArray)) ++ ((⟨#[97, 98, 99, 100, 101]⟩ : ByteArray).extract (((rd_T30 l0 x4_1).f0) : Int).toNat ((wrap64 (((rd_T30 l0 x4_1).f0) + 1)) : Int).toNat)) ++ t106).size + 1 ≤ 9223372036854775807 then ((spec_FormatInt.f kj3 ((rd_T30 l0 x4_1).f2)).bind fun t107 => (if ((((x3_1 ++ (⟨#[32]⟩ : ByteArray)) ++ ((⟨#[97, 98, 99, 100, 101]⟩ : ByteArray).extract (((rd_T30 l0 x4_1).f0) : Int).toNat ((wrap64 (((rd_T30 l0 x4_1).f0) + 1)) : Int).toNat)) ++ t106) ++ (⟨#[44]⟩ : ByteArray)).size + t107.size ≤ 9223372036854775807 then (spec_FormatDiagram.l0 kj3 l0 (((((x3_1 ++ (⟨#[32]⟩ : ByteArray)) ++ ((⟨#[97, 98, 99, 100, 101]⟩ : ByteArray).extract (((rd_T30 l0 x4_1).f0) : Int).toNat ((wrap64 (((rd_T30 l0 x4_1).f0) + 1)) : Int).toNat)) ++ t106) ++ (⟨#[44]⟩ : ByteArray)) ++ t107) (wrap64 (x4_1 + 1))) else (none))) else (none)) else (none))) else (none)) else (none)) else (none)) else (none)) else (none)) else (if 0 ≤ ((rd_T30 l0 x4_1).f0) then (if ((rd_T30 l0 x4_1).f0) ≤ (wrap64 (((rd_T30 l0 x4_1).f0) + 1)) then (if (wrap64 (((rd_T30 l0 x4_1).f0) + 1)) ≤ 5 then (if x3_1.size + ((⟨#[97, 98, 99, 100, 101]⟩ : ByteArray).extract (((rd_T30 l0 x4_1).f0) : Int).toNat ((wrap64 (((rd_T30 l0 x4_1).f0) + 1)) : Int).toNat).size ≤ 9223372036854775807 then ((spec_FormatInt.f kj3 ((rd_T30 l0 x4_1).f1)).bind fun t108 => (if (x3_1 ++ ((⟨#[97, 98, 99, 100, 101]⟩ : ByteArray).extract (((rd_T30 l0 x4_1).f0) : Int).toNat ((wrap64 (((rd_T30 l0 x4_1).f0) + 1)) : Int).toNat)).size + t108.size ≤ 9223372036854775807 then (if ((x3_1 ++ ((⟨#[97, 98, 99, 100, 101]⟩ : ByteArray).extract (((rd_T30 l0 x4_1).f0) : Int).toNat ((wrap64 (((rd_T30 l0 x4_1).f0) + 1)) : Int).toNat)) ++ t108).size + 1 ≤ 9223372036854775807 then ((spec_FormatInt.f kj3 ((rd_T30 l0 x4_1).f2)).bind fun t109 => (if (((x3_1 ++ ((⟨#[97, 98, 99, 100, 101]⟩ : ByteArray).extract (((rd_T30 l0 x4_1).f0) : Int).toNat ((wrap64 (((rd_T30 l0 x4_1).f0) + 1)) : Int).toNat)) ++ t108) ++ (⟨#[44]⟩ : ByteArray)).size + t109.size ≤ 9223372036854775807 then (spec_FormatDiagram.l0 kj3 l0 ((((x3_1 ++ ((⟨#[97, 98, 99, 100, 101]⟩ : ByteArray).extract (((rd_T30 l0 x4_1).f0) : Int).toNat ((wrap64 (((rd_T30 l0 x4_1).f0) + 1)) : Int).toNat)) ++ t108) ++ (⟨#[44]⟩ : ByteArray)) ++ t109) (wrap64 (x4_1 + 1))) else (none))) else (none)) else (none))) else (none)) else (none)) else (none)) else (none))) = some r := by rw [if_neg (show ¬ (false = true) by decide)] at H; exact H
                clear H
                have H := H1
                clear H1
                by_cases c17 : x4_1 > 0
                · rw [if_pos c17] at H
                  have c17b0 : decide (0 < x4_1) = true := decide_eq_true c17
                  clear c17
                  by_cases c18 : x3_1.size + 1 ≤ 9223372036854775807
                  · rw [if_pos c18] at H
                    have c18b0 := eq_true c18
                    have c18b1 : decide (x3_1.size + 1 ≤ 9223372036854775807) = true := decide_eq_true c18
                    try have c18b2 : (9223372036854775807 < x3_1.size + 1) = False := eq_false (Nat.not_lt.2 c18)
                    by_cases c19 : 0 ≤ ((rd_T30 l0 x4_1).f0)
                    · rw [if_pos c19] at H
                      have c19b0 := eq_true c19
                      have c19b1 : decide (0 ≤ ((rd_T30 l0 x4_1).f0)) = true := decide_eq_true c19
                      clear c19
                      by_cases c20 : ((rd_T30 l0 x4_1).f0) ≤ (wrap64 (((rd_T30 l0 x4_1).f0) + 1))
                      · rw [if_pos c20] at H
                        have c20b0 := eq_true c20
                        have c20b1 : decide (((rd_T30 l0 x4_1).f0) ≤ (wrap64 (((rd_T30 l0 x4_1).f0) + 1))) = true := decide_eq_true c20
                        by_cases c21 : (wrap64 (((rd_T30 l0 x4_1).f0) + 1)) ≤ 5
                        · rw [if_pos c21] at H
                          have c21b0 := eq_true c21
                          have c21b1 : decide ((wrap64 (((rd_T30 l0 x4_1).f0) + 1)) ≤ 5) = true := decide_eq_true c21
                          by_cases c22 : (x3_1 ++ (⟨#[32]⟩ : ByteArray)).size + ((⟨#[97, 98, 99, 100, 101]⟩ : ByteArray).extract (((rd_T30 l0 x4_1).f0) : Int).toNat ((wrap64 (((rd_T30 l0 x4_1).f0) + 1)) : Int).toNat).size ≤ 9223372036854775807
                          · rw [if_pos c22] at H
                            have c22b0 := eq_true c22
                            have c22b1 : decide ((x3_1 ++ (⟨#[32]⟩ : ByteArray)).size + ((⟨#[97, 98, 99, 100, 101]⟩ : ByteArray).extract (((rd_T30 l0 x4_1).f0) : Int).toNat ((wrap64 (((rd_T30 l0 x4_1).f0) + 1)) : Int).toNat).size ≤ 9223372036854775807) = true := decide_eq_true c22
                            try have c22b2 : (9223372036854775807 < (x3_1 ++ (⟨#[32]⟩ : ByteArray)).size + ((⟨#[97, 98, 99, 100, 101]⟩ : ByteArray).extract (((rd_T30 l0 x4_1).f0) : Int).toNat ((wrap64 (((rd_T30 l0 x4_1).f0) + 1)) : Int).toNat).size) = False := eq_false (Nat.not_lt.2 c22)
                            replace H := Option.bind_eq_some_iff.mp H
                            obtain ⟨t106, A230, H⟩ := H
                            replace H : (if ((x3_1 ++ (⟨#[32]⟩ : ByteArray)) ++ ((⟨#[97, 98, 99, 100, 101]⟩ : ByteArray).extract (((rd_T30 l0 x4_1).f0) : Int).toNat ((wrap64 (((rd_T30 l0 x4_1).f0) + 1)) : Int).toNat)).size + t106.size ≤ 9223372036854775807 then (if (((x3_1 ++ (⟨#[32]⟩ : ByteArray)) ++ ((⟨#[97, 98, 99, 100, 101]⟩ : ByteArray).extract (((rd_T30 l0 x4_1).f0) : Int).toNat ((wrap64 (((rd_T30 l0 x4_1).f0) + 1)) : Int).toNat)) ++ t106).size + 1 ≤ 9223372036854775807 then ((spec_FormatInt.f kj3 ((rd_T30 l0 x4_1).f2)).bind fun t107 => (if ((((x3_1 ++ (⟨#[32]⟩ : ByteArray)) ++ ((⟨#[97, 98, 99, 100, 101]⟩ : ByteArray).extract (((rd_T30 l0 x4_1).f0) : Int).toNat ((wrap64 (((rd_T30 l0 x4_1).f0) + 1)) : Int).toNat)) ++ t106) ++ (⟨#[44]⟩ : ByteArray)).size + t107.size ≤ 9223372036854775807 then (spec_FormatDiagram.l0 kj3 l0 (((((x3_1 ++ (⟨#[32]⟩ : ByteArray)) ++ ((⟨#[97, 98, 99, 100, 101]⟩ : ByteArray).extract (((rd_T30 l0 x4_1).f0) : Int).toNat ((wrap64 (((rd_T30 l0 x4_1).f0) + 1)) : Int).toNat)) ++ t106) ++ (⟨#[44]⟩ : ByteArray)) ++ t107) (wrap64 (x4_1 + 1))) else (none))) else (none)) else (none)) = some r := H
                            have A23 := Aside0.mk A230
                            clear A230
                            by_cases c24 : ((x3_1 ++ (⟨#[32]⟩ : ByteArray)) ++ ((⟨#[97, 98, 99, 100, 101]⟩ : ByteArray).extract (((rd_T30 l0 x4_1).f0) : Int).toNat ((wrap64 (((rd_T30 l0 x4_1).f0) + 1)) : Int).toNat)).size + t106.size ≤ 9223372036854775807
                            · rw [if_pos c24] at H
                              have c24b0 := eq_true c24
                              have c24b1 : decide (((x3_1 ++ (⟨#[32]⟩ : ByteArray)) ++ ((⟨#[97, 98, 99, 100, 101]⟩ : ByteArray).extract (((rd_T30 l0 x4_1).f0) : Int).toNat ((wrap64 (((rd_T30 l0 x4_1).f0) + 1)) : Int).toNat)).size + t106.size ≤ 9223372036854775807) = true := decide_eq_true c24
                              try have c24b2 : (9223372036854775807 < ((x3_1 ++ (⟨#[32]⟩ : ByteArray)) ++ ((⟨#[97, 98, 99, 100, 101]⟩ : ByteArray).extract (((rd_T30 l0 x4_1).f0) : Int).toNat ((wrap64 (((rd_T30 l0 x4_1).f0) + 1)) : Int).toNat)).size + t106.size) = False := eq_false (Nat.not_lt.2 c24)
                              by_cases c25 : (((x3_1 ++ (⟨#[32]⟩ : ByteArray)) ++ ((⟨#[97, 98, 99, 100, 101]⟩ : ByteArray).extract (((rd_T30 l0 x4_1).f0) : Int).toNat ((wrap64 (((rd_T30 l0 x4_1).f0) + 1)) : Int).toNat)) ++ t106).size + 1 ≤ 9223372036854775807
                              · rw [if_pos c25] at H
                                have c25b0 := eq_true c25
                                have c25b1 : decide ((((x3_1 ++ (⟨#[32]⟩ : ByteArray)) ++ ((⟨#[97, 98, 99, 100, 101]⟩ : ByteArray).extract (((rd_T30 l0 x4_1).f0) : Int).toNat ((wrap64 (((rd_T30 l0 x4_1).f0) + 1)) : Int).toNat)) ++ t106).size + 1 ≤ 9223372036854775807) = true := decide_eq_true c25
                                try have c25b2 : (9223372036854775807 < (((x3_1 ++ (⟨#[32]⟩ : ByteArray)) ++ ((⟨#[97, 98, 99, 100, 101]⟩ : ByteArray).extract (((rd_T30 l0 x4_1).f0) : Int).toNat ((wrap64 (((rd_T30 l0 x4_1).f0) + 1)) : Int).toNat)) ++ t106).size + 1) = False := eq_false (Nat.not_lt.2 c25)
                                replace H := Option.bind_eq_some_iff.mp H
                                obtain ⟨t107, A260, H⟩ := H
                                replace H : (if ((((x3_1 ++ (⟨#[32]⟩ : ByteArray)) ++ ((⟨#[97, 98, 99, 100, 101]⟩ : ByteArray).extract (((rd_T30 l0 x4_1).f0) : Int).toNat ((wrap64 (((rd_T30 l0 x4_1).f0) + 1)) : Int).toNat)) ++ t106) ++ (⟨#[44]⟩ : ByteArray)).size + t107.size ≤ 9223372036854775807 then (spec_FormatDiagram.l0 kj3 l0 (((((x3_1 ++ (⟨#[32]⟩ : ByteArray)) ++ ((⟨#[97, 98, 99, 100, 101]⟩ : ByteArray).extract (((rd_T30 l0 x4_1).f0) : Int).toNat ((wrap64 (((rd_T30 l0 x4_1).f0) + 1)) : Int).toNat)) ++ t106) ++ (⟨#[44]⟩ : ByteArray)) ++ t107) (wrap64 (x4_1 + 1))) else (none)) = some r := H
                                have A26 := Aside0.mk A260
                                clear A260
                                by_cases c27 : ((((x3_1 ++ (⟨#[32]⟩ : ByteArray)) ++ ((⟨#[97, 98, 99, 100, 101]⟩ : ByteArray).extract (((rd_T30 l0 x4_1).f0) : Int).toNat ((wrap64 (((rd_T30 l0 x4_1).f0) + 1)) : Int).toNat)) ++ t106) ++ (⟨#[44]⟩ : ByteArray)).size + t107.size ≤ 9223372036854775807
                                · rw [if_pos c27] at H
                                  have c27b0 := eq_true c27
                                  have c27b1 : decide (((((x3_1 ++ (⟨#[32]⟩ : ByteArray)) ++ ((⟨#[97, 98, 99, 100, 101]⟩ : ByteArray).extract (((rd_T30 l0 x4_1).f0) : Int).toNat ((wrap64 (((rd_T30 l0 x4_1).f0) + 1)) : Int).toNat)) ++ t106) ++ (⟨#[44]⟩ : ByteArray)).size + t107.size ≤ 9223372036854775807) = true := decide_eq_true c27
                                  try have c27b2 : (9223372036854775807 < ((((x3_1 ++ (⟨#[32]⟩ : ByteArray)) ++ ((⟨#[97, 98, 99, 100, 101]⟩ : ByteArray).extract (((rd_T30 l0 x4_1).f0) : Int).toNat ((wrap64 (((rd_T30 l0 x4_1).f0) + 1)) : Int).toNat)) ++ t106) ++ (⟨#[44]⟩ : ByteArray)).size + t107.size) = False := eq_false (Nat.not_lt.2 c27)
                                  have H' := Aside0.mk H
                                  clear H
                                  try go_wp2
                                  have n0_ := Aside0.mk (blk_drew BK102.out)
                                  have n1_ := Aside0.mk (below_drew1 HB.out)
                                  clear BK102
                                  clear HB
                                  have BK102 := n0_
                                  have HB := n1_
                                  clear n0_ n1_
                                  refine start_ (n := 18) (S := fun w' => w'.cell? ⟨gb102, 0, none⟩ = some (.int .i64 ((rd_T30 l0 x4_1).f0)) ∧ w'.cell? ⟨gb102, 1, none⟩ = some (.int .i64 ((rd_T30 l0 x4_1).f1)) ∧ w'.cell? ⟨gb102, 2, none⟩ = some (.int .i64 ((rd_T30 l0 x4_1).f2))) (ds := []) #[false, false, false, false, false, false, false, false, false, false, false, false, false, false, false, false, false, false] (by kernel_rfl) rfl rfl ⟨(blk_cell BK102.out 0).trans rfl, (blk_cell BK102.out 1).trans rfl, (blk_cell BK102.out 2).trans rfl⟩ (fun hHeld => ?_); refine with_tabW spec_FormatDiagram.tab10 spec_FormatDiagram.bits10 (fun HT_ HW_ => ?_)
                                  generalize wc.drew = w28 at BK102 HB hHeld ⊢
                                  refine pure_ (i := 0) (N := some 41) (v := ?_) (a' := ?_) #[true, false, false, false, false, false, false, false, false, false, false, false, false, false, false, false, false, false] rfl rfl (any_of HT_.out (by kernel_rfl)) (fun _ _ _ h => h) (Or.inl ⟨by rfl, ?_⟩) ?_ ?_
                                  rotate_left
                                  · intro w'
                                    go_simp
                                    first | done | with_reducible rfl | (rw [if_neg (by have z1_ : (⟨#[32]⟩ : ByteArray).size = 1 := rfl; have z2_ : (⟨#[44]⟩ : ByteArray).size = 1 := rfl; have z3_ : (⟨#[97, 98, 99, 100, 101]⟩ : ByteArray).size = 5 := rfl; simp only [decide_eq_true_eq, ByteArray.size_extract, ByteArray.size_append] at *; omega)])
                                  rotate_left
                                  · simp only [Act.put, List.setIfInBounds_toArray, List.set_cons_zero, List.set_cons_succ, i64_w, i32_w]
                                    rfl
                                  refine pure_ (i := 1) (N := some 42) (v := ?_) (a' := ?_) #[true, true, false, false, false, false, false, false, false, false, false, false, false, false, false, false, false, false] rfl rfl (any_of HT_.out (by kernel_rfl)) (fun _ _ _ h => h) (Or.inl ⟨by rfl, ?_⟩) ?_ ?_
                                  rotate_left
                                  · intro w'
                                    go_simp
                                    first | done | with_reducible rfl | (rw [if_neg (by have z1_ : (⟨#[32]⟩ : ByteArray).size = 1 := rfl; have z2_ : (⟨#[44]⟩ : ByteArray).size = 1 := rfl; have z3_ : (⟨#[97, 98, 99, 100, 101]⟩ : ByteArray).size = 5 := rfl; simp only [decide_eq_true_eq, ByteArray.size_extract, ByteArray.size_append] at *; omega)])
                                  rotate_left
                                  · simp only [Act.put, List.setIfInBounds_toArray, List.set_cons_zero, List.set_cons_succ, i64_w, i32_w]
                                    rfl
                                  refine pure_ (i := 3) (N := some 44) (v := ?_) (a' := ?_) #[true, true, false, true, false, false, false, false, false, false, false, false, false, false, false, false, false, false] rfl rfl (any_of HT_.out (by kernel_rfl)) (fun _ _ _ h => h) (Or.inl ⟨by rfl, ?_⟩) ?_ ?_
                                  rotate_left
                                  · intro w'
                                    go_simp
                                    first | done | with_reducible rfl | (rw [if_neg (by have z1_ : (⟨#[32]⟩ : ByteArray).size = 1 := rfl; have z2_ : (⟨#[44]⟩ : ByteArray).size = 1 := rfl; have z3_ : (⟨#[97, 98, 99, 100, 101]⟩ : ByteArray).size = 5 := rfl; simp only [decide_eq_true_eq, ByteArray.size_extract, ByteArray.size_append] at *; omega)])
                                  rotate_left
                                  · simp only [Act.put, List.setIfInBounds_toArray, List.set_cons_zero, List.set_cons_succ, i64_w, i32_w]
                                    rfl
                                  refine pure_ (i := 8) (N := some 49) (v := ?_) (a' := ?_) #[true, true, false, true, false, false, false, false, true, false, false, false, false, false, false, false, false, false] rfl rfl (any_of HT_.out (by kernel_rfl)) (fun _ _ _ h => h) (Or.inl ⟨by rfl, ?_⟩) ?_ ?_
                                  rotate_left
                                  · intro w'
                                    go_simp
                                    first | done | with_reducible rfl | (rw [if_neg (by have z1_ : (⟨#[32]⟩ : ByteArray).size = 1 := rfl; have z2_ : (⟨#[44]⟩ : ByteArray).size = 1 := rfl; have z3_ : (⟨#[97, 98, 99, 100, 101]⟩ : ByteArray).size = 5 := rfl; simp only [decide_eq_true_eq, ByteArray.size_extract, ByteArray.size_append] at *; omega)])
                                  rotate_left
                                  · simp only [Act.put, List.setIfInBounds_toArray, List.set_cons_zero, List.set_cons_succ, i64_w, i32_w]
                                    rfl
                                  refine pure_ (i := 13) (N := some 54) (v := ?_) (a' := ?_) #[true, true, false, true, false, false, false, false, true, false, false, false, false, true, false, false, false, false] rfl rfl (any_of HT_.out (by kernel_rfl)) (fun _ _ _ h => h) (Or.inl ⟨by rfl, ?_⟩) ?_ ?_
                                  rotate_left
                                  · intro w'
                                    go_simp
                                    first | done | with_reducible rfl | (rw [if_neg (by have z1_ : (⟨#[32]⟩ : ByteArray).size = 1 := rfl; have z2_ : (⟨#[44]⟩ : ByteArray).size = 1 := rfl; have z3_ : (⟨#[97, 98, 99, 100, 101]⟩ : ByteArray).size = 5 := rfl; simp only [decide_eq_true_eq, ByteArray.size_extract, ByteArray.size_append] at *; omega)])
                                  rotate_left
                                  · simp only [Act.put, List.setIfInBounds_toArray, List.set_cons_zero, List.set_cons_succ, i64_w, i32_w]
                                    rfl
                                  refine take_ (i := 2) (N := some 43) (v := ?_) (a' := ?_) #[true, true, true, true, false, false, false, false, true, false, false, false, false, true, false, false, false, false] rfl rfl (take_ofW HT_.out HW_.out (by kernel_rfl)) (fun _ _ _ h => h) (Or.inl ⟨by rfl, ?_⟩) hHeld ?_ ?_
                                  rotate_left
                                  · rintro w' ⟨s0, s1, s2⟩
                                    go_simp
                                    first | done | with_reducible rfl | (rw [if_neg (by have z1_ : (⟨#[32]⟩ : ByteArray).size = 1 := rfl; have z2_ : (⟨#[44]⟩ : ByteArray).size = 1 := rfl; have z3_ : (⟨#[97, 98, 99, 100, 101]⟩ : ByteArray).size = 5 := rfl; simp only [decide_eq_true_eq, ByteArray.size_extract, ByteArray.size_append] at *; omega)])
                                  rotate_left
                                  · simp only [Act.put, List.setIfInBounds_toArray, List.set_cons_zero, List.set_cons_succ, i64_w, i32_w]
                                    rfl
                                  refine take_ (i := 4) (N := some 45) (v := ?_) (a' := ?_) #[true, true, true, true, true, false, false, false, true, false, false, false, false, true, false, false, false, false] rfl rfl (take_ofW HT_.out HW_.out (by kernel_rfl)) (fun _ _ _ h => h) (Or.inl ⟨by rfl, ?_⟩) hHeld ?_ ?_
                                  rotate_left
                                  · rintro w' ⟨s0, s1, s2⟩
                                    go_simp
                                    first | done | with_reducible rfl | (rw [if_neg (by have z1_ : (⟨#[32]⟩ : ByteArray).size = 1 := rfl; have z2_ : (⟨#[44]⟩ : ByteArray).size = 1 := rfl; have z3_ : (⟨#[97, 98, 99, 100, 101]⟩ : ByteArray).size = 5 := rfl; simp only [decide_eq_true_eq, ByteArray.size_extract, ByteArray.size_append] at *; omega)])
                                  rotate_left
                                  · simp only [Act.put, List.setIfInBounds_toArray, List.set_cons_zero, List.set_cons_succ, i64_w, i32_w]
                                    rfl
                                  refine pure_ (i := 5) (N := some 46) (v := ?_) (a' := ?_) #[true, true, true, true, true, true, false, false, true, false, false, false, false, true, false, false, false, false] rfl rfl (any_of HT_.out (by kernel_rfl)) (fun _ _ _ h => h) (Or.inl ⟨by rfl, ?_⟩) ?_ ?_
                                  rotate_left
                                  · intro w'
                                    go_simp
                                    first | done | with_reducible rfl | (rw [if_neg (by have z1_ : (⟨#[32]⟩ : ByteArray).size = 1 := rfl; have z2_ : (⟨#[44]⟩ : ByteArray).size = 1 := rfl; have z3_ : (⟨#[97, 98, 99, 100, 101]⟩ : ByteArray).size = 5 := rfl; simp only [decide_eq_true_eq, ByteArray.size_extract, ByteArray.size_append] at *; omega)])
                                  rotate_left
                                  · simp only [Act.put, List.setIfInBounds_toArray, List.set_cons_zero, List.set_cons_succ, i64_w, i32_w]
                                    rfl
                                  refine pure_ (i := 6) (N := some 47) (v := ?_) (a' := ?_) #[true, true, true, true, true, true, true, false, true, false, false, false, false, true, false, false, false, false] rfl rfl (any_of HT_.out (by kernel_rfl)) (fun _ _ _ h => h) (Or.inl ⟨by rfl, ?_⟩) ?_ ?_
                                  rotate_left
                                  · intro w'
                                    go_simp
                                    first | done | with_reducible rfl | (rw [if_neg (by have z1_ : (⟨#[32]⟩ : ByteArray).size = 1 := rfl; have z2_ : (⟨#[44]⟩ : ByteArray).size = 1 := rfl; have z3_ : (⟨#[97, 98, 99, 100, 101]⟩ : ByteArray).size = 5 := rfl; simp only [decide_eq_true_eq, ByteArray.size_extract, ByteArray.size_append] at *; omega)])
                                  rotate_left
                                  · simp only [Act.put, List.setIfInBounds_toArray, List.set_cons_zero, List.set_cons_succ, i64_w, i32_w]
                                    rfl
                                  refine pure_ (i := 7) (N := some 48) (v := ?_) (a' := ?_) #[true, true, true, true, true, true, true, true, true, false, false, false, false, true, false, false, false, false] rfl rfl (any_of HT_.out (by kernel_rfl)) (fun _ _ _ h => h) (Or.inl ⟨by rfl, ?_⟩) ?_ ?_
                                  rotate_left
                                  · intro w'
                                    go_simp
                                    first | done | with_reducible rfl | (rw [if_neg (by have z1_ : (⟨#[32]⟩ : ByteArray).size = 1 := rfl; have z2_ : (⟨#[44]⟩ : ByteArray).size = 1 := rfl; have z3_ : (⟨#[97, 98, 99, 100, 101]⟩ : ByteArray).size = 5 := rfl; simp only [decide_eq_true_eq, ByteArray.size_extract, ByteArray.size_append] at *; omega)])
                                  rotate_left
                                  · simp only [Act.put, List.setIfInBounds_toArray, List.set_cons_zero, List.set_cons_succ, i64_w, i32_w]
                                    rfl
                                  refine take_ (i := 9) (N := some 50) (v := ?_) (a' := ?_) #[true, true, true, true, true, true, true, true, true, true, false, false, false, true, false, false, false, false] rfl rfl (take_ofW HT_.out HW_.out (by kernel_rfl)) (fun _ _ _ h => h) (Or.inl ⟨by rfl, ?_⟩) hHeld ?_ ?_
                                  rotate_left
                                  · rintro w' ⟨s0, s1, s2⟩
                                    go_simp
                                    first | done | with_reducible rfl | (rw [if_neg (by have z1_ : (⟨#[32]⟩ : ByteArray).size = 1 := rfl; have z2_ : (⟨#[44]⟩ : ByteArray).size = 1 := rfl; have z3_ : (⟨#[97, 98, 99, 100, 101]⟩ : ByteArray).size = 5 := rfl; simp only [decide_eq_true_eq, ByteArray.size_extract, ByteArray.size_append] at *; omega)])
                                  rotate_left
                                  · simp only [Act.put, List.setIfInBounds_toArray, List.set_cons_zero, List.set_cons_succ, i64_w, i32_w]
                                    rfl
                                  refine take_ (i := 14) (N := some 55) (v := ?_) (a' := ?_) #[true, true, true, true, true, true, true, true, true, true, false, false, false, true, true, false, false, false] rfl rfl (take_ofW HT_.out HW_.out (by kernel_rfl)) (fun _ _ _ h => h) (Or.inl ⟨by rfl, ?_⟩) hHeld ?_ ?_
                                  rotate_left
                                  · rintro w' ⟨s0, s1, s2⟩
                                    go_simp
                                    first | done | with_reducible rfl | (rw [if_neg (by have z1_ : (⟨#[32]⟩ : ByteArray).size = 1 := rfl; have z2_ : (⟨#[44]⟩ : ByteArray).size = 1 := rfl; have z3_ : (⟨#[97, 98, 99, 100, 101]⟩ : ByteArray).size = 5 := rfl; simp only [decide_eq_true_eq, ByteArray.size_extract, ByteArray.size_append] at *; omega)])
                                  rotate_left
                                  · simp only [Act.put, List.setIfInBounds_toArray, List.set_cons_zero, List.set_cons_succ, i64_w, i32_w]
                                    rfl
                                  refine one_ (i := 10) (N := some 51) #[true, true, true, true, true, true, true, true, true, true, true, false, false, true, true, false, false, false] rfl rfl (one_of HT_.out (by kernel_rfl)) (by decide) (fun K hK => ?_)
                                  refine goes_ Tryd.func10 (by kernel_rfl) rfl #[.int .i64 ((rd_T30 l0 x4_1).f1)] (by rfl) rfl rfl (by (try simp only [List.map_toArray, List.map_cons, List.map_nil]); first | done | rfl | (simp only [List.length_drop, List.length_take]; rfl)) ?_
                                  with_reducible refine (spec_FormatInt.calls kj3 ((rd_T30 l0 x4_1).f1) t106 _ A23.out).mono ?_
                                  rintro e w29 ⟨rfl, hb⟩
                                  refine ⟨_, rfl, ?_⟩
                                  have n0_ := Aside0.mk (blk_below (g := gb102) (o := .cells #[.int .i64 ((rd_T30 l0 x4_1).f0), .int .i64 ((rd_T30 l0 x4_1).f1), .int .i64 ((rd_T30 l0 x4_1).f2)] 30 (0, 0)) (by (with_reducible repeat (first | refine blk_drewN ?_ _ | refine blk_drew ?_ | refine blk_alloc ?_ _)); exact BK102.out) hb)
                                  have n1_ := Aside0.mk (below_step (by repeat (first | (with_reducible first | exact HB.out | apply below_alloc | apply pw_below_drewN | apply below_drew1 | refine below_set ?_ GE102.out) | exact HB.out)) hb)
                                  clear BK102
                                  clear HB
                                  have BK102 := n0_
                                  have HB := n1_
                                  clear n0_ n1_
                                  (try clear hb)
                                  (try clear hb2)
                                  (try clear hk)
                                  (try clear hi)
                                  refine hK.out _ _ ⟨(blk_cell BK102.out 0).trans rfl, (blk_cell BK102.out 1).trans rfl, (blk_cell BK102.out 2).trans rfl⟩ (fun hHeld => ?_)
                                  clear hK K
                                  refine norm_ (a' := ?_) ?_ ?_
                                  rotate_left
                                  · show Act.put _ (some 51) _ = _
                                    simp only [Act.put, List.setIfInBounds_toArray, List.set_cons_zero, List.set_cons_succ, i64_w, i32_w]
                                    rfl
                                  refine pure_ (i := 11) (N := some 52) (v := ?_) (a' := ?_) #[true, true, true, true, true, true, true, true, true, true, true, true, false, true, true, false, false, false] rfl rfl (any_of HT_.out (by kernel_rfl)) (fun _ _ _ h => h) (Or.inl ⟨by rfl, ?_⟩) ?_ ?_
                                  rotate_left
                                  · intro w'
                                    go_simp
                                    first | done | with_reducible rfl | (rw [if_neg (by have z1_ : (⟨#[32]⟩ : ByteArray).size = 1 := rfl; have z2_ : (⟨#[44]⟩ : ByteArray).size = 1 := rfl; have z3_ : (⟨#[97, 98, 99, 100, 101]⟩ : ByteArray).size = 5 := rfl; simp only [decide_eq_true_eq, ByteArray.size_extract, ByteArray.size_append] at *; omega)])
                                  rotate_left
                                  · simp only [Act.put, List.setIfInBounds_toArray, List.set_cons_zero, List.set_cons_succ, i64_w, i32_w]
                                    rfl
                                  refine pure_ (i := 12) (N := some 53) (v := ?_) (a' := ?_) #[true, true, true, true, true, true, true, true, true, true, true, true, true, true, true, false, false, false] rfl rfl (any_of HT_.out (by kernel_rfl)) (fun _ _ _ h => h) (Or.inl ⟨by rfl, ?_⟩) ?_ ?_
                                  rotate_left
                                  · intro w'
                                    go_simp
                                    first | done | with_reducible rfl | (rw [if_neg (by have z1_ : (⟨#[32]⟩ : ByteArray).size = 1 := rfl; have z2_ : (⟨#[44]⟩ : ByteArray).size = 1 := rfl; have z3_ : (⟨#[97, 98, 99, 100, 101]⟩ : ByteArray).size = 5 := rfl; simp only [decide_eq_true_eq, ByteArray.size_extract, ByteArray.size_append] at *; omega)])
                                  rotate_left
                                  · simp only [Act.put, List.setIfInBounds_toArray, List.set_cons_zero, List.set_cons_succ, i64_w, i32_w]
                                    rfl
                                  refine one_ (i := 15) (N := some 56) #[true, true, true, true, true, true, true, true, true, true, true, true, true, true, true, true, false, false] rfl rfl (one_of HT_.out (by kernel_rfl)) (by decide) (fun K hK => ?_)
                                  refine goes_ Tryd.func10 (by kernel_rfl) rfl #[.int .i64 ((rd_T30 l0 x4_1).f2)] (by rfl) rfl rfl (by (try simp only [List.map_toArray, List.map_cons, List.map_nil]); first | done | rfl | (simp only [List.length_drop, List.length_take]; rfl)) ?_
                                  with_reducible refine (spec_FormatInt.calls kj3 ((rd_T30 l0 x4_1).f2) t107 _ A26.out).mono ?_
                                  rintro e w30 ⟨rfl, hb⟩
                                  refine ⟨_, rfl, ?_⟩
                                  have n0_ := Aside0.mk (blk_below (g := gb102) (o := .cells #[.int .i64 ((rd_T30 l0 x4_1).f0), .int .i64 ((rd_T30 l0 x4_1).f1), .int .i64 ((rd_T30 l0 x4_1).f2)] 30 (0, 0)) (by (with_reducible repeat (first | refine blk_drewN ?_ _ | refine blk_drew ?_ | refine blk_alloc ?_ _)); exact BK102.out) hb)
                                  have n1_ := Aside0.mk (below_step (by repeat (first | (with_reducible first | exact HB.out | apply below_alloc | apply pw_below_drewN | apply below_drew1 | refine below_set ?_ GE102.out) | exact HB.out)) hb)
                                  clear BK102
                                  clear HB
                                  have BK102 := n0_
                                  have HB := n1_
                                  clear n0_ n1_
                                  (try clear hb)
                                  (try clear hb2)
                                  (try clear hk)
                                  (try clear hi)
                                  refine hK.out _ _ ⟨(blk_cell BK102.out 0).trans rfl, (blk_cell BK102.out 1).trans rfl, (blk_cell BK102.out 2).trans rfl⟩ (fun hHeld => ?_)
                                  clear hK K
                                  refine norm_ (a' := ?_) ?_ ?_
                                  rotate_left
                                  · show Act.put _ (some 56) _ = _
                                    simp only [Act.put, List.setIfInBounds_toArray, List.set_cons_zero, List.set_cons_succ, i64_w, i32_w]
                                    rfl
                                  refine pure_ (i := 16) (N := some 57) (v := ?_) (a' := ?_) #[true, true, true, true, true, true, true, true, true, true, true, true, true, true, true, true, true, false] rfl rfl (any_of HT_.out (by kernel_rfl)) (fun _ _ _ h => h) (Or.inl ⟨by rfl, ?_⟩) ?_ ?_
                                  rotate_left
                                  · intro w'
                                    go_simp
                                    first | done | with_reducible rfl | (rw [if_neg (by have z1_ : (⟨#[32]⟩ : ByteArray).size = 1 := rfl; have z2_ : (⟨#[44]⟩ : ByteArray).size = 1 := rfl; have z3_ : (⟨#[97, 98, 99, 100, 101]⟩ : ByteArray).size = 5 := rfl; simp only [decide_eq_true_eq, ByteArray.size_extract, ByteArray.size_append] at *; omega)])
                                  rotate_left
                                  · simp only [Act.put, List.setIfInBounds_toArray, List.set_cons_zero, List.set_cons_succ, i64_w, i32_w]
                                    rfl
                                  refine pure_ (i := 17) (N := some 3) (v := ?_) (a' := ?_) #[true, true, true, true, true, true, true, true, true, true, true, true, true, true, true, true, true, true] rfl rfl (any_of HT_.out (by kernel_rfl)) (fun _ _ _ h => h) (Or.inl ⟨by rfl, ?_⟩) ?_ ?_
                                  rotate_left
                                  · intro w'
                                    go_simp
                                    first | done | with_reducible rfl | (rw [if_neg (by have z1_ : (⟨#[32]⟩ : ByteArray).size = 1 := rfl; have z2_ : (⟨#[44]⟩ : ByteArray).size = 1 := rfl; have z3_ : (⟨#[97, 98, 99, 100, 101]⟩ : ByteArray).size = 5 := rfl; simp only [decide_eq_true_eq, ByteArray.size_extract, ByteArray.size_append] at *; omega)])
                                  rotate_left
                                  · simp only [Act.put, List.setIfInBounds_toArray, List.set_cons_zero, List.set_cons_succ, i64_w, i32_w]
                                    rfl
                                  refine done_ (done_of HT_.out (by kernel_rfl)) ?_
                                  try go_wp2
                                  go_roundg kj3
                                  case measure => have := HK1.out; have := HJ3.out; omega
                                  case rel => exact ⟨(((((x3_1 ++ (⟨#[32]⟩ : ByteArray)) ++ ((⟨#[97, 98, 99, 100, 101]⟩ : ByteArray).extract (((rd_T30 l0 x4_1).f0) : Int).toNat ((wrap64 (((rd_T30 l0 x4_1).f0) + 1)) : Int).toNat)) ++ t106) ++ (⟨#[44]⟩ : ByteArray)) ++ t107), (wrap64 (x4_1 + 1)), (by first | rfl | (simp; done) | (simp [*]; done)), (by first | rfl | (simp; done) | (simp [*]; done)), H', ⟨by have := HK1.out; have := HJ3.out; omega⟩, ⟨by repeat (first | (with_reducible first | exact HB.out | apply below_alloc | apply pw_below_drewN | apply below_drew1 | refine below_set ?_ GE102.out) | exact HB.out)⟩⟩
                                · rw [if_neg c27] at H
                                  exact absurd H (by simp)
                              · rw [if_neg c25] at H
                                exact absurd H (by simp)
                            · rw [if_neg c24] at H
                              exact absurd H (by simp)
                          · rw [if_neg c22] at H
                            exact absurd H (by simp)
                        · rw [if_neg c21] at H
                          exact absurd H (by simp)
                      · rw [if_neg c20] at H
                        exact absurd H (by simp)
                    · rw [if_neg c19] at H
                      exact absurd H (by simp)
                  · rw [if_neg c18] at H
                    exact absurd H (by simp)
                · rw [if_neg c17] at H
                  have c17b0 : decide (0 < x4_1) = false := decide_eq_false c17
                  clear c17
                  by_cases c31 : 0 ≤ ((rd_T30 l0 x4_1).f0)
                  · rw [if_pos c31] at H
                    have c31b0 := eq_true c31
                    have c31b1 : decide (0 ≤ ((rd_T30 l0 x4_1).f0)) = true := decide_eq_true c31
                    clear c31
                    by_cases c32 : ((rd_T30 l0 x4_1).f0) ≤ (wrap64 (((rd_T30 l0 x4_1).f0) + 1))
                    · rw [if_pos c32] at H
                      have c32b0 := eq_true c32
                      have c32b1 : decide (((rd_T30 l0 x4_1).f0) ≤ (wrap64 (((rd_T30 l0 x4_1).f0) + 1))) = true := decide_eq_true c32
                      by_cases c33 : (wrap64 (((rd_T30 l0 x4_1).f0) + 1)) ≤ 5
                      · rw [if_pos c33] at H
                        have c33b0 := eq_true c33
                        have c33b1 : decide ((wrap64 (((rd_T30 l0 x4_1).f0) + 1)) ≤ 5) = true := decide_eq_true c33
                        by_cases c34 : x3_1.size + ((⟨#[97, 98, 99, 100, 101]⟩ : ByteArray).extract (((rd_T30 l0 x4_1).f0) : Int).toNat ((wrap64 (((rd_T30 l0 x4_1).f0) + 1)) : Int).toNat).size ≤ 9223372036854775807
                        · rw [if_pos c34] at H
                          have c34b0 := eq_true c34
                          have c34b1 : decide (x3_1.size + ((⟨#[97, 98, 99, 100, 101]⟩ : ByteArray).extract (((rd_T30 l0 x4_1).f0) : Int).toNat ((wrap64 (((rd_T30 l0 x4_1).f0) + 1)) : Int).toNat).size ≤ 9223372036854775807) = true := decide_eq_true c34
                          try have c34b2 : (9223372036854775807 < x3_1.size + ((⟨#[97, 98, 99, 100, 101]⟩ : ByteArray).extract (((rd_T30 l0 x4_1).f0) : Int).toNat ((wrap64 (((rd_T30 l0 x4_1).f0) + 1)) : Int).toNat).size) = False := eq_false (Nat.not_lt.2 c34)
                          replace H := Option.bind_eq_some_iff.mp H
                          obtain ⟨t108, A350, H⟩ := H
                          replace H : (if (x3_1 ++ ((⟨#[97, 98, 99, 100, 101]⟩ : ByteArray).extract (((rd_T30 l0 x4_1).f0) : Int).toNat ((wrap64 (((rd_T30 l0 x4_1).f0) + 1)) : Int).toNat)).size + t108.size ≤ 9223372036854775807 then (if ((x3_1 ++ ((⟨#[97, 98, 99, 100, 101]⟩ : ByteArray).extract (((rd_T30 l0 x4_1).f0) : Int).toNat ((wrap64 (((rd_T30 l0 x4_1).f0) + 1)) : Int).toNat)) ++ t108).size + 1 ≤ 9223372036854775807 then ((spec_FormatInt.f kj3 ((rd_T30 l0 x4_1).f2)).bind fun t109 => (if (((x3_1 ++ ((⟨#[97, 98, 99, 100, 101]⟩ : ByteArray).extract (((rd_T30 l0 x4_1).f0) : Int).toNat ((wrap64 (((rd_T30 l0 x4_1).f0) + 1)) : Int).toNat)) ++ t108) ++ (⟨#[44]⟩ : ByteArray)).size + t109.size ≤ 9223372036854775807 then (spec_FormatDiagram.l0 kj3 l0 ((((x3_1 ++ ((⟨#[97, 98, 99, 100, 101]⟩ : ByteArray).extract (((rd_T30 l0 x4_1).f0) : Int).toNat ((wrap64 (((rd_T30 l0 x4_1).f0) + 1)) : Int).toNat)) ++ t108) ++ (⟨#[44]⟩ : ByteArray)) ++ t109) (wrap64 (x4_1 + 1))) else (none))) else (none)) else (none)) = some r := H
                          have A35 := Aside0.mk A350
                          clear A350
                          by_cases c36 : (x3_1 ++ ((⟨#[97, 98, 99, 100, 101]⟩ : ByteArray).extract (((rd_T30 l0 x4_1).f0) : Int).toNat ((wrap64 (((rd_T30 l0 x4_1).f0) + 1)) : Int).toNat)).size + t108.size ≤ 9223372036854775807
                          · rw [if_pos c36] at H
                            have c36b0 := eq_true c36
                            have c36b1 : decide ((x3_1 ++ ((⟨#[97, 98, 99, 100, 101]⟩ : ByteArray).extract (((rd_T30 l0 x4_1).f0) : Int).toNat ((wrap64 (((rd_T30 l0 x4_1).f0) + 1)) : Int).toNat)).size + t108.size ≤ 9223372036854775807) = true := decide_eq_true c36
                            try have c36b2 : (9223372036854775807 < (x3_1 ++ ((⟨#[97, 98, 99, 100, 101]⟩ : ByteArray).extract (((rd_T30 l0 x4_1).f0) : Int).toNat ((wrap64 (((rd_T30 l0 x4_1).f0) + 1)) : Int).toNat)).size + t108.size) = False := eq_false (Nat.not_lt.2 c36)
                            by_cases c37 : ((x3_1 ++ ((⟨#[97, 98, 99, 100, 101]⟩ : ByteArray).extract (((rd_T30 l0 x4_1).f0) : Int).toNat ((wrap64 (((rd_T30 l0 x4_1).f0) + 1)) : Int).toNat)) ++ t108).size + 1 ≤ 9223372036854775807
                            · rw [if_pos c37] at H
                              have c37b0 := eq_true c37
                              have c37b1 : decide (((x3_1 ++ ((⟨#[97, 98, 99, 100, 101]⟩ : ByteArray).extract (((rd_T30 l0 x4_1).f0) : Int).toNat ((wrap64 (((rd_T30 l0 x4_1).f0) + 1)) : Int).toNat)) ++ t108).size + 1 ≤ 9223372036854775807) = true := decide_eq_true c37
                              try have c37b2 : (9223372036854775807 < ((x3_1 ++ ((⟨#[97, 98, 99, 100, 101]⟩ : ByteArray).extract (((rd_T30 l0 x4_1).f0) : Int).toNat ((wrap64 (((rd_T30 l0 x4_1).f0) + 1)) : Int).toNat)) ++ t108).size + 1) = False := eq_false (Nat.not_lt.2 c37)
                              replace H := Option.bind_eq_some_iff.mp H
                              obtain ⟨t109, A380, H⟩ := H
                              replace H : (if (((x3_1 ++ ((⟨#[97, 98, 99, 100, 101]⟩ : ByteArray).extract (((rd_T30 l0 x4_1).f0) : Int).toNat ((wrap64 (((rd_T30 l0 x4_1).f0) + 1)) : Int).toNat)) ++ t108) ++ (⟨#[44]⟩ : ByteArray)).size + t109.size ≤ 9223372036854775807 then (spec_FormatDiagram.l0 kj3 l0 ((((x3_1 ++ ((⟨#[97, 98, 99, 100, 101]⟩ : ByteArray).extract (((rd_T30 l0 x4_1).f0) : Int).toNat ((wrap64 (((rd_T30 l0 x4_1).f0) + 1)) : Int).toNat)) ++ t108) ++ (⟨#[44]⟩ : ByteArray)) ++ t109) (wrap64 (x4_1 + 1))) else (none)) = some r := H
                              have A38 := Aside0.mk A380
                              clear A380
                              by_cases c39 : (((x3_1 ++ ((⟨#[97, 98, 99, 100, 101]⟩ : ByteArray).extract (((rd_T30 l0 x4_1).f0) : Int).toNat ((wrap64 (((rd_T30 l0 x4_1).f0) + 1)) : Int).toNat)) ++ t108) ++ (⟨#[44]⟩ : ByteArray)).size + t109.size ≤ 9223372036854775807
                              · rw [if_pos c39] at H
                                have c39b0 := eq_true c39
                                have c39b1 : decide ((((x3_1 ++ ((⟨#[97, 98, 99, 100, 101]⟩ : ByteArray).extract (((rd_T30 l0 x4_1).f0) : Int).toNat ((wrap64 (((rd_T30 l0 x4_1).f0) + 1)) : Int).toNat)) ++ t108) ++ (⟨#[44]⟩ : ByteArray)).size + t109.size ≤ 9223372036854775807) = true := decide_eq_true c39
                                try have c39b2 : (9223372036854775807 < (((x3_1 ++ ((⟨#[97, 98, 99, 100, 101]⟩ : ByteArray).extract (((rd_T30 l0 x4_1).f0) : Int).toNat ((wrap64 (((rd_T30 l0 x4_1).f0) + 1)) : Int).toNat)) ++ t108) ++ (⟨#[44]⟩ : ByteArray)).size + t109.size) = False := eq_false (Nat.not_lt.2 c39)
                                have H' := Aside0.mk H
                                clear H
                                try go_wp2
                                have n0_ := Aside0.mk (blk_drew BK102.out)
                                have n1_ := Aside0.mk (below_drew1 HB.out)
                                clear BK102
                                clear HB
                                have BK102 := n0_
                                have HB := n1_
                                clear n0_ n1_
                                refine start_ (n := 18) (S := fun w' => w'.cell? ⟨gb102, 0, none⟩ = some (.int .i64 ((rd_T30 l0 x4_1).f0)) ∧ w'.cell? ⟨gb102, 1, none⟩ = some (.int .i64 ((rd_T30 l0 x4_1).f1)) ∧ w'.cell? ⟨gb102, 2, none⟩ = some (.int .i64 ((rd_T30 l0 x4_1).f2))) (ds := []) #[false, false, false, false, false, false, false, false, false, false, false, false, false, false, false, false, false, false] (by kernel_rfl) rfl rfl ⟨(blk_cell BK102.out 0).trans rfl, (blk_cell BK102.out 1).trans rfl, (blk_cell BK102.out 2).trans rfl⟩ (fun hHeld => ?_); refine with_tabW spec_FormatDiagram.tab10 spec_FormatDiagram.bits10 (fun HT_ HW_ => ?_)
                                generalize wc.drew = w40 at BK102 HB hHeld ⊢
                                refine pure_ (i := 0) (N := some 41) (v := ?_) (a' := ?_) #[true, false, false, false, false, false, false, false, false, false, false, false, false, false, false, false, false, false] rfl rfl (any_of HT_.out (by kernel_rfl)) (fun _ _ _ h => h) (Or.inl ⟨by rfl, ?_⟩) ?_ ?_
                                rotate_left
                                · intro w'
                                  go_simp
                                  first | done | with_reducible rfl | (rw [if_neg (by have z1_ : (⟨#[32]⟩ : ByteArray).size = 1 := rfl; have z2_ : (⟨#[44]⟩ : ByteArray).size = 1 := rfl; have z3_ : (⟨#[97, 98, 99, 100, 101]⟩ : ByteArray).size = 5 := rfl; simp only [decide_eq_true_eq, ByteArray.size_extract, ByteArray.size_append] at *; omega)])
                                rotate_left
                                · simp only [Act.put, List.setIfInBounds_toArray, List.set_cons_zero, List.set_cons_succ, i64_w, i32_w]
                                  rfl
                                refine pure_ (i := 1) (N := some 42) (v := ?_) (a' := ?_) #[true, true, false, false, false, false, false, false, false, false, false, false, false, false, false, false, false, false] rfl rfl (any_of HT_.out (by kernel_rfl)) (fun _ _ _ h => h) (Or.inl ⟨by rfl, ?_⟩) ?_ ?_
                                rotate_left
                                · intro w'
                                  go_simp
                                  first | done | with_reducible rfl | (rw [if_neg (by have z1_ : (⟨#[32]⟩ : ByteArray).size = 1 := rfl; have z2_ : (⟨#[44]⟩ : ByteArray).size = 1 := rfl; have z3_ : (⟨#[97, 98, 99, 100, 101]⟩ : ByteArray).size = 5 := rfl; simp only [decide_eq_true_eq, ByteArray.size_extract, ByteArray.size_append] at *; omega)])
                                rotate_left
                                · simp only [Act.put, List.setIfInBounds_toArray, List.set_cons_zero, List.set_cons_succ, i64_w, i32_w]
                                  rfl
                                refine pure_ (i := 3) (N := some 44) (v := ?_) (a' := ?_) #[true, true, false, true, false, false, false, false, false, false, false, false, false, false, false, false, false, false] rfl rfl (any_of HT_.out (by kernel_rfl)) (fun _ _ _ h => h) (Or.inl ⟨by rfl, ?_⟩) ?_ ?_
                                rotate_left
                                · intro w'
                                  go_simp
                                  first | done | with_reducible rfl | (rw [if_neg (by have z1_ : (⟨#[32]⟩ : ByteArray).size = 1 := rfl; have z2_ : (⟨#[44]⟩ : ByteArray).size = 1 := rfl; have z3_ : (⟨#[97, 98, 99, 100, 101]⟩ : ByteArray).size = 5 := rfl; simp only [decide_eq_true_eq, ByteArray.size_extract, ByteArray.size_append] at *; omega)])
                                rotate_left
                                · simp only [Act.put, List.setIfInBounds_toArray, List.set_cons_zero, List.set_cons_succ, i64_w, i32_w]
                                  rfl
                                refine pure_ (i := 8) (N := some 49) (v := ?_) (a' := ?_) #[true, true, false, true, false, false, false, false, true, false, false, false, false, false, false, false, false, false] rfl rfl (any_of HT_.out (by kernel_rfl)) (fun _ _ _ h => h) (Or.inl ⟨by rfl, ?_⟩) ?_ ?_
                                rotate_left
                                · intro w'
                                  go_simp
                                  first | done | with_reducible rfl | (rw [if_neg (by have z1_ : (⟨#[32]⟩ : ByteArray).size = 1 := rfl; have z2_ : (⟨#[44]⟩ : ByteArray).size = 1 := rfl; have z3_ : (⟨#[97, 98, 99, 100, 101]⟩ : ByteArray).size = 5 := rfl; simp only [decide_eq_true_eq, ByteArray.size_extract, ByteArray.size_append] at *; omega)])
                                rotate_left
                                · simp only [Act.put, List.setIfInBounds_toArray, List.set_cons_zero, List.set_cons_succ, i64_w, i32_w]
                                  rfl
                                refine pure_ (i := 13) (N := some 54) (v := ?_) (a' := ?_) #[true, true, false, true, false, false, false, false, true, false, false, false, false, true, false, false, false, false] rfl rfl (any_of HT_.out (by kernel_rfl)) (fun _ _ _ h => h) (Or.inl ⟨by rfl, ?_⟩) ?_ ?_
                                rotate_left
                                · intro w'
                                  go_simp
                                  first | done | with_reducible rfl | (rw [if_neg (by have z1_ : (⟨#[32]⟩ : ByteArray).size = 1 := rfl; have z2_ : (⟨#[44]⟩ : ByteArray).size = 1 := rfl; have z3_ : (⟨#[97, 98, 99, 100, 101]⟩ : ByteArray).size = 5 := rfl; simp only [decide_eq_true_eq, ByteArray.size_extract, ByteArray.size_append] at *; omega)])
                                rotate_left
                                · simp only [Act.put, List.setIfInBounds_toArray, List.set_cons_zero, List.set_cons_succ, i64_w, i32_w]
                                  rfl
                                refine take_ (i := 2) (N := some 43) (v := ?_) (a' := ?_) #[true, true, true, true, false, false, false, false, true, false, false, false, false, true, false, false, false, false] rfl rfl (take_ofW HT_.out HW_.out (by kernel_rfl)) (fun _ _ _ h => h) (Or.inl ⟨by rfl, ?_⟩) hHeld ?_ ?_
                                rotate_left
                                · rintro w' ⟨s0, s1, s2⟩
                                  go_simp
                                  first | done | with_reducible rfl | (rw [if_neg (by have z1_ : (⟨#[32]⟩ : ByteArray).size = 1 := rfl; have z2_ : (⟨#[44]⟩ : ByteArray).size = 1 := rfl; have z3_ : (⟨#[97, 98, 99, 100, 101]⟩ : ByteArray).size = 5 := rfl; simp only [decide_eq_true_eq, ByteArray.size_extract, ByteArray.size_append] at *; omega)])
                                rotate_left
                                · simp only [Act.put, List.setIfInBounds_toArray, List.set_cons_zero, List.set_cons_succ, i64_w, i32_w]
                                  rfl
                                refine take_ (i := 4) (N := some 45) (v := ?_) (a' := ?_) #[true, true, true, true, true, false, false, false, true, false, false, false, false, true, false, false, false, false] rfl rfl (take_ofW HT_.out HW_.out (by kernel_rfl)) (fun _ _ _ h => h) (Or.inl ⟨by rfl, ?_⟩) hHeld ?_ ?_
                                rotate_left
                                · rintro w' ⟨s0, s1, s2⟩
                                  go_simp
                                  first | done | with_reducible rfl | (rw [if_neg (by have z1_ : (⟨#[32]⟩ : ByteArray).size = 1 := rfl; have z2_ : (⟨#[44]⟩ : ByteArray).size = 1 := rfl; have z3_ : (⟨#[97, 98, 99, 100, 101]⟩ : ByteArray).size = 5 := rfl; simp only [decide_eq_true_eq, ByteArray.size_extract, ByteArray.size_append] at *; omega)])
                                rotate_left
                                · simp only [Act.put, List.setIfInBounds_toArray, List.set_cons_zero, List.set_cons_succ, i64_w, i32_w]
                                  rfl
                                refine pure_ (i := 5) (N := some 46) (v := ?_) (a' := ?_) #[true, true, true, true, true, true, false, false, true, false, false, false, false, true, false, false, false, false] rfl rfl (any_of HT_.out (by kernel_rfl)) (fun _ _ _ h => h) (Or.inl ⟨by rfl, ?_⟩) ?_ ?_
                                rotate_left
                                · intro w'
                                  go_simp
                                  first | done | with_reducible rfl | (rw [if_neg (by have z1_ : (⟨#[32]⟩ : ByteArray).size = 1 := rfl; have z2_ : (⟨#[44]⟩ : ByteArray).size = 1 := rfl; have z3_ : (⟨#[97, 98, 99, 100, 101]⟩ : ByteArray).size = 5 := rfl; simp only [decide_eq_true_eq, ByteArray.size_extract, ByteArray.size_append] at *; omega)])
                                rotate_left
                                · simp only [Act.put, List.setIfInBounds_toArray, List.set_cons_zero, List.set_cons_succ, i64_w, i32_w]
                                  rfl
                                refine pure_ (i := 6) (N := some 47) (v := ?_) (a' := ?_) #[true, true, true, true, true, true, true, false, true, false, false, false, false, true, false, false, false, false] rfl rfl (any_of HT_.out (by kernel_rfl)) (fun _ _ _ h => h) (Or.inl ⟨by rfl, ?_⟩) ?_ ?_
                                rotate_left
                                · intro w'
                                  go_simp
                                  first | done | with_reducible rfl | (rw [if_neg (by have z1_ : (⟨#[32]⟩ : ByteArray).size = 1 := rfl; have z2_ : (⟨#[44]⟩ : ByteArray).size = 1 := rfl; have z3_ : (⟨#[97, 98, 99, 100, 101]⟩ : ByteArray).size = 5 := rfl; simp only [decide_eq_true_eq, ByteArray.size_extract, ByteArray.size_append] at *; omega)])
                                rotate_left
                                · simp only [Act.put, List.setIfInBounds_toArray, List.set_cons_zero, List.set_cons_succ, i64_w, i32_w]
                                  rfl
                                refine pure_ (i := 7) (N := some 48) (v := ?_) (a' := ?_) #[true, true, true, true, true, true, true, true, true, false, false, false, false, true, false, false, false, false] rfl rfl (any_of HT_.out (by kernel_rfl)) (fun _ _ _ h => h) (Or.inl ⟨by rfl, ?_⟩) ?_ ?_
                                rotate_left
                                · intro w'
                                  go_simp
                                  first | done | with_reducible rfl | (rw [if_neg (by have z1_ : (⟨#[32]⟩ : ByteArray).size = 1 := rfl; have z2_ : (⟨#[44]⟩ : ByteArray).size = 1 := rfl; have z3_ : (⟨#[97, 98, 99, 100, 101]⟩ : ByteArray).size = 5 := rfl; simp only [decide_eq_true_eq, ByteArray.size_extract, ByteArray.size_append] at *; omega)])
                                rotate_left
                                · simp only [Act.put, List.setIfInBounds_toArray, List.set_cons_zero, List.set_cons_succ, i64_w, i32_w]
                                  rfl
                                refine take_ (i := 9) (N := some 50) (v := ?_) (a' := ?_) #[true, true, true, true, true, true, true, true, true, true, false, false, false, true, false, false, false, false] rfl rfl (take_ofW HT_.out HW_.out (by kernel_rfl)) (fun _ _ _ h => h) (Or.inl ⟨by rfl, ?_⟩) hHeld ?_ ?_
                                rotate_left
                                · rintro w' ⟨s0, s1, s2⟩
                                  go_simp
                                  first | done | with_reducible rfl | (rw [if_neg (by have z1_ : (⟨#[32]⟩ : ByteArray).size = 1 := rfl; have z2_ : (⟨#[44]⟩ : ByteArray).size = 1 := rfl; have z3_ : (⟨#[97, 98, 99, 100, 101]⟩ : ByteArray).size = 5 := rfl; simp only [decide_eq_true_eq, ByteArray.size_extract, ByteArray.size_append] at *; omega)])
                                rotate_left
                                · simp only [Act.put, List.setIfInBounds_toArray, List.set_cons_zero, List.set_cons_succ, i64_w, i32_w]
                                  rfl
                                refine take_ (i := 14) (N := some 55) (v := ?_) (a' := ?_) #[true, true, true, true, true, true, true, true, true, true, false, false, false, true, true, false, false, false] rfl rfl (take_ofW HT_.out HW_.out (by kernel_rfl)) (fun _ _ _ h => h) (Or.inl ⟨by rfl, ?_⟩) hHeld ?_ ?_
                                rotate_left
                                · rintro w' ⟨s0, s1, s2⟩
                                  go_simp
                                  first | done | with_reducible rfl | (rw [if_neg (by have z1_ : (⟨#[32]⟩ : ByteArray).size = 1 := rfl; have z2_ : (⟨#[44]⟩ : ByteArray).size = 1 := rfl; have z3_ : (⟨#[97, 98, 99, 100, 101]⟩ : ByteArray).size = 5 := rfl; simp only [decide_eq_true_eq, ByteArray.size_extract, ByteArray.size_append] at *; omega)])
                                rotate_left
                                · simp only [Act.put, List.setIfInBounds_toArray, List.set_cons_zero, List.set_cons_succ, i64_w, i32_w]
                                  rfl
                                refine one_ (i := 10) (N := some 51) #[true, true, true, true, true, true, true, true, true, true, true, false, false, true, true, false, false, false] rfl rfl (one_of HT_.out (by kernel_rfl)) (by decide) (fun K hK => ?_)
                                refine goes_ Tryd.func10 (by kernel_rfl) rfl #[.int .i64 ((rd_T30 l0 x4_1).f1)] (by rfl) rfl rfl (by (try simp only [List.map_toArray, List.map_cons, List.map_nil]); first | done | rfl | (simp only [List.length_drop, List.length_take]; rfl)) ?_
                                with_reducible refine (spec_FormatInt.calls kj3 ((rd_T30 l0 x4_1).f1) t108 _ A35.out).mono ?_
                                rintro e w41 ⟨rfl, hb⟩
                                refine ⟨_, rfl, ?_⟩
                                have n0_ := Aside0.mk (blk_below (g := gb102) (o := .cells #[.int .i64 ((rd_T30 l0 x4_1).f0), .int .i64 ((rd_T30 l0 x4_1).f1), .int .i64 ((rd_T30 l0 x4_1).f2)] 30 (0, 0)) (by (with_reducible repeat (first | refine blk_drewN ?_ _ | refine blk_drew ?_ | refine blk_alloc ?_ _)); exact BK102.out) hb)
                                have n1_ := Aside0.mk (below_step (by repeat (first | (with_reducible first | exact HB.out | apply below_alloc | apply pw_below_drewN | apply below_drew1 | refine below_set ?_ GE102.out) | exact HB.out)) hb)
                                clear BK102
                                clear HB
                                have BK102 := n0_
                                have HB := n1_
                                clear n0_ n1_
                                (try clear hb)
                                (try clear hb2)
                                (try clear hk)
                                (try clear hi)
                                refine hK.out _ _ ⟨(blk_cell BK102.out 0).trans rfl, (blk_cell BK102.out 1).trans rfl, (blk_cell BK102.out 2).trans rfl⟩ (fun hHeld => ?_)
                                clear hK K
                                refine norm_ (a' := ?_) ?_ ?_
                                rotate_left
                                · show Act.put _ (some 51) _ = _
                                  simp only [Act.put, List.setIfInBounds_toArray, List.set_cons_zero, List.set_cons_succ, i64_w, i32_w]
                                  rfl
                                refine pure_ (i := 11) (N := some 52) (v := ?_) (a' := ?_) #[true, true, true, true, true, true, true, true, true, true, true, true, false, true, true, false, false, false] rfl rfl (any_of HT_.out (by kernel_rfl)) (fun _ _ _ h => h) (Or.inl ⟨by rfl, ?_⟩) ?_ ?_
                                rotate_left
                                · intro w'
                                  go_simp
                                  first | done | with_reducible rfl | (rw [if_neg (by have z1_ : (⟨#[32]⟩ : ByteArray).size = 1 := rfl; have z2_ : (⟨#[44]⟩ : ByteArray).size = 1 := rfl; have z3_ : (⟨#[97, 98, 99, 100, 101]⟩ : ByteArray).size = 5 := rfl; simp only [decide_eq_true_eq, ByteArray.size_extract, ByteArray.size_append] at *; omega)])
                                rotate_left
                                · simp only [Act.put, List.setIfInBounds_toArray, List.set_cons_zero, List.set_cons_succ, i64_w, i32_w]
                                  rfl
                                refine pure_ (i := 12) (N := some 53) (v := ?_) (a' := ?_) #[true, true, true, true, true, true, true, true, true, true, true, true, true, true, true, false, false, false] rfl rfl (any_of HT_.out (by kernel_rfl)) (fun _ _ _ h => h) (Or.inl ⟨by rfl, ?_⟩) ?_ ?_
                                rotate_left
                                · intro w'
                                  go_simp
                                  first | done | with_reducible rfl | (rw [if_neg (by have z1_ : (⟨#[32]⟩ : ByteArray).size = 1 := rfl; have z2_ : (⟨#[44]⟩ : ByteArray).size = 1 := rfl; have z3_ : (⟨#[97, 98, 99, 100, 101]⟩ : ByteArray).size = 5 := rfl; simp only [decide_eq_true_eq, ByteArray.size_extract, ByteArray.size_append] at *; omega)])
                                rotate_left
                                · simp only [Act.put, List.setIfInBounds_toArray, List.set_cons_zero, List.set_cons_succ, i64_w, i32_w]
                                  rfl
                                refine one_ (i := 15) (N := some 56) #[true, true, true, true, true, true, true, true, true, true, true, true, true, true, true, true, false, false] rfl rfl (one_of HT_.out (by kernel_rfl)) (by decide) (fun K hK => ?_)
                                refine goes_ Tryd.func10 (by kernel_rfl) rfl #[.int .i64 ((rd_T30 l0 x4_1).f2)] (by rfl) rfl rfl (by (try simp only [List.map_toArray, List.map_cons, List.map_nil]); first | done | rfl | (simp only [List.length_drop, List.length_take]; rfl)) ?_
                                with_reducible refine (spec_FormatInt.calls kj3 ((rd_T30 l0 x4_1).f2) t109 _ A38.out).mono ?_
                                rintro e w42 ⟨rfl, hb⟩
                                refine ⟨_, rfl, ?_⟩
                                have n0_ := Aside0.mk (blk_below (g := gb102) (o := .cells #[.int .i64 ((rd_T30 l0 x4_1).f0), .int .i64 ((rd_T30 l0 x4_1).f1), .int .i64 ((rd_T30 l0 x4_1).f2)] 30 (0, 0)) (by (with_reducible repeat (first | refine blk_drewN ?_ _ | refine blk_drew ?_ | refine blk_alloc ?_ _)); exact BK102.out) hb)
                                have n1_ := Aside0.mk (below_step (by repeat (first | (with_reducible first | exact HB.out | apply below_alloc | apply pw_below_drewN | apply below_drew1 | refine below_set ?_ GE102.out) | exact HB.out)) hb)
                                clear BK102
                                clear HB
                                have BK102 := n0_
                                have HB := n1_
                                clear n0_ n1_
                                (try clear hb)
                                (try clear hb2)
                                (try clear hk)
                                (try clear hi)
                                refine hK.out _ _ ⟨(blk_cell BK102.out 0).trans rfl, (blk_cell BK102.out 1).trans rfl, (blk_cell BK102.out 2).trans rfl⟩ (fun hHeld => ?_)
                                clear hK K
                                refine norm_ (a' := ?_) ?_ ?_
                                rotate_left
                                · show Act.put _ (some 56) _ = _
                                  simp only [Act.put, List.setIfInBounds_toArray, List.set_cons_zero, List.set_cons_succ, i64_w, i32_w]
                                  rfl
                                refine pure_ (i := 16) (N := some 57) (v := ?_) (a' := ?_) #[true, true, true, true, true, true, true, true, true, true, true, true, true, true, true, true, true, false] rfl rfl (any_of HT_.out (by kernel_rfl)) (fun _ _ _ h => h) (Or.inl ⟨by rfl, ?_⟩) ?_ ?_
                                rotate_left
                                · intro w'
                                  go_simp
                                  first | done | with_reducible rfl | (rw [if_neg (by have z1_ : (⟨#[32]⟩ : ByteArray).size = 1 := rfl; have z2_ : (⟨#[44]⟩ : ByteArray).size = 1 := rfl; have z3_ : (⟨#[97, 98, 99, 100, 101]⟩ : ByteArray).size = 5 := rfl; simp only [decide_eq_true_eq, ByteArray.size_extract, ByteArray.size_append] at *; omega)])
                                rotate_left
                                · simp only [Act.put, List.setIfInBounds_toArray, List.set_cons_zero, List.set_cons_succ, i64_w, i32_w]
                                  rfl
                                refine pure_ (i := 17) (N := some 3) (v := ?_) (a' := ?_) #[true, true, true, true, true, true, true, true, true, true, true, true, true, true, true, true, true, true] rfl rfl (any_of HT_.out (by kernel_rfl)) (fun _ _ _ h => h) (Or.inl ⟨by rfl, ?_⟩) ?_ ?_
                                rotate_left
                                · intro w'
                                  go_simp
                                  first | done | with_reducible rfl | (rw [if_neg (by have z1_ : (⟨#[32]⟩ : ByteArray).size = 1 := rfl; have z2_ : (⟨#[44]⟩ : ByteArray).size = 1 := rfl; have z3_ : (⟨#[97, 98, 99, 100, 101]⟩ : ByteArray).size = 5 := rfl; simp only [decide_eq_true_eq, ByteArray.size_extract, ByteArray.size_append] at *; omega)])
                                rotate_left
                                · simp only [Act.put, List.setIfInBounds_toArray, List.set_cons_zero, List.set_cons_succ, i64_w, i32_w]
                                  rfl
                                refine done_ (done_of HT_.out (by kernel_rfl)) ?_
                                try go_wp2
                                go_roundg kj3
                                case measure => have := HK1.out; have := HJ3.out; omega
                                case rel => exact ⟨((((x3_1 ++ ((⟨#[97, 98, 99, 100, 101]⟩ : ByteArray).extract (((rd_T30 l0 x4_1).f0) : Int).toNat ((wrap64 (((rd_T30 l0 x4_1).f0) + 1)) : Int).toNat)) ++ t108) ++ (⟨#[44]⟩ : ByteArray)) ++ t109), (wrap64 (x4_1 + 1)), (by first | rfl | (simp; done) | (simp [*]; done)), (by first | rfl | (simp; done) | (simp [*]; done)), H', ⟨by have := HK1.out; have := HJ3.out; omega⟩, ⟨by repeat (first | (with_reducible first | exact HB.out | apply below_alloc | apply pw_below_drewN | apply below_drew1 | refine below_set ?_ GE102.out) | exact HB.out)⟩⟩
                              · rw [if_neg c39] at H
                                exact absurd H (by simp)
                            · rw [if_neg c37] at H
                              exact absurd H (by simp)
                          · rw [if_neg c36] at H
                            exact absurd H (by simp)
                        · rw [if_neg c34] at H
                          exact absurd H (by simp)
                      · rw [if_neg c33] at H
                        exact absurd H (by simp)
                    · rw [if_neg c32] at H
                      exact absurd H (by simp)
                  · rw [if_neg c31] at H
                    exact absurd H (by simp)
        · rw [if_neg c3] at H
          exact absurd H (by simp)
      · rw [if_neg c2] at H
        have c2b0 : decide (x4_1 < (l0.length : Int)) = false := decide_eq_false c2
        clear c2
        by_cases c43 : x3_1.toList = ([] : List UInt8)
        · rw [if_pos c43] at H
          have c43b0 : (x3_1.toList == ([] : List UInt8)) = true := beq_iff_eq.mpr c43
          have c43b1 : (x3_1.toList != ([] : List UInt8)) = false := bne_eq_false_iff_eq.mpr c43
          clear c43
          obtain rfl := Option.some.inj H
          go_wp2
          go_ret
          exact ⟨by first | rfl | (simp [errW_none, errW_some] <;> rfl) | (simp [*, errW_none, errW_some] <;> rfl), by repeat (first | (with_reducible first | exact HB.out | apply below_alloc | apply pw_below_drewN | apply below_drew1) | exact HB.out)⟩
        · rw [if_neg c43] at H
          have c43b0 : (x3_1.toList == ([] : List UInt8)) = false := beq_eq_false_iff_ne.mpr c43
          have c43b1 : (x3_1.toList != ([] : List UInt8)) = true := bne_iff_ne.mpr c43
          obtain rfl := Option.some.inj H
          go_wp2
          go_ret
          exact ⟨by first | rfl | (simp [errW_none, errW_some] <;> rfl) | (simp [*, errW_none, errW_some] <;> rfl), by repeat (first | (with_reducible first | exact HB.out | apply below_alloc | apply pw_below_drewN | apply below_drew1) | exact HB.out)⟩

end Go.Proofs.YtflacbjpeecjcacDoor.F
